/- Modes related firmly, walked in the framework Ax.  Conditions: none beyond those stated.  Conditions: none beyond those stated. -/
import Derived.Test.YtlniliigcnedmaaGreatL5
import Derived.Laws.IdiomArrays
set_option linter.unusedSimpArgs false
set_option linter.unusedVariables false
namespace Go.Proofs.YtlniliigcnedmaaGreat
open Go Ax
open Relation
set_option maxRecDepth 100000
theorem chunk_set {cs:List AVal} {v:AVal} {i j q:Nat} (hj:j<6):chunk (cs.set (i*6+j) v) q=if q=i then (chunk cs i).set j v else chunk cs q:=by
 unfold chunk
 rw[List.drop_set]
 split
 ·rename_i h
  rw[if_neg (by omega)]
 ·rename_i h
  rw[List.take_set]
  by_cases hq:q=i
  ·subst hq
   rw[if_pos rfl,show q*6+j-q*6=j by omega]
  ·rw[if_neg hq]
   apply List.set_eq_of_length_le
   simp
   omega
def OwC (lo:Nat) (m:AMem) (s:AVal) (l:List Md):Prop:= ∃cs,Ow lo m 6 40 s l.length cs∧ ∀(i:Nat) x,l[i]? =some x→ ∀m',Ch (fun b=>s.blk=some b) m m'→RMode m' (chunk cs i) x
theorem OwC.tab {lo:Nat} {m:AMem} {s:AVal} {l:List Md} (h:OwC lo m s l):RTab m s l:=by
 obtain ⟨cs,h1,h2⟩:=h
 exact ⟨cs,h1.sl,fun i x hx=>h2 i x hx m (.refl _ _)⟩
theorem OwC.at {lo:Nat} {m:AMem} {s:AVal} {l:List Md} (h:OwC lo m s l) {i:Nat} (hi:i<l.length): ∃b o e nm,s.blk=some b∧(∀k,iaddrE 6 s (.int k i)=some (.ptr b o))∧loadE m 1 false (.ptr b (o+2))=some e∧loadE m 1 false (.ptr b (o+3))=some nm∧RInts m e l[i].elems∧RStrs m nm l[i].names∧
  ∀(t tn:AVal) (m2:AMem),m<+:m2→OwL (AVal.int .i64) m.length m2 3 t l[i].elems→OwL AVal.str m.length m2 9 tn l[i].names→ ∃m3,storeE m2 1 (.ptr b (o+2)) t=some (.undef,m3)∧ ∀m4,m3<+:m4→ ∃m5,storeE m4 1 (.ptr b (o+3)) tn=some (.undef,m5)∧Ch (fun c=>s.blk=some c) m m5∧OwC lo m5 s l:=by
 obtain ⟨cs,h1,h2⟩:=h
 obtain ⟨b,o,hb,hp,_⟩:=h1.store hi
 obtain ⟨b',o',hp',hl',_⟩:=h1.sl.at hi
 have:=hp .i64
 rw[hp' .i64] at this
 simp only[Option.some.injEq,AVal.ptr.injEq] at this
 obtain ⟨rfl,rfl⟩:=this
 have hcl:=h1.sl.length
 have hM:=h2 i _ (List.getElem?_eq_getElem hi) m (.refl _ _)
 obtain ⟨e,nm,c0,c1,c2,c3,c4,c5,he,hnm,hcc⟩:=hM.get
 have hget: ∀j,j<6→(chunk cs i)[j]? =cs[i*6+j]? :=fun j hj=>by
  unfold chunk
  rw[List.getElem?_take,if_pos hj,List.getElem?_drop]
 have hbl:=(h1.blk_lo hb).2
 refine ⟨b',o',e,nm,hb,hp,by rw[hl' 2 (by omega),←hget 2 (by omega)];exact c2,by rw[hl' 3 (by omega),←hget 3 (by omega)];exact c3,he,hnm,fun t tn m2 hm2 ht htn=>?_⟩
 have ts:=(Ow.sl ht).self
 have tns:=(Ow.sl htn).self
 have hb2: ∀{m2:AMem} {cs2:List AVal},Ow lo m2 6 40 s l.length cs2→ ∀(j:Nat) (v:AVal),j<6→v.cells= [v]→v.one=true→ ∃m',storeE m2 1 (.ptr b' (o'+j)) v=some (.undef,m')∧Ch (fun c=>c=b') m2 m'∧Ow lo m' 6 40 s l.length (cs2.set (i*6+j) v):=fun {m2 cs2} h j v hj h3 h4=>by
  obtain ⟨b2,o2,hbb,hpp,hst⟩:=h.store hi
  have:=hp .i64
  rw[hpp .i64] at this
  simp only[Option.some.injEq,AVal.ptr.injEq] at this
  obtain ⟨rfl,rfl⟩:=this
  obtain ⟨m',g1,g2,g3⟩:=hst j v (by rw[h3];simp;omega) (by rw[h3];simp[h4])
  rw[h3] at g1 g3
  exact ⟨m',g1,g2,g3⟩
 obtain ⟨m3,g1,g2,g3⟩:=hb2 (h1.mono hm2) 2 t (by omega) ts.2 ts.1
 refine ⟨m3,g1,fun m4 hm4=>?_⟩
 obtain ⟨m5,g4,g5,g6⟩:=hb2 (g3.mono hm4) 3 tn (by omega) tns.2 tns.1
 have hch2:Ch (fun c=>s.blk=some c) m2 m5:=((g2.weaken fun c _ h=>by rw[h];exact hb).trans (.of_prefix hm4)).trans (g5.weaken fun c _ h=>by rw[h];exact hb)
 have hch:Ch (fun c=>s.blk=some c) m m5:=(Ch.of_prefix hm2).trans hch2
 refine ⟨m5,g4,hch,_,g6,fun q x hx m' hc=>?_⟩
 rw[chunk_set (by omega)]
 by_cases hq:q=i
 ·subst hq
  rw[if_pos rfl,chunk_set (by omega),if_pos rfl,hcc]
  rw[List.getElem?_eq_getElem hi] at hx
  simp only[Option.some.injEq] at hx
  subst hx
  have hc2:=hch2.trans hc
  refine ⟨t,tn,rfl,OwL.ints (ht.ch hc2 fun c h1 h2=>?_),Ow.sl (htn.ch hc2 fun c h1 h2=>?_)⟩
  ·have:=(ht.blk_lo h1).1
   rw[hb] at h2
   cases h2
   omega
  ·have:=(htn.blk_lo h1).1
   rw[hb] at h2
   cases h2
   omega
 ·rw[if_neg hq,chunk_set (by omega),if_neg hq]
  exact h2 q x hx m' (hch.trans hc)
theorem OwC.mono {lo:Nat} {m m':AMem} {s:AVal} {l:List Md} (h:OwC lo m s l) (hm:m<+:m'):OwC lo m' s l:=by
 obtain ⟨cs,h1,h2⟩:=h
 exact ⟨cs,h1.mono hm,fun i x hx m'' hc=>h2 i x hx m'' ((Ch.of_prefix hm).trans hc)⟩
set_option maxHeartbeats 4000000 in
theorem k86 (s:AVal) (l:List Md) (m:AMem) (hs:RTab m s l) (h40: ∀y∈l,y.elems.length<2^40∧y.names.length<2^40) (hn:l.length<2^20):
  ACalls Tryz.prog 86 [s] m fun v m'=>m<+:m'∧RTab m' v l:=by
 refine w86 ?_
 simp
 refine C_of (k119 s l m m (List.prefix_refl _) hs (by omega)) ?_
 rintro v m1 ⟨hm1,hB⟩
 have hO0:OwC m.length m1 v l:=by
  obtain ⟨cs,h1,h2⟩:=hB
  exact ⟨cs,h1,fun i x hx m' hc=>(h2 i x hx).mono (hc.pre hm1 fun b hb e=>by have:=(h1.blk_lo e).1;omega)⟩
 have hvl:=hO0.tab.len
 simp[hvl]
 obtain ⟨I,hI⟩: ∃I:Nat→AFrame→AMem→Prop,∀q f m',I q f m'↔(∃k:Nat,k+q=l.length∧f=h86_0 v (.int .i64 l.length) (.int .i64 k)∧m<+:m'∧OwC m.length m' v l):=⟨_,fun _ _ _=>Iff.rfl⟩
 refine W_loop I l.length ((hI _ _ _).2 ⟨0,by simp,by simp,hm1,hO0⟩) ?_
 rintro q f m2 hIn
 obtain ⟨k,hk,rfl,hm2,hO⟩:=(hI _ _ _).1 hIn
 clear hIn
 simp
 refine bbind_dec (fun hkl=>?_) fun hkl=>?_
 ·have hkl:k<l.length:=by omega
  have hw:=step64 (k:=k) (n:=l.length) hkl (by omega)
  obtain ⟨q,rfl⟩: ∃q',q=q'+1:=⟨q-1,by omega⟩
  obtain ⟨b,o,e,nm,hb,hp,hl2,hl3,he,hnm,hst⟩:=hO.at hkl
  have hsy:=h40 _ (List.getElem_mem hkl)
  simp
  refine W_draw (fun i v m'=>(i=9→OwL (AVal.int .i64) m2.length m' 3 v l[k].elems)∧(i=15→OwL AVal.str m2.length m' 9 v l[k].names)) (by simp[maxDst]) ?_
  have: ∀(j:Nat) (m':AMem),noFacts j m':=fun _ _=>trivial
  refine D_pre 0 9 [9,10,11,12,13,14,15,16,17,18,19,20,21] (by simp only[List.drop_zero,List.drop_succ_cons,List.take_succ_cons,List.take_zero];rfl) rfl rfl ‹_› ?_
  simp[hp,hl2]
  intro _ _
  refine D_C rfl trivial rfl (fun m' hm' _=>(k117 e l[k].elems m' (he.mono hm') (by omega)).mono ?_) ?_ ?_ ?_
  ·rintro w m'' ⟨g1,g2⟩
   exact ⟨g1,fun _=>g2.lo' hm'.length_le,by simp⟩
  ·exact ⟨_,_,List.prefix_append _ _,fun _=>OwL.new m2 3 l[k].elems,by simp⟩
  ·rintro w m' m'' hm hk
   exact ⟨fun h=>(hk.1 h).mono hm,fun h=>(hk.2 h).mono hm⟩
  rintro v2 m3 hm3 hv2
  have v2s:=(Ow.sl (hv2.1 rfl)).self
  clear hv2
  refine D_P rfl trivial ?_
  simp
  refine D_P rfl trivial ?_
  simp
  refine D_P rfl trivial ?_
  simp[hp]
  refine D_P rfl trivial ?_
  simp
  refine D_R rfl trivial ⟨_,List.prefix_refl _,fun _ h=>by cases h⟩ ?_
  simp[hl3]
  refine D_C rfl trivial rfl (fun m' hm' _=>(k120 nm l[k].names m' (hnm.mono hm') (by omega)).mono ?_) ?_ ?_ ?_
  ·rintro w m'' ⟨g1,g2,_⟩
   exact ⟨g1,by simp,fun _=>g2.lo' hm'.length_le⟩
  ·exact ⟨_,_,List.prefix_append _ _,by simp,fun _=>OwL.new m2 9 l[k].names⟩
  ·rintro w m' m'' hm hk
   exact ⟨fun h=>(hk.1 h).mono hm,fun h=>(hk.2 h).mono hm⟩
  rintro v5 m4 hm4 hv5
  clear hv5
  refine D_P rfl trivial ?_
  simp[hp]
  refine D_P rfl trivial ?_
  simp
  refine D_W rfl rfl fun m5 hm5 hf=>?_
  have g9:=hf 9
  have g15:=hf 15
  simp[upd] at g9 g15
  obtain ⟨m6,hs6,hst6⟩:=hst v2 v5 m5 hm5 g9 g15
  simp[hs6]
  refine D_P rfl trivial ?_
  simp[hp]
  refine D_P rfl trivial ?_
  simp
  refine D_W rfl rfl fun m7 hm7 _=>?_
  obtain ⟨m8,hs8,hc8,hO8⟩:=hst6 m7 hm7
  simp[hs8]
  refine D_end fun m9 hm9 _=>?_
  simp[hw]
  refine ⟨q,by omega,(hI _ _ _).2 ⟨k+1,by omega,by simp,(hc8.pre hm2 fun c hc h=>?_).trans hm9,hO8.mono hm9⟩⟩
  obtain ⟨cs,hO1,_⟩:=hO
  have:=(hO1.blk_lo h).1
  omega
 ·have hkl:k=l.length:=by omega
  subst hkl
  simp
  exact ⟨hm2,hO.tab⟩
end Go.Proofs.YtlniliigcnedmaaGreat
namespace Go.Proofs.YtlniliigcnedmaaGreat
open Go Ax
open Relation
set_option maxRecDepth 100000
noncomputable def downV (l:List Md) (x:Int):List Md×Int×Int:=
 if rightI l [x]≠0 then ([],0,rightI l [x])
 else match downI l x.toNat with
  |none=>([],0,7)
  |some (l',n)=>(l',(n:Int),0)
theorem right1 {l:List Md} {x:Int} (h:rightI l [x]=0):checkI l=0∧ ∃a:Nat,x=a∧a<l.length:=by
 obtain ⟨hc,ns,h1,h2⟩:=rightA h
 refine ⟨hc,?_⟩
 cases ns with
 |nil=>cases h1
 |cons a ns=>
  simp only[List.map_cons,List.cons.injEq] at h1
  exact ⟨a,h1.1,h2 a List.mem_cons_self⟩
theorem bound1 {m:AMem} {e:AVal} {xs:List Int} (h:RInts m e xs) {z:Int} (hz:xs[0]? =some z): ∃b o,(∀k,iaddrE 1 e (.int k 0)=some (.ptr b o))∧ ∀m',m<+:m'→loadE m' 1 false (.ptr b o)=some (.int .i64 z):=by
 obtain ⟨h0,rfl⟩:=List.getElem?_eq_some_iff.1 hz
 obtain ⟨b,o,p1,p2⟩:=h.at (i:=0) h0
 exact ⟨b,o,fun k=>by simpa using p1 k,fun m' hm=>loadE_mono hm p2⟩
set_option maxHeartbeats 8000000 in
theorem k55 (s:AVal) (l:List Md) (x:Int) (m:AMem) (hs:RTab m s l) (hsm: ∀y∈l,smallN y) (hl:l.length<2^20) (hr:checkI l=0→Room l):
  ACalls Tryz.prog 55 [s,.int .i64 x] m fun v m'=>m<+:m'∧ ∃t,v= .tuple [t,.int .i64 (downV l x).2.1,.int .i64 (downV l x).2.2]∧RTab m' t (downV l x).1:=by
 refine w55 ?_
 simp[fillA,setN]
 have hA:=OwL.new (f:=AVal.int .i64) m 3 [x]
 have hm1:m<+:m++ [.own [.int .i64 x] 3 none]:=List.prefix_append _ _
 simp at hA
 generalize AVal.slice m.length 0 1 1 none=t1 at*
 generalize m++ [.own [.int .i64 x] 3 none]=m1 at*
 refine C_of (k15 s t1 l [x] m1 (hs.mono hm1) hA.ints hsm (by omega) (by simp)) ?_
 rintro _ m2 ⟨rfl,hm2⟩
 have hm02:=hm1.trans hm2
 by_cases hri:rightI l [x]=0
 rotate_left
 ·simp[bneT hri,downV,hri]
  exact ⟨hm02,RTab.nil0 _⟩
 obtain ⟨hc,a,rfl,ha⟩:=right1 hri
 replace hr:=hr hc
 have hV:downV l a=match downI l a with
  |none=>([],0,7)
  |some (l',n)=>(l',(n:Int),0):=by
  unfold downV
  rw[if_neg (by simp[hri]),Int.toNat_natCast]
 rw[hV]
 simp[hri]
 obtain ⟨bx',ox,c,h4,h5,_,_,h6⟩:=(hs.mono hm02).atC ha
 have hcl6:=h6.all
 simp[h4,h5]
 rw[store_new _ _ c _ _ 6 hcl6.1 rfl hcl6.2]
 obtain ⟨e,nm,_,_,_,_,_,_,he,hnm,rfl⟩:=h6.get
 have hb8:(m2++ [ABlk.own [.int .i64 l[a].kind,.int .i64 l[a].size,e,nm,.int .i64 l[a].dims,.bool l[a].flex] 40 none])[m2.length]? =some (.own [.int .i64 l[a].kind,.int .i64 l[a].size,e,nm,.int .i64 l[a].dims,.bool l[a].flex] 40 none):=by simp
 have hm23:m2<+:m2++ [ABlk.own [.int .i64 l[a].kind,.int .i64 l[a].size,e,nm,.int .i64 l[a].dims,.bool l[a].flex] 40 none]:=List.prefix_append _ _
 simp
 generalize m2++ [ABlk.own [.int .i64 l[a].kind,.int .i64 l[a].size,e,nm,.int .i64 l[a].dims,.bool l[a].flex] 40 none]=m3 at*
 generalize m2.length=b8 at*
 have hm03:=hm02.trans hm23
 have he3:=he.mono hm23
 have hma:=mdAt_eq ha
 by_cases h9:l[a].kind=9
 ·simp[h9]
  have hla:lead l a:= .inl (by rw[hma];exact h9)
  obtain ⟨hel,hhl⟩:=lead_elem hc ha hla
  rw[hma] at hel
  obtain ⟨b0,o0,p1,p2⟩:=bound1 he3 hel
  have hD:downI l a=some ((deflI l (headE l a)).1,leastN (deflI l (headE l a)).1 (deflI l (headE l a)).2):=by unfold downI;rw[if_pos (by rw[hma];exact h9)]
  rw[hD]
  simp[bx (own_read hb8),p1,p2 m3 (List.prefix_refl _)]
  refine C_of (k85 s l (headE l a) m3 (hs.mono hm03) hr hhl) ?_
  rintro _ m4 ⟨hm4,t,rfl,hT⟩
  have hd:=deflI_spec hr hhl
  have hr4:=hr.defl (by simpa using hhl) hd
  have hat:=(hd.ok hc (by simpa using hhl)).at_ 0 _ _ rfl rfl
  simp
  refine C_of (k86 t _ m4 hT hr4.h40 (by have:=hr4.len;omega)) ?_
  rintro v5 m5 ⟨hm5,hT5⟩
  simp
  refine C_of (k87 t _ _ m5 (hT.mono hm5) hr4 hat.1) ?_
  rintro _ m6 ⟨rfl,hm6⟩
  simp
  exact ⟨((hm03.trans hm4).trans hm5).trans hm6,hT5.mono hm6⟩
 ·simp[beqF h9]
  have hK9: ¬(mdAt l a).kind=9:=by rw[hma];exact h9
  have hD:downI l a=if (mdAt l a).kind=13∧(mdAt l a).elems.length=1∧(mdAt l (headE l a)).kind≠0 then some (l,leastN l (headE l a)) else none:=by unfold downI;rw[if_neg hK9]
  rw[hma] at hD
  have hlen:=he3.len
  by_cases h13:l[a].kind=13
  rotate_left
  ·have hDn:downI l a=none:=by rw[hD,if_neg (fun h=>h13 h.1)]
   rw[hDn]
   simp[beqF h13,bx (own_read hb8)]
   exact ⟨hm03,RTab.nil0 _⟩
  by_cases h1:l[a].elems.length=1
  rotate_left
  ·have h1': ¬(l[a].elems.length:Int)=1:=by omega
   have hDn:downI l a=none:=by rw[hD,if_neg (fun h=>h1 h.2.1)]
   rw[hDn]
   simp[h13,hlen,beqF h1',bx (own_read hb8)]
   exact ⟨hm03,RTab.nil0 _⟩
  have hla:lead l a:= .inr (by rw[hma];exact ⟨h13,h1⟩)
  obtain ⟨hel,hhl⟩:=lead_elem hc ha hla
  rw[hma] at hel
  obtain ⟨b0,o0,p1,p2⟩:=bound1 he3 hel
  obtain ⟨bh,oh,ch,k4,_,k5,_,_⟩:=(hs.mono hm03).atC hhl
  have hmh:=mdAt_eq hhl
  by_cases hv:l[headE l a].kind=0
  ·have hDn:downI l a=none:=by rw[hD,if_neg (fun h=>h.2.2 (by rw[hmh];exact hv))]
   rw[hDn]
   simp[h13,hlen,h1,bx (own_read hb8),p1,p2 m3 (List.prefix_refl _),k4,k5,hv]
   exact ⟨hm03,RTab.nil0 _⟩
  have hDs:downI l a=some (l,leastN l (headE l a)):=by rw[hD,if_pos ⟨h13,h1,by rw[hmh];exact hv⟩]
  rw[hDs]
  simp[h13,hlen,h1,bx (own_read hb8),p1,p2 m3 (List.prefix_refl _),k4,k5,bneT hv]
  refine W_draw (fun i v m'=>(i=1→RTab m' v l)∧(i=7→v= .int .i64 (leastN l (headE l a):Nat))) (by simp[maxDst]) ?_
  have: ∀(j:Nat) (m':AMem),noFacts j m':=fun _ _=>trivial
  refine D_P rfl trivial ?_
  simp
  refine D_C rfl trivial rfl (fun m' hm' _=>(k86 s l m' (hs.mono (hm03.trans hm')) hr.h40 hl).mono ?_) ?_ ?_ ?_
  ·rintro w m'' ⟨g1,g2⟩
   exact ⟨g1,fun _=>g2,by simp⟩
  ·exact ⟨s,m3,List.prefix_refl _,fun _=>hs.mono hm03,by simp⟩
  ·rintro w m' m'' hm hk
   exact ⟨fun h=>(hk.1 h).mono hm,fun h=>hk.2 h⟩
  rintro v1 m4 hm4 hv1
  clear hv1
  refine D_P rfl trivial ?_
  simp
  refine D_P rfl trivial ?_
  simp
  refine D_R rfl trivial ⟨_,List.prefix_refl _,fun _ h=>by cases h⟩ ?_
  simp[bx (own_read hb8)]
  refine D_P rfl trivial ?_
  simp[p1]
  refine D_R rfl trivial ⟨_,List.prefix_refl _,fun _ h=>by cases h⟩ ?_
  simp[p2 m3 (List.prefix_refl _)]
  refine D_C rfl trivial rfl (fun m' hm' _=>(k87 s l (headE l a) m' (hs.mono (hm03.trans hm')) hr hhl).mono ?_) ?_ ?_ ?_
  ·rintro w m'' ⟨rfl,g2⟩
   exact ⟨g2,by simp,fun _=>rfl⟩
  ·exact ⟨_,m3,List.prefix_refl _,by simp,fun _=>rfl⟩
  ·rintro w m' m'' hm hk
   exact ⟨fun h=>(hk.1 h).mono hm,fun h=>hk.2 h⟩
  rintro v7 m5 hm5 hv7
  obtain rfl:=hv7.2 rfl
  clear hv7
  refine D_P rfl trivial ?_
  simp
  refine D_P rfl trivial ?_
  simp
  refine D_P rfl trivial ?_
  simp
  refine D_end fun m6 hm6 hf=>?_
  have g1:=hf 1
  simp[upd] at g1
  simp
  exact ⟨hm03.trans hm6,g1⟩
end Go.Proofs.YtlniliigcnedmaaGreat
namespace Go.Proofs.YtlniliigcnedmaaGreat
open Go Ax
open Relation
set_option maxRecDepth 100000
theorem firstC_of {x y:Md} (h1:x.kind=y.kind) (h2:x.size=y.size) (h3:x.dims=y.dims) (h4:x.flex=y.flex) (h5:x.kind≠12→x.elems.length=y.elems.length) (h6:lexC cmpS x.names y.names=0):firstC x y=0:=by
 have hz: ∀z:Int,cmpI z z=0:=fun z=>cmpI_zero.2 rfl
 have hl:lenC x y=0:=by
  unfold lenC
  split
  ·rfl
  ·rename_i h;rw[h5 h];exact hz _
 simp[firstC,firstL,firstNZ_cons,h1,h2,h3,h4,h6,hl,hz,firstNZ]
inductive Dq (l:List Md):Nat→Nat→Prop
 |flat {e t:Nat}: ¬FlexP l e→RR l e=RR l t→Dq l e t
 |flex {e t:Nat}:FlexP l e→firstC (mdAt l t) (deflX (mdAt l e) ((mdAt l e).elems.map Int.toNat))=0→(∀(k:Nat) (a b:Int),(mdAt l e).elems[k]? =some a→(mdAt l t).elems[k]? =some b→Dq l a.toNat b.toNat)→Dq l e t
theorem deflX_first {x y:Md} {es es':List Nat} (hl:es.length=es'.length):firstC x (deflX y es)=0↔firstC x (deflX y es')=0:=by
 have key: ∀{es es':List Nat},es.length=es'.length→firstC x (deflX y es)=0→firstC x (deflX y es')=0:=fun {es es'} hl h=>by
  obtain ⟨a1,a2,a3,a4,a5,a6⟩:=firstC_all h
  exact firstC_of a1 a2 a3 a4 (fun h=>by have:=a5 h;simp only[deflX,List.length_map] at this ⊢;omega) a6
 exact ⟨key hl,key hl.symm⟩
theorem Dq.more {l k:List Md} (hx:Ext l k) (hc:checkI l=0) {e t:Nat} (h:Dq l e t):e<l.length→t<l.length→Dq k e t:=by
 have hg:=(okT_of hc).good
 induction h with
 |flat h1 h2=>exact fun he ht=> .flat (fun h=>h1 ((hx.flex hc he).1 h)) ((hx.rr hc he ht).2 h2)
 |flex h1 h2 _ ih=>
  intro he ht
  refine .flex ((hx.flex hc he).2 h1) (by rw[hx.md he,hx.md ht];exact h2) fun k a b g1 g2=>?_
  rw[hx.md he] at g1
  rw[hx.md ht] at g2
  exact ih k a b g1 g2 (elem_lt hg he g1).2 (elem_lt hg ht g2).2
theorem Dq.less {l k:List Md} (hx:Ext l k) (hc:checkI l=0) {e t:Nat} (h:Dq k e t):e<l.length→t<l.length→Dq l e t:=by
 have hg:=(okT_of hc).good
 induction h with
 |flat h1 h2=>exact fun he ht=> .flat (fun h=>h1 ((hx.flex hc he).2 h)) ((hx.rr hc he ht).1 h2)
 |flex h1 h2 _ ih=>
  intro he ht
  rw[hx.md he,hx.md ht] at h2
  refine .flex ((hx.flex hc he).1 h1) h2 fun k a b g1 g2=>?_
  exact ih k a b (by rw[hx.md he];exact g1) (by rw[hx.md ht];exact g2) (elem_lt hg he g1).2 (elem_lt hg ht g2).2
theorem put_rr {l1 l2:List Md} {x:Md} {n:Nat} (hc:checkI l1=0) (hx: ∀e∈x.elems,0≤e∧e<(l1.length:Int)) (hu:isU x=false) (hp:putI l1 x=(l2,(n:Int),0)) {t:Nat} (ht:t<l1.length):RR l2 n=RR l2 t↔sameX l1 t x:=by
 have hc':=putI_check hc hp
 have hg:=(okT_of hc).good
 have hg':=(okT_of hc').good
 rw[←last_iff hc hc' hx hu ht]
 rcases putI_row hc hc' hx hu with ⟨j,hj,h1,h2,_⟩|⟨h1,h2⟩
 ·rw[hp] at h1
  simp only[Prod.mk.injEq,Int.natCast_inj,and_true] at h1
  obtain ⟨rfl,rfl⟩:=h1
  have hn:=(last_iff hc hc' hx hu hj).2 h2
  constructor
  ·intro h;rw[←hn];exact (RR_grow hg hj ht h).symm
  ·intro h;exact RR_app hg hg' hj ht (by rw[hn,h])
 ·rw[hp] at h1
  simp only[Prod.mk.injEq,Int.natCast_inj,and_true] at h1
  obtain ⟨rfl,rfl⟩:=h1
  exact eq_comm
theorem DefL.dq {l l':List Md} {ms ns:List Nat} (h:DefL l ms l' ns):checkI l=0→(∀m∈ms,m<l.length)→ ∀(i e n:Nat),ms[i]? =some e→ns[i]? =some n→ ∀t,t<l.length→(RR l' n=RR l' t↔Dq l e t):=by
 induction h with
 |nil=>exact fun _ _ i e n h=>by simp at h
 | @flat l l' m ms ns hf h ih=>
  intro hc hm i e n h1 h2 t ht
  have hms:=fun x hx=>hm x (List.mem_cons_of_mem _ hx)
  have hml:=hm m List.mem_cons_self
  cases i with
  |zero=>
   simp only[List.getElem?_cons_zero,Option.some.injEq] at h1 h2
   subst h1 h2
   rw[(h.ok hc hms).ext.rr hc hml ht]
   exact ⟨fun h=> .flat hf h,fun h=>by cases h with
    |flat _ h=>exact h
    |flex h _ _=>exact absurd h hf⟩
  |succ i=>exact ih hc hms i e n (by simpa using h1) (by simpa using h2) t ht
 | @flex l l1 l2 l' m n0 ms ns es hf h1 hp h2 ih1 ih2=>
  intro hc hm i e n g1 g2 t ht
  have hg:=(okT_of hc).good
  have hms:=fun x hx=>hm x (List.mem_cons_of_mem _ hx)
  have hml:=hm m List.mem_cons_self
  have hel:=elems_lt hg hml
  have ok1:=h1.ok hc hel
  have hc1:=ok1.ext.check hc
  obtain ⟨hl,hr⟩:=h1.es hc hml
  obtain ⟨e12,hcx,hn2,_⟩:=put_defl hc1 hf hr hp
  have e2:=ok1.ext.trans e12
  have hl1:=ok1.ext.len
  have hl2:=e2.len
  have hc2:=e12.check hc1
  have hms2: ∀x∈ms,x<l2.length:=fun x hx=>by have:=hms x hx;omega
  have ok2:=h2.ok hc2 hms2
  have hu:isU (deflX (mdAt l m) es)=false:=by
   have:=rs_isU hf.rs.2
   unfold isU at this ⊢;exact this
  cases i with
  |zero=>
   simp only[List.getElem?_cons_zero,Option.some.injEq] at g1 g2
   subst g1 g2
   rw[ok2.ext.rr hc2 hn2 (by omega),put_rr hc1 (deflX_range fun e he=>(hr e he).1) hu hp (by omega)]
   unfold sameX
   rw[ok1.ext.md ht,deflX_first (es':=(mdAt l m).elems.map Int.toNat) (by simp[hl])]
   have hpt: ∀(k:Nat) (a b:Int) (d:Nat),(mdAt l m).elems[k]? =some a→(mdAt l t).elems[k]? =some b→es[k]? =some d→(RR l1 d=RR l1 b.toNat↔Dq l a.toNat b.toNat):=fun k a b d h3 h4 h5=>
    ih1 hc hel k a.toNat d (by rw[List.getElem?_map,h3];rfl) h5 b.toNat (elem_lt hg ht h4).2
   have hes: ∀(k:Nat) (z:Int),(deflX (mdAt l m) es).elems[k]? =some z↔ ∃d:Nat,es[k]? =some d∧z=d:=fun k z=>by
    simp only[deflX,List.getElem?_map,Option.map_eq_some_iff]
    exact ⟨fun ⟨d,h,e⟩=>⟨d,h,e.symm⟩,fun ⟨d,h,e⟩=>⟨d,h,e.symm⟩⟩
   constructor
   ·rintro ⟨h3,h4⟩
    refine .flex hf h3 fun k a b h5 h6=>?_
    have hk:k<es.length:=by have:=(List.getElem?_eq_some_iff.1 h5).1;omega
    have:=h4 k b (es[k]:Int) h6 ((hes k _).2 ⟨_,List.getElem?_eq_getElem hk,rfl⟩)
    rw[Int.toNat_natCast] at this
    exact (hpt k a b _ h5 h6 (List.getElem?_eq_getElem hk)).1 this.symm
   ·intro h
    cases h with
    |flat h _=>exact absurd hf h
    |flex _ h3 h4=>
     refine ⟨h3,fun k b z h5 h6=>?_⟩
     obtain ⟨d,h7,rfl⟩:=(hes k z).1 h6
     have hk:k<(mdAt l m).elems.length:=by have:=(List.getElem?_eq_some_iff.1 h7).1;omega
     have h8:=List.getElem?_eq_getElem hk
     rw[Int.toNat_natCast]
     exact ((hpt k _ b d h8 h5 h7).2 (h4 k _ b h8 h5)).symm
  |succ i=>
   simp only[List.getElem?_cons_succ] at g1 g2
   have hel':=hms e (List.mem_of_getElem? g1)
   rw[ih2 hc2 hms2 i e n g1 g2 t (by omega)]
   exact ⟨fun h=>h.less e2 hc hel' ht,fun h=>h.more e2 hc hel' ht⟩
theorem Dq.congr {l:List Md} (hc:checkI l=0) {e t:Nat} (h:Dq l e t): ∀{e':Nat},e<l.length→e'<l.length→t<l.length→RR l e=RR l e'→Dq l e' t:=by
 have hg:=(okT_of hc).good
 induction h with
 |flat h1 h2=>exact fun he he' _ hr=> .flat (fun h=>h1 (h.congr hg he' he hr.symm)) (by rw[←hr];exact h2)
 | @flex e t h1 h2 _ ih=>
  intro e' he he' ht hr
  have hu:=rs_isU h1.rs.2
  obtain ⟨hl,hel⟩:=RR_elem hg he he' hr hu
  obtain ⟨a1,a2,a3,a4,a5,a6⟩:=firstC_all (RR_first he he' hr)
  have hdd:firstC (deflX (mdAt l e) ((mdAt l e).elems.map Int.toNat)) (deflX (mdAt l e') ((mdAt l e').elems.map Int.toNat))=0:=firstC_of a1 a2 a3 rfl (fun _=>by simp[deflX,hl]) a6
  refine .flex (h1.congr hg he he' hr) (firstC_ord.zero_trans trivial trivial trivial h2 hdd) fun k a b g1 g2=>?_
  have hk:k<(mdAt l e).elems.length:=by have:=(List.getElem?_eq_some_iff.1 g1).1;omega
  have h3:=List.getElem?_eq_getElem hk
  exact ih k _ b h3 g2 (elem_lt hg he h3).2 (elem_lt hg he' g1).2 (elem_lt hg ht g2).2 (hel k _ a h3 g1)
theorem leastN_congr {l:List Md} {a b:Nat} (h:RR l a=RR l b):leastN l a=leastN l b:=by
 unfold leastN leastI
 rw[h]
theorem downI_congr {l:List Md} (hr:Room l) {a b:Nat} (ha:a<l.length) (hb:b<l.length) (he:RR l a=RR l b) (hnf:lead l a→ ¬FlexP l (headE l a)):downI l a=downI l b:=by
 have hc:=hr.ck
 have hg:=(okT_of hc).good
 have hk:=RR_kind ha hb he
 unfold downI
 rw[←hk]
 by_cases h9:(mdAt l a).kind=9
 ·have hla:lead l a:= .inl h9
  have hlb:=lead_congr hc ha hb he hla
  have hna:=hnf hla
  have hh:=head_congr hc ha hb he hla
  have hea:=(lead_elem hc ha hla).2
  have heb:=(lead_elem hc hb hlb).2
  have hnb: ¬FlexP l (headE l b):=fun h=>hna (h.congr hg heb hea hh.symm)
  rw[if_pos h9,if_pos h9,(DefL.flat hna .nil).eq,(DefL.flat hnb .nil).eq]
  simp only
  rw[leastN_congr hh]
 ·rw[if_neg h9,if_neg h9]
  by_cases h13:(mdAt l a).kind=13
  ·have hu:isU (mdAt l a)=false:=by simp[isU,h13]
   have hl:=(RR_elem hg ha hb he hu).1
   rw[←hl]
   by_cases h1:(mdAt l a).elems.length=1
   ·have hla:lead l a:= .inr ⟨h13,h1⟩
    have hlb:=lead_congr hc ha hb he hla
    have hh:=head_congr hc ha hb he hla
    have hea:=(lead_elem hc ha hla).2
    have heb:=(lead_elem hc hb hlb).2
    rw[←RR_kind hea heb hh,leastN_congr hh]
   ·rw[if_neg (fun h=>h1 h.2.1),if_neg (fun h=>h1 h.2.1)]
  ·rw[if_neg (fun h=>h13 h.1),if_neg (fun h=>h13 h.1)]
theorem firm_right {a b:Nat}: ∀(F:Nat) (l:List Md) (m:Nat),Room l→m<l.length→a<l.length→b<l.length→RR l a=RR l b→firmI F l m a=firmI F l m b
 |0,_,_,_,_,_,_,_=>rfl
 |F+1,l,m,hr,hm,ha,hb,he=>by
  have hg:=(okT_of hr.ck).good
  simp only[firmI]
  rw[he,uniB_twin2 hg ha hb hm he]
  cases hd:downI l m with
  |none=>rfl
  |some p=>
   obtain ⟨l',n⟩:=p
   obtain ⟨_,hr',hx,hn,_⟩:=down_ok hr hm hd
   have:=hx.len
   simp only
   rw[firm_right F l' n hr' hn (by omega) (by omega) ((hx.rr hr.ck ha hb).2 he)]
theorem defl_meets {l:List Md} (hr:Room l) {e:Nat} (he:e<l.length) (hf:FlexP l e) {to:Nat} (ht:to<l.length):
  (RR (deflI l e).1 (leastN (deflI l e).1 (deflI l e).2)=RR (deflI l e).1 to↔Dq l e to)∧
  (uniB (deflI l e).1 (leastN (deflI l e).1 (deflI l e).2) to=true↔isU (mdAt l to)=true∧ ∃j,IsBase l to j∧Dq l e j)∧downI (deflI l e).1 (leastN (deflI l e).1 (deflI l e).2)=none:=by
 have hd:=deflI_spec hr he
 have ok:=hd.ok hr.ck (by simpa using he)
 have hrk:=hr.defl (by simpa using he) hd
 have hdq:=hd.dq hr.ck (by simpa using he) 0 _ _ rfl rfl
 have hat:=ok.at_ 0 _ _ rfl rfl
 generalize deflI l e=p at*
 obtain ⟨k,d⟩:=p
 simp only at*
 obtain ⟨_,h2,h3⟩:=leastN_spec hat.1
 have hg:=(okT_of hr.ck).good
 have hgk:=(okT_of hrk.ck).good
 have hl:=ok.ext.len
 have hrs:=hf.rs.2
 have hkk:(mdAt l e).kind=10∨(mdAt l e).kind=11:=by
  unfold rowStruct at hrs;simpa only[Bool.or_eq_true,beq_iff_eq] using hrs
 have hk2:(mdAt k (leastN k d)).kind=(mdAt l e).kind:=by rw[RR_kind h2 hat.1 h3,hat.2.1]
 have hun:isU (mdAt k (leastN k d))=false:=by simp[isU,hk2];omega
 refine ⟨by rw[h3];exact hdq to ht,?_,?_⟩
 ·rw[uniB_iff hgk h2 (by omega),ok.ext.md ht]
  constructor
  ·rintro ⟨hu,_,h4⟩
   obtain ⟨j,h5,h6⟩:=h4 _ ((base_el hun).2 rfl)
   have h5:=(ok.ext.base hr.ck ht).1 h5
   exact ⟨hu,j,h5,(hdq j (h5.lt hg ht)).1 (by rw[←h3];exact h6.symm)⟩
  ·rintro ⟨hu,j,h5,h6⟩
   have hj:=h5.lt hg ht
   have h7:=(hdq j hj).2 h6
   refine ⟨hu,fun h=>?_,fun x hx=>?_⟩
   ·have:=RR_isU h2 (by omega) h
    rw[hun,ok.ext.md ht,hu] at this
    cases this
   ·rw[(base_el hun).1 hx]
    exact ⟨j,(ok.ext.base hr.ck ht).2 h5,by rw[h3];exact h7.symm⟩
 ·unfold downI
  rw[if_neg (by omega),if_neg (by omega)]
theorem meet_eq {A B:Prop} [Decidable A] [Decidable B] {u v:Bool} (h:A↔B) (hu:u=v):(if A∨u=true then some (0,!decide A) else (none:Option (Nat×Bool)))=if B∨v=true then some (0,!decide B) else none:=by
 subst hu
 by_cases ha:A
 ·simp[ha,h.1 ha]
 ·have hb: ¬B:=fun h'=>ha (h.2 h')
  simp[ha,hb]
theorem firm_stop (F:Nat) (l:List Md) (m to:Nat) (h:downI l m=none):firmI (F+1) l m to=if RR l m=RR l to∨uniB l m to=true then some (0,!decide (RR l m=RR l to)) else none:=by
 rw[firmI,h]
theorem flex_ref {l:List Md} (hc:checkI l=0) {a:Nat} (ha:a<l.length) (hla:lead l a) (hfa:FlexP l (headE l a)):(mdAt l a).kind=9:=by
 rcases hla with h|h
 ·exact h
 ·exfalso
  have hmem:mdAt l a∈l:=by rw[mdAt_eq ha];exact List.getElem_mem ha
  have hel:=(lead_elem hc ha (.inr h)).1
  exact (checkOk_iff.1 hc).flex _ hmem (by simp[flexOf,h.1]) _ (List.mem_of_getElem? hel) (by simpa using hfa)
theorem down_ref {l:List Md} {a:Nat} (h9:(mdAt l a).kind=9):downI l a=some ((deflI l (headE l a)).1,leastN (deflI l (headE l a)).1 (deflI l (headE l a)).2):=by
 unfold downI
 rw[if_pos h9]
theorem firm_flex {to:Nat} (F:Nat) (l:List Md) (a b:Nat) (hr:Room l) (ha:a<l.length) (hb:b<l.length) (ht:to<l.length) (he:RR l a=RR l b) (hla:lead l a) (hfa:FlexP l (headE l a)):
  firmI F (deflI l (headE l a)).1 (leastN (deflI l (headE l a)).1 (deflI l (headE l a)).2) to=firmI F (deflI l (headE l b)).1 (leastN (deflI l (headE l b)).1 (deflI l (headE l b)).2) to:=by
 have hc:=hr.ck
 have hg:=(okT_of hc).good
 have hlb:=lead_congr hc ha hb he hla
 have hh:=head_congr hc ha hb he hla
 have hea:=(lead_elem hc ha hla).2
 have heb:=(lead_elem hc hb hlb).2
 have hfb:=hfa.congr hg hea heb hh
 obtain ⟨m1,m2,m3⟩:=defl_meets hr hea hfa ht
 obtain ⟨n1,n2,n3⟩:=defl_meets hr heb hfb ht
 have q1:Dq l (headE l a) to↔Dq l (headE l b) to:=⟨fun h=>h.congr hc hea heb ht hh,fun h=>h.congr hc heb hea ht hh.symm⟩
 have q2:(∃j,IsBase l to j∧Dq l (headE l a) j)↔ ∃j,IsBase l to j∧Dq l (headE l b) j:=
  ⟨fun ⟨j,h1,h2⟩=>⟨j,h1,h2.congr hc hea heb (h1.lt hg ht) hh⟩,fun ⟨j,h1,h2⟩=>⟨j,h1,h2.congr hc heb hea (h1.lt hg ht) hh.symm⟩⟩
 cases F with
 |zero=>simp only[firmI]
 |succ F=>
  rw[firm_stop F _ _ _ m3,firm_stop F _ _ _ n3]
  refine meet_eq (m1.trans (q1.trans n1.symm)) ?_
  rw[Bool.eq_iff_iff,m2,n2]
  exact and_congr_right fun _=>q2
theorem firm_left {to:Nat}: ∀(F:Nat) (l:List Md) (a b:Nat),Room l→a<l.length→b<l.length→to<l.length→RR l a=RR l b→firmI F l a to=firmI F l b to
 |0,_,_,_,_,_,_,_,_=>rfl
 |F+1,l,a,b,hr,ha,hb,ht,he=>by
  have hc:=hr.ck
  have hg:=(okT_of hc).good
  simp only[firmI]
  rw[he,uniB_twin1 hg ha hb ht he]
  split
  ·rfl
  by_cases hnf:lead l a∧FlexP l (headE l a)
  ·have h9:=flex_ref hc ha hnf.1 hnf.2
   rw[down_ref h9,down_ref (by rw[←RR_kind ha hb he];exact h9)]
   simp only
   rw[firm_flex F l a b hr ha hb ht he hnf.1 hnf.2]
  ·rw[downI_congr hr ha hb he fun h h'=>hnf ⟨h,h'⟩]
theorem bases_match {l:List Md} (hc:checkI l=0) {a b:Nat} (ha:a<l.length) (hb:b<l.length) (he:RR l a=RR l b) {z:Nat} (hz:z∈basesOf l a): ∃z'∈basesOf l b,RR l z=RR l z':=by
 have hg:=(okT_of hc).good
 have hzb:=basesOf_sub hg ha hz
 have:=(hasRR_congr hg ha hb he).1 ⟨z,hzb,rfl⟩
 obtain ⟨j,h1,h2⟩:=this
 obtain ⟨z',h3,h4⟩:=basesOf_cov hg hb h1
 exact ⟨z',h3,by rw[h4,h2]⟩
theorem relI_some {l:List Md} {a b:Nat}:(relI l a b).isSome=true↔(∃z∈basesOf l a,(firmI 100 l z b).isSome=true)∨(∃z∈basesOf l b,(firmI 100 l z a).isSome=true):=by
 unfold relI
 rw[better_some,half_some,half_some,Bool.or_eq_true,List.any_eq_true,List.any_eq_true]
theorem relI_left {l:List Md} (hr:Room l) {a b c:Nat} (ha:a<l.length) (hb:b<l.length) (hcl:c<l.length) (he:RR l a=RR l b):(relI l a c).isSome=(relI l b c).isSome:=by
 have hg:=(okT_of hr.ck).good
 have hlt: ∀{x z:Nat},x<l.length→z∈basesOf l x→z<l.length:=fun hx hz=>(basesOf_sub hg hx hz).lt hg hx
 have key: ∀{a b:Nat},a<l.length→b<l.length→RR l a=RR l b→(relI l a c).isSome=true→(relI l b c).isSome=true:=fun {a b} ha hb he h=>by
  rw[relI_some] at h ⊢
  rcases h with ⟨z,hz,h⟩|⟨z,hz,h⟩
  ·obtain ⟨z',hz',hzz⟩:=bases_match hr.ck ha hb he hz
   exact .inl ⟨z',hz',by rw[←firm_left 100 l z z' hr (hlt ha hz) (hlt hb hz') hcl hzz];exact h⟩
  ·exact .inr ⟨z,hz,by rw[←firm_right 100 l z hr (hlt hcl hz) ha hb he];exact h⟩
 rw[Bool.eq_iff_iff]
 exact ⟨key ha hb he,key hb ha he.symm⟩
theorem bases_nu {l:List Md} (hg:goodT l) {a:Nat} (ha:a<l.length) (hu:isU (mdAt l a)=false):basesOf l a= [a]:=(basesEx hg ha).el hu
end Go.Proofs.YtlniliigcnedmaaGreat
namespace Go.Proofs.YtlniliigcnedmaaGreat
open Go Ax
set_option maxRecDepth 100000
theorem w3 {args m R} (h:W Tryz.prog (.seq (.reg [qb 6 false]) (.kill [0,1,2] (.seq (.seq (.reg [qc 11 5 [],⟨some 12,.P (.un .not (.t 11)),none⟩]) (.kill [0,1,2,12] (.cond (.t 12) (.seq (.reg [qb 6 false]) .ret) .skip))) (.kill [0,1,2] (.seq (.seq (.reg [qv 13 0,qc 14 6 [(.t 13),(qz 10)],⟨some 15,.P (.un .not (.t 14)),none⟩,qv 16 15,⟨some 17,.P (.mov (.t 1)),(some (16,false))⟩,⟨some 18,.P (.len (.t 17)),(some (16,false))⟩,⟨some 19,.P (.bin .gtr (.t 18) (qz 4)),(some (16,false))⟩,⟨some 20,.P (.pick (.t 16) (.c (.bool true)) (.t 19)),none⟩,qv 21 20,⟨some 22,.P (.mov (.t 2)),(some (21,false))⟩,⟨some 23,.P (.len (.t 22)),(some (21,false))⟩,⟨some 24,.P (.bin .gtr (.t 23) (qz 4)),(some (21,false))⟩,⟨some 25,.P (.pick (.t 21) (.c (.bool true)) (.t 24)),none⟩]) (.kill [0,1,2,25] (.cond (.t 25) (.seq (.reg [qb 6 true]) .ret) .skip))) (.kill [0,1,2] (.seq (.reg [qv 27 0,qv 28 1,qv 29 2,qc 30 7 [(.t 27),(.t 28),(.t 29)],qv 26 30,qx 31 26 0,qx 32 26 1,qv 7 31,qv 8 32]) (.kill [0,1,2,7,8] (.seq (.reg [qv 34 0,qv 35 1,qv 36 2,qc 37 8 [(.t 34),(.t 35),(.t 36)],qv 33 37,qx 38 33 0,qx 39 33 1,qv 9 38,qv 10 39]) (.kill [7,8,9,10] (.seq (.reg [qv 40 7,qv 41 9,⟨some 42,.P (.eqB false (.t 40) (.t 41)),none⟩,qv 43 42,⟨some 44,.P (.mov (.t 8)),(some (43,true))⟩,⟨some 45,.P (.mov (.t 10)),(some (43,true))⟩,⟨some 46,.P (.bin .eql (.t 44) (.t 45)),(some (43,true))⟩,⟨some 47,.P (.pick (.t 43) (.t 46) (.c (.bool false))),none⟩,qv 6 47]) .ret))))))))))) (E [(.tmp 6)] R .mk) .mk (mat 48 (sArgs 0 args)) m) (hl:Nat.ble args.length 48=true:=by rfl):ACalls Tryz.prog 3 args m R:=walk mix (by kernel_rfl) (Nat.le_of_ble_eq_true hl) h
theorem w4 {args m R} (h:W Tryz.prog (.seq (.reg [⟨some 3,.A (.box 30 (.t 1)),none⟩,qb 4 false]) (.kill [0,3] (.seq (.seq (.reg [qc 20 5 [],⟨some 21,.P (.un .not (.t 20)),none⟩]) (.kill [0,3,21] (.cond (.t 21) (.seq (.reg [qb 4 false]) .ret) .skip))) (.kill [0,3] (.seq (.draw true [⟨some 22,.P (.iaddrA 3 1 (.t 3) (qz 0)),none⟩,ql 23 22,⟨some 24,.P (.iaddrA 3 1 (.t 3) (qz 1)),none⟩,ql 25 24,⟨some 26,.P (.iaddrA 3 1 (.t 3) (qz 2)),none⟩,ql 27 26,qv 5 23,qv 6 25,qv 7 27] [[],[],[],[],[],[],[],[],[]] [[],[],[],[],[],[],[],[],[]] [0,1,2,3,4,5,6,7,8]) (.kill [0,5,6,7] (.seq (.seq (.reg [qv 28 0,qc 29 6 [(.t 28),(qz 10)],⟨some 30,.P (.un .not (.t 29)),none⟩,qv 31 30,⟨some 32,.P (.mov (.t 0)),(some (31,false))⟩,⟨some 33,.P (.mov (.t 5)),(some (31,false))⟩,⟨some 34,.P (.mov (.t 6)),(some (31,false))⟩,⟨some 35,.P (.mov (.t 7)),(some (31,false))⟩,⟨some 36,.A (.bslice 3 3 [(.int .i64 0)] [(0,(1,(.t 33))),(1,(1,(.t 34))),(2,(1,(.t 35)))]),(some (31,false))⟩,⟨some 37,.C (.c (.func (.func 9) [] [])) [(.t 32),(.t 36)],(some (31,false))⟩,⟨some 38,.P (.un .not (.t 37)),(some (31,false))⟩,⟨some 39,.P (.pick (.t 31) (.c (.bool true)) (.t 38)),none⟩]) (.kill [0,5,6,7,39] (.cond (.t 39) (.seq (.reg [qb 4 true]) .ret) .skip))) (.kill [0,5,6,7] (.seq (.reg [qv 41 0,qv 42 5,qv 43 6,qc 44 10 [(.t 41),(.t 42),(.t 43)],qv 40 44,qx 45 40 0,qx 46 40 1,qv 8 45,qv 9 46]) (.kill [0,5,6,7,8,9] (.seq (.reg [qv 48 0,qv 49 5,qv 50 7,qc 51 11 [(.t 48),(.t 49),(.t 50)],qv 47 51,qx 52 47 0,qx 53 47 1,qx 54 47 2,⟨some 10,.A (.alloc 34 [(.bool false),(.int .i64 0),(.int .i64 0),(.bool false)]),none⟩,⟨none,.W (.store 4 (.t 10) (.t 52)),none⟩,qv 11 53,qv 12 54]) (.kill [0,5,6,7,8,9,11,12] (.seq (.reg [qv 56 0,qv 57 6,qv 58 7,qc 59 11 [(.t 56),(.t 57),(.t 58)],qv 55 59,qx 60 55 0,qx 61 55 1,qx 62 55 2,⟨some 13,.A (.alloc 34 [(.bool false),(.int .i64 0),(.int .i64 0),(.bool false)]),none⟩,⟨none,.W (.store 4 (.t 13) (.t 60)),none⟩,qv 14 61,qv 15 62]) (.kill [0,5,6,7,8,9,11,12,14,15] (.seq (.reg [qv 64 0,qv 65 5,qv 66 6,⟨some 67,.A (.bslice 3 2 [(.int .i64 0)] [(0,(1,(.t 65))),(1,(1,(.t 66)))]),none⟩,qv 68 7,qv 69 7,⟨some 70,.A (.bslice 3 2 [(.int .i64 0)] [(0,(1,(.t 68))),(1,(1,(.t 69)))]),none⟩,qc 71 7 [(.t 64),(.t 67),(.t 70)],qv 63 71,qx 72 63 0,qx 73 63 1,qv 16 72,qv 17 73]) (.kill [0,5,6,7,8,9,11,12,14,15,16,17] (.seq (.reg [qv 75 0,qv 76 5,qv 77 6,⟨some 78,.A (.bslice 3 2 [(.int .i64 0)] [(0,(1,(.t 76))),(1,(1,(.t 77)))]),none⟩,qv 79 7,⟨some 80,.A (.bslice 3 1 [(.int .i64 0)] [(0,(1,(.t 79)))]),none⟩,qc 81 7 [(.t 75),(.t 78),(.t 80)],qv 74 81,qx 82 74 0,qx 83 74 1,qv 18 82,qv 19 83]) (.kill [8,9,11,12,14,15,16,17,18,19] (.seq (.reg [qv 84 9,qv 85 12,qo 86 .add 84 85,qv 87 15,qo 88 .add 86 87,qv 89 17,qo 90 .add 88 89,qv 91 19,qo 92 .add 90 91,qk 93 .eql 92 0,qv 94 93,⟨some 95,.P (.mov (.t 8)),(some (94,true))⟩,⟨some 96,.P (.un .not (.t 95)),(some (94,true))⟩,⟨some 97,.P (.mov (.t 96)),(some (94,true))⟩,⟨some 98,.P (.mov (.t 11)),(some (97,false))⟩,⟨some 99,.P (.mov (.t 14)),(some (97,false))⟩,⟨some 100,.P (.eqB false (.t 98) (.t 99)),(some (97,false))⟩,⟨some 101,.P (.pick (.t 97) (.c (.bool true)) (.t 100)),(some (94,true))⟩,⟨some 102,.P (.pick (.t 94) (.t 101) (.c (.bool false))),none⟩,qv 103 102,⟨some 104,.P (.mov (.t 16)),(some (103,true))⟩,⟨some 105,.P (.mov (.t 11)),(some (103,true))⟩,⟨some 106,.P (.mov (.t 105)),(some (103,true))⟩,⟨some 107,.P (.mov (.t 14)),(some (106,true))⟩,⟨some 108,.P (.pick (.t 106) (.t 107) (.c (.bool false))),(some (103,true))⟩,⟨some 109,.P (.eqB false (.t 104) (.t 108)),(some (103,true))⟩,⟨some 110,.P (.pick (.t 103) (.t 109) (.c (.bool false))),none⟩,qv 111 110,⟨some 112,.P (.mov (.t 18)),(some (111,true))⟩,⟨some 113,.P (.un .not (.t 112)),(some (111,true))⟩,⟨some 114,.P (.pick (.t 111) (.t 113) (.c (.bool false))),none⟩,qv 4 114]) .ret))))))))))))))))))) (E [(.tmp 4)] R .mk) .mk (mat 115 (sArgs 0 args)) m) (hl:Nat.ble args.length 115=true:=by rfl):ACalls Tryz.prog 4 args m R:=walk mix (by kernel_rfl) (Nat.le_of_ble_eq_true hl) h
theorem w5 {args m R} (h:W Tryz.prog (.seq (.reg [qb 0 false]) (.kill [] (.seq (.reg [⟨some 11,.P (.build [(.int .i64 0),(.int .i64 0),.nilslice,.nilslice,(.int .i64 0),(.bool false)] [(0,(1,(qz 3)))]),none⟩,⟨some 12,.A (.bslice 3 1 [(.int .i64 0)] [(0,(1,(qz 0)))]),none⟩,⟨some 13,.P (.build [(.int .i64 0),(.int .i64 0),.nilslice,.nilslice,(.int .i64 0),(.bool false)] [(0,(1,(qz 9))),(2,(1,(.t 12)))]),none⟩,⟨some 14,.A (.bslice 3 1 [(.int .i64 0)] [(0,(1,(qz 1)))]),none⟩,⟨some 15,.P (.build [(.int .i64 0),(.int .i64 0),.nilslice,.nilslice,(.int .i64 0),(.bool false)] [(0,(1,(qz 13))),(2,(1,(.t 14)))]),none⟩,⟨some 16,.P (.build [(.int .i64 0),(.int .i64 0),.nilslice,.nilslice,(.int .i64 0),(.bool false)] [(0,(1,(qz 4)))]),none⟩,⟨some 17,.A (.bslice 3 2 [(.int .i64 0)] [(0,(1,(qz 0))),(1,(1,(qz 3)))]),none⟩,⟨some 18,.P (.build [(.int .i64 0),(.int .i64 0),.nilslice,.nilslice,(.int .i64 0),(.bool false)] [(0,(1,(qz 12))),(2,(1,(.t 17)))]),none⟩,⟨some 19,.A (.bslice 40 5 [(.int .i64 0),(.int .i64 0),.nilslice,.nilslice,(.int .i64 0),(.bool false)] [(0,(6,(.t 11))),(6,(6,(.t 13))),(12,(6,(.t 15))),(18,(6,(.t 16))),(24,(6,(.t 18)))]),none⟩,qv 1 19]) (.kill [1] (.seq (.reg [qv 21 1,qc 22 12 [(.t 21),(qz 2),(qz 0)],qv 20 22,qx 23 20 0,qx 24 20 1,qx 25 20 2,qv 2 23,qv 3 24,qv 4 25]) (.kill [1,2,3,4] (.seq (.reg [qv 27 1,qc 28 11 [(.t 27),(qz 0),(qz 2)],qv 26 28,qx 29 26 0,qx 30 26 1,qx 31 26 2,⟨some 5,.A (.alloc 34 [(.bool false),(.int .i64 0),(.int .i64 0),(.bool false)]),none⟩,⟨none,.W (.store 4 (.t 5) (.t 29)),none⟩,qv 6 30,qv 7 31]) (.kill [1,2,3,4,5,6,7] (.seq (.reg [qv 33 1,qc 34 11 [(.t 33),(qz 0),(qz 3)],qv 32 34,qx 35 32 0,qx 36 32 1,qx 37 32 2,⟨some 8,.A (.alloc 34 [(.bool false),(.int .i64 0),(.int .i64 0),(.bool false)]),none⟩,⟨none,.W (.store 4 (.t 8) (.t 35)),none⟩,qv 9 36,qv 10 37]) (.kill [2,3,4,5,6,7,9,10] (.seq (.reg [qv 38 2,qk 39 .eql 38 2,qv 40 39,⟨some 41,.P (.mov (.t 3)),(some (40,true))⟩,⟨some 42,.P (.pick (.t 40) (.t 41) (.c (.bool false))),none⟩,qv 43 42,⟨some 44,.P (.mov (.t 6)),(some (43,true))⟩,⟨some 45,.P (.pick (.t 43) (.t 44) (.c (.bool false))),none⟩,qv 46 45,⟨some 47,.P (.mov (.t 9)),(some (46,true))⟩,⟨some 48,.P (.un .not (.t 47)),(some (46,true))⟩,⟨some 49,.P (.pick (.t 46) (.t 48) (.c (.bool false))),none⟩,qv 50 49,⟨some 51,.R (.load 4 true (.t 5)),(some (50,true))⟩,⟨some 52,.P (.build [(.bool false),(.int .i64 0),(.int .i64 0),(.bool false)] [(1,(1,(qz 2))),(2,(1,(qz 2)))]),(some (50,true))⟩,⟨some 53,.P (.eqS false [true,false,false,true] (.t 51) (.t 52)),(some (50,true))⟩,⟨some 54,.P (.pick (.t 50) (.t 53) (.c (.bool false))),none⟩,qv 55 54,⟨some 56,.P (.mov (.t 4)),(some (55,true))⟩,⟨some 57,.P (.mov (.t 7)),(some (55,true))⟩,⟨some 58,.P (.bin .add (.t 56) (.t 57)),(some (55,true))⟩,⟨some 59,.P (.mov (.t 10)),(some (55,true))⟩,⟨some 60,.P (.bin .add (.t 58) (.t 59)),(some (55,true))⟩,⟨some 61,.P (.bin .eql (.t 60) (qz 0)),(some (55,true))⟩,⟨some 62,.P (.pick (.t 55) (.t 61) (.c (.bool false))),none⟩,qv 0 62]) .ret))))))))))) (E [(.tmp 0)] R .mk) .mk (mat 63 (sArgs 0 args)) m) (hl:Nat.ble args.length 63=true:=by rfl):ACalls Tryz.prog 5 args m R:=walk mix (by kernel_rfl) (Nat.le_of_ble_eq_true hl) h
theorem w12 {args m R} (h:W Tryz.prog (.seq (.reg [qi 6 0,qb 7 false,qi 8 0]) (.kill [0,1,2] (.seq (.seq (.reg [qv 10 0,qv 11 1,qv 12 2,⟨some 13,.A (.bslice 3 2 [(.int .i64 0)] [(0,(1,(.t 11))),(1,(1,(.t 12)))]),none⟩,qc 14 15 [(.t 10),(.t 13)],qv 9 14]) (.kill [0,1,2,9] (.seq (.reg [qv 15 9,qk 16 .neq 15 0]) (.kill [0,1,2,9,16] (.cond (.t 16) (.seq (.reg [qv 17 9,qi 6 0,qb 7 false,qv 8 17]) .ret) .skip))))) (.kill [0,1,2] (.seq (.reg [qv 19 0,qv 20 1,qv 21 2,qc 22 26 [(.t 19),(.t 20),(.t 21)],qv 18 22,qx 23 18 0,qx 24 18 1,qx 25 18 2,qx 26 18 3,qv 6 23,qv 7 25,qv 8 26]) (.kill [6,7,8] (.seq (.reg [qv 27 6,qv 28 7,qv 29 8,qv 6 27,qv 7 28,qv 8 29]) .ret))))))) (E [(.tmp 6),(.tmp 7),(.tmp 8)] R .mk) .mk (mat 30 (sArgs 0 args)) m) (hl:Nat.ble args.length 30=true:=by rfl):ACalls Tryz.prog 12 args m R:=walk mix (by kernel_rfl) (Nat.le_of_ble_eq_true hl) h
end Go.Proofs.YtlniliigcnedmaaGreat
namespace Go.Proofs.YtlniliigcnedmaaGreat
open Go Ax
open Relation
set_option maxRecDepth 100000
def firmV:Option (Nat×Bool)→AVal
 |none=> .tuple [.int .i64 0,.bool false,.bool false,.int .i64 0]
 |some p=> .tuple [.int .i64 (p.1:Nat),.bool p.2,.bool true,.int .i64 0]
theorem rightI_one {l:List Md} {a:Nat} (hc:checkI l=0) (ha:a<l.length):rightI l [(a:Int)]=0:=by
 unfold rightI
 rw[if_neg (by simp[hc]),if_neg]
 simp[outB]
 omega
theorem downV_ok {l:List Md} {a:Nat} (hc:checkI l=0) (ha:a<l.length):downV l a=match downI l a with
  |none=>([],0,7)
  |some (l',n)=>(l',(n:Int),0):=by
 unfold downV
 rw[if_neg (by simp[rightI_one hc ha]),Int.toNat_natCast]
 all_goals (cases downI l a<;>rfl)
def FirmAt (l0:List Md) (a b k:Nat) (lk:List Md) (mk:Nat):Prop:=firmI 100 l0 a b=(firmI (100-k) lk mk b).map fun p=>(p.1+k,p.2)
theorem FirmAt.hit {l0 lk:List Md} {a b k mk:Nat} (h:FirmAt l0 a b k lk mk) (hk:k<100) (hm:RR lk mk=RR lk b∨uniB lk mk b=true):firmI 100 l0 a b=some (k,!decide (RR lk mk=RR lk b)):=by
 unfold FirmAt at h
 obtain ⟨F,hF⟩: ∃F,100-k=F+1:=⟨99-k,by omega⟩
 rw[h,hF,firmI,if_pos hm]
 simp
theorem FirmAt.none {l0 lk:List Md} {a b k mk:Nat} (h:FirmAt l0 a b k lk mk) (hk:k<100) (hm: ¬(RR lk mk=RR lk b∨uniB lk mk b=true)) (hd:downI lk mk=none):firmI 100 l0 a b=Option.none:=by
 unfold FirmAt at h
 obtain ⟨F,hF⟩: ∃F,100-k=F+1:=⟨99-k,by omega⟩
 rw[h,hF,firmI,if_neg hm,hd]
 rfl
theorem FirmAt.down {l0 lk l':List Md} {a b k mk n:Nat} (h:FirmAt l0 a b k lk mk) (hk:k<100) (hm: ¬(RR lk mk=RR lk b∨uniB lk mk b=true)) (hd:downI lk mk=some (l',n)):FirmAt l0 a b (k+1) l' n:=by
 unfold FirmAt at h ⊢
 obtain ⟨F,hF⟩: ∃F,100-k=F+1:=⟨99-k,by omega⟩
 rw[h,hF,firmI,if_neg hm,hd,show 100-(k+1)=F by omega]
 simp only[Option.map_map]
 congr 1
 funext p
 simp only[Function.comp]
 congr 1
 omega
set_option maxHeartbeats 4000000 in
theorem k26 (s:AVal) (l:List Md) (a b:Nat) (m:AMem) (hs:RTab m s l) (hr:Room l) (ha:a<l.length) (hb:b<l.length):
  ACalls Tryz.prog 26 [s,.int .i64 a,.int .i64 b] m fun v m'=>m<+:m'∧v=firmV (firmI 100 l a b):=by
 refine w26 ?_
 simp
 obtain ⟨t0,ht0,hL0⟩:=Lead.has hr ha
 obtain ⟨I,hI⟩: ∃I:Nat→AFrame→AMem→Prop,∀q f m',I q f m'↔(∃(k:Nat) (lk:List Md) (sk:AVal) (mk:Nat),k+q≤19∧f=h26_0 sk (.int .i64 b) (.int .i64 k) (.int .i64 mk)∧m<+:m'∧RTab m' sk lk∧Room lk∧Ext l lk∧mk<lk.length∧Lead lk mk q∧FirmAt l a b k lk mk):=⟨_,fun _ _ _=>Iff.rfl⟩
 refine W_loop I t0 ((hI _ _ _).2 ⟨0,l,s,a,by omega,by simp,List.prefix_refl _,hs,hr,.refl,ha,hL0,?_⟩) ?_
 ·unfold FirmAt
  simp
 rintro q f m1 hIn
 obtain ⟨k,lk,sk,mk,hkq,rfl,hm1,hsk,hrk,hxk,hmk,hLk,hFk⟩:=(hI _ _ _).1 hIn
 clear hIn
 have hlen:=hxk.len
 simp
 refine C_of (k54 sk lk mk b m1 hsk hrk hmk (by omega)) ?_
 rintro _ m2 ⟨rfl,hm2⟩
 have hm02:=hm1.trans hm2
 simp
 by_cases hme:RR lk mk=RR lk b∨uniB lk mk b=true
 ·have hres:=hFk.hit (by omega) hme
  rw[hres]
  by_cases he:RR lk mk=RR lk b
  ·simp[he,firmV,hm02]
  ·have hu:=hme.resolve_left he
   simp[he,hu,firmV,hm02]
 ·have he: ¬RR lk mk=RR lk b:=fun h=>hme (.inl h)
  have hu:uniB lk mk b=false:=by
   cases h:uniB lk mk b
   ·rfl
   ·exact absurd (.inr h) hme
  simp[he,hu]
  refine C_of (k55 sk lk mk m2 (hsk.mono hm2) hrk.sm (by have:=hrk.len;omega) fun _=>hrk) ?_
  rintro _ m3 ⟨hm3,t,rfl,hT⟩
  rw[downV_ok hrk.ck hmk] at hT ⊢
  cases hd:downI lk mk with
  |none=>
   have hres:=hFk.none (by omega) hme hd
   rw[hres]
   simp[firmV]
   exact hm02.trans hm3
  |some p=>
   obtain ⟨l',n⟩:=p
   rw[hd] at hT
   simp only at hT
   have hw:=step64 (k:=k) (n:=100) (by omega) (by omega)
   obtain ⟨_,hr',hx',hn,hlt⟩:=down_ok hrk hmk hd
   obtain ⟨q',hq',hL'⟩:=hlt q hLk
   simp[hw]
   exact ⟨q',hq',(hI _ _ _).2 ⟨k+1,l',t,n,by omega,by simp,hm02.trans hm3,hT,hr',hxk.trans hx',hn,hL',hFk.down (by omega) hme hd⟩⟩
def firmU (l:List Md) (u v:Int) (F:Option (Nat×Bool)) (e:Int):AVal:=if e≠0 then .tuple [.int .i64 0,.bool false,.int .i64 e] else match F with
 |none=> .tuple [.int .i64 0,.bool false,.int .i64 0]
 |some p=> .tuple [.int .i64 (p.1:Nat),.bool true,.int .i64 0]
theorem k12 (s:AVal) (l:List Md) (u v:Int) (m:AMem) (hs:RTab m s l) (hsm: ∀y∈l,smallN y) (hl:l.length<2^20) (hr:checkI l=0→Room l):
  ACalls Tryz.prog 12 [s,.int .i64 u,.int .i64 v] m fun w m'=>m<+:m'∧w=firmU l u v (firmI 100 l u.toNat v.toNat) (rightI l [u,v]):=by
 refine w12 ?_
 simp[fillA,setN]
 have hA:=two_ints m u v
 have hm1:m<+:m++ [.own [.int .i64 u,.int .i64 v] 3 none]:=List.prefix_append _ _
 generalize AVal.slice m.length 0 2 2 none=t1 at*
 generalize m++ [.own [.int .i64 u,.int .i64 v] 3 none]=m1 at*
 refine C_of (k15 s t1 l [u,v] m1 (hs.mono hm1) hA.ints hsm (by omega) (by simp)) ?_
 rintro _ m2 ⟨rfl,hm2⟩
 have hm02:=hm1.trans hm2
 by_cases hri:rightI l [u,v]=0
 rotate_left
 ·simp[bneT hri,firmU,hri]
  exact hm02
 obtain ⟨hc,a,b,rfl,rfl,ha,hb⟩:=right2 hri
 simp[hri]
 refine C_of (k26 s l a b m2 (hs.mono hm02) (hr hc) ha hb) ?_
 rintro _ m3 ⟨hm3,rfl⟩
 cases hF:firmI 100 l a b with
 |none=>simp[firmV,firmU,hri];exact hm02.trans hm3
 |some p=>simp[firmV,firmU,hri];exact hm02.trans hm3
end Go.Proofs.YtlniliigcnedmaaGreat
namespace Go.Proofs.YtlniliigcnedmaaGreat
open Go Ax
open Relation
set_option maxRecDepth 100000
def wC:Option (Bool×Nat×Nat×Bool)→List AVal
 |none=> [.bool false,.int .i64 0,.int .i64 0,.bool false]
 |some w=> [.bool w.1,.int .i64 (w.2.1:Nat),.int .i64 (w.2.2.1:Nat),.bool w.2.2.2]
theorem wC_len (w:Option (Bool×Nat×Nat×Bool)):(wC w).length=4∧(wC w).all AVal.one=true:=by
 cases w<;>exact ⟨rfl,rfl⟩
theorem readN_all {cs:List AVal} {n:Nat} (h:cs.length=n):readN cs 0 n=some cs:=by
 unfold readN
 rw[if_pos (by omega),List.drop_zero,←h,List.take_length]
noncomputable def sideR (l:List Md) (a b:Nat) (i:Nat):Option (Bool×Nat×Nat×Bool):=if i=0 then none else if i=1 then halfI l true b (basesOf l a) else relI l a b
set_option maxHeartbeats 8000000 in
theorem k17 (s:AVal) (l:List Md) (a b:Nat) (m:AMem) (hs:RTab m s l) (hr:Room l) (ha:a<l.length) (hb:b<l.length):
  ACalls Tryz.prog 17 [s,.int .i64 a,.int .i64 b] m fun v m'=>m<+:m'∧v= .tuple [.agg (wC (relI l a b)),.bool (relI l a b).isSome,.int .i64 0]:=by
 refine w17 ?_
 simp[fillA]
 have a6:(m++ [ABlk.own [.bool false,.int .i64 0,.int .i64 0,.bool false] 34 none,ABlk.own [.bool false,.int .i64 0,.int .i64 0,.bool false] 34 none])[m.length]? =some (.own [.bool false,.int .i64 0,.int .i64 0,.bool false] 34 none):=by simp
 have a9:(m++ [ABlk.own [.bool false,.int .i64 0,.int .i64 0,.bool false] 34 none,ABlk.own [.bool false,.int .i64 0,.int .i64 0,.bool false] 34 none])[m.length+1]? =some (.own [.bool false,.int .i64 0,.int .i64 0,.bool false] 34 none):=by rw[List.getElem?_append_right (by omega)];simp
 have am:m<+:m++ [ABlk.own [.bool false,.int .i64 0,.int .i64 0,.bool false] 34 none,ABlk.own [.bool false,.int .i64 0,.int .i64 0,.bool false] 34 none]:=List.prefix_append _ _
 generalize m++ [ABlk.own [.bool false,.int .i64 0,.int .i64 0,.bool false] 34 none,ABlk.own [.bool false,.int .i64 0,.int .i64 0,.bool false] 34 none]=M1 at*
 obtain ⟨M2,hst,b9,hc2⟩:=agg_store (n:=4) a9 (cs:= [.bool false,.int .i64 0,.int .i64 0,.bool false]) rfl rfl rfl
 rw[hst]
 have b6:=hc2.keep _ _ a6 (by omega)
 have bm:=hc2.pre am (by intro b hb;omega)
 simp[fillA,setN]
 have c26:(M2++ [ABlk.own [.bool true,.int .i64 a,.int .i64 b,.bool false,.int .i64 b,.int .i64 a] 60 none])[M2.length]? =some (.own [.bool true,.int .i64 a,.int .i64 b,.bool false,.int .i64 b,.int .i64 a] 60 none):=by simp
 have cm:M2<+:M2++ [ABlk.own [.bool true,.int .i64 a,.int .i64 b,.bool false,.int .i64 b,.int .i64 a] 60 none]:=List.prefix_append _ _
 have hl2:m.length+1<M2.length:=(List.getElem?_eq_some_iff.1 b9).1
 generalize M2++ [ABlk.own [.bool true,.int .i64 a,.int .i64 b,.bool false,.int .i64 b,.int .i64 a] 60 none]=M at*
 generalize hn6:m.length=n6 at*
 generalize M2.length=n26 at*
 replace b6:=own_mono b6 cm
 replace b9:=own_mono b9 cm
 replace bm:=bm.trans cm
 have hnB: ∀{m':AMem},Ch (fun c=>c=n6+1) M m'→m<+:m':=fun h=>h.pre bm fun c hc e=>by omega
 obtain ⟨I,hI⟩: ∃I:Nat→AFrame→AMem→Prop,∀q f m',I q f m'↔(∃i:Nat,i+q=2∧f=h17_0 s .undef (.ptr n6 0) (.ptr (n6+1) 0) (.bool (sideR l a b i).isSome) (.slice n26 0 2 2 none) (.int .i64 2) (.int .i64 i)∧Ch (fun c=>c=n6+1) M m'∧m'[n6+1]? =some (.own (wC (sideR l a b i)) 34 none)):=⟨_,fun _ _ _=>Iff.rfl⟩
 refine W_loop I 2 ((hI _ _ _).2 ⟨0,by simp,by simp[sideR],.refl _ _,by simpa[sideR,wC] using b9⟩) ?_
 rintro q f m1 hIn
 obtain ⟨i,hi,rfl,hch,h9⟩:=(hI _ _ _).1 hIn
 clear hIn
 have h26:=hch.keep _ _ c26 (by omega)
 have h6:=hch.keep _ _ b6 (by omega)
 simp
 refine bbind_dec (fun hil=>?_) fun hil=>?_
 ·have hw:=step64 (k:=i) (n:=2) (by omega) (by omega)
  obtain ⟨q,rfl⟩: ∃q',q=q'+1:=⟨q-1,by omega⟩
  obtain ⟨fi,fa,ta,hld,hside,hfa,hta⟩: ∃(fi:Bool) (fa ta:Nat),loadE m1 3 true (.ptr n26 (i*3))=some (.agg [.bool fi,.int .i64 fa,.int .i64 ta])∧sideR l a b (i+1)=better (sideR l a b i) (halfI l fi ta (basesOf l fa))∧fa<l.length∧ta<l.length:=by
   obtain rfl|rfl:i=0∨i=1:=by omega
   ·exact ⟨true,a,b,by simp[loadE,own_read h26,readN],by simp[sideR,better],ha,hb⟩
   ·exact ⟨false,b,a,by simp[loadE,own_read h26,readN],by simp[sideR,relI],hb,ha⟩
  have hia:iaddrE 3 (.slice n26 0 2 2 none) (.int .i64 i)=some (.ptr n26 (i*3)):=by
   simp[iaddrE]
   omega
  simp[hia,hld]
  rw[store_new _ _ [.bool fi,.int .i64 fa,.int .i64 ta] _ _ 3 rfl rfl rfl]
  have d12:(m1++ [ABlk.own [.bool fi,.int .i64 fa,.int .i64 ta] 60 none])[m1.length]? =some (.own [.bool fi,.int .i64 fa,.int .i64 ta] 60 none):=by simp
  have dm:m1<+:m1++ [ABlk.own [.bool fi,.int .i64 fa,.int .i64 ta] 60 none]:=List.prefix_append _ _
  have hml:M.length≤m1.length:=hch.len
  have h9l:n6+1<m1.length:=(List.getElem?_eq_some_iff.1 h9).1
  generalize m1++ [ABlk.own [.bool fi,.int .i64 fa,.int .i64 ta] 60 none]=m2 at*
  generalize hn12:m1.length=n12 at*
  simp[bx (own_read d12)]
  refine C_of (k30 s l fa m2 (hs.mono ((hnB hch).trans dm)) hr hfa) ?_
  rintro t35 m3 ⟨hm3,hZ⟩
  have hg:=(okT_of hr.ck).good
  have hzl: ∀z∈basesOf l fa,z<l.length:=fun z hz=>(basesOf_sub hg hfa hz).lt hg hfa
  have hzn:(basesOf l fa).length≤12:=hr.t13.bases hg hfa
  simp[hZ.len]
  generalize basesOf l fa=zs at*
  have hch3:Ch (fun c=>c=n6+1) M m3:=hch.trans (.of_prefix (dm.trans hm3))
  obtain ⟨J,hJ⟩: ∃J:Nat→AFrame→AMem→Prop,∀q f m',J q f m'↔(∃j:Nat,j+q=zs.length∧f=h17_1 s .undef (.ptr n6 0) (.ptr (n6+1) 0) (.bool (better (sideR l a b i) (halfI l fi ta (zs.take j))).isSome) (.ptr n12 0) (.slice n26 0 2 2 none) (.int .i64 2) (.int .i64 i) t35 (.int .i64 zs.length) (.int .i64 j)∧Ch (fun c=>c=n6+1) M m'∧m'[n6+1]? =some (.own (wC (better (sideR l a b i) (halfI l fi ta (zs.take j)))) 34 none)∧m'[n12]? =some (.own [.bool fi,.int .i64 fa,.int .i64 ta] 60 none)∧OwL natI m2.length m' 3 t35 zs):=⟨_,fun _ _ _=>Iff.rfl⟩
  have hJ0:better (sideR l a b i) (halfI l fi ta (zs.take 0))=sideR l a b i:=by rw[List.take_zero];exact better_none _
  refine W_loop J zs.length ((hJ _ _ _).2 ⟨0,by simp,by rw[hJ0];simp,hch3,by rw[hJ0];exact own_mono h9 (dm.trans hm3),own_mono d12 hm3,hZ⟩) ?_
  rintro p f m4 hJn
  obtain ⟨j,hj,rfl,hch4,h94,h12,hZ4⟩:=(hJ _ _ _).1 hJn
  clear hJn
  simp
  refine bbind_dec (fun hjl=>?_) fun hjl=>?_
  ·have hjl:j<zs.length:=by omega
   have hwj:=step64 (k:=j) (n:=zs.length) hjl (by omega)
   obtain ⟨p,rfl⟩: ∃p',p=p'+1:=⟨p-1,by omega⟩
   obtain ⟨bz,oz,_,hpz,hlz,_⟩:=hZ4.at (i:=j) hjl
   have hzj:=hzl _ (List.getElem_mem hjl)
   have hsn:better (sideR l a b i) (halfI l fi ta (zs.take (j+1)))=better (better (sideR l a b i) (halfI l fi ta (zs.take j))) (oneW l fi ta zs[j] (firmI 100 l zs[j] ta)):=by
    rw[List.take_add_one,List.getElem?_eq_getElem hjl,Option.toList_some,half_snoc,better_assoc]
   generalize better (sideR l a b i) (halfI l fi ta (zs.take j))=cur at*
   generalize zs[j]=z at*
   simp[hpz,hlz,bx (own_read h12)]
   refine C_of (k26 s l z ta m4 (hs.mono (hnB hch4)) hr hzj hta) ?_
   rintro _ m5 ⟨hm5,rfl⟩
   have h95:=own_mono h94 hm5
   have h125:=own_mono h12 hm5
   have hch5:Ch (fun c=>c=n6+1) M m5:=hch4.trans (.of_prefix hm5)
   have hZ5:=hZ4.mono hm5
   have hlow: ∀{bq:Nat},t35.blk=some bq→n12<bq:=fun {bq} h=>by
    have:=(hZ4.blk_lo h).1
    have:=(List.getElem?_eq_some_iff.1 d12).1
    omega
   have fin: ∀(m6:AMem) (nw:Option (Bool×Nat×Nat×Bool)),nw=better cur (oneW l fi ta z (firmI 100 l z ta))→Ch (fun c=>c=n6+1) m5 m6→m6[n6+1]? =some (.own (wC nw) 34 none)→J p (h17_1 s .undef (.ptr n6 0) (.ptr (n6+1) 0) (.bool nw.isSome) (.ptr n12 0) (.slice n26 0 2 2 none) (.int .i64 2) (.int .i64 i) t35 (.int .i64 zs.length) (.int .i64 ((j+1:Nat):Int))) m6:=fun m6 nw hnw hc h=>by
    refine (hJ _ _ _).2 ⟨j+1,by omega,by rw[hsn,hnw],hch5.trans hc,by rw[hsn,←hnw];exact h,hc.keep _ _ h125 (by omega),hZ5.ch hc fun bq h1 h2=>by have:=hlow h1;omega⟩
   cases hF:firmI 100 l z ta with
   |none=>
    rw[hF] at fin
    simp[firmV,hwj]
    exact ⟨p,by omega,by simpa using fin m5 cur (by rw[oneW,Option.map_none,better_none]) (.refl _ _) h95⟩
   |some w=>
    obtain ⟨n,u⟩:=w
    rw[hF] at fin
    obtain ⟨m6,hs6,h96,hc6⟩:=agg_store (n:=4) h95 (cs:= [.bool fi,.int .i64 (z:Nat),.int .i64 (n:Nat),.bool u]) rfl (wC_len _).1 rfl
    have hnew:=fin m6 (some (fi,z,n,u))
    cases cur with
    |none=>
     simp[firmV,bx (own_read h125),fillA,setN,hs6,hwj]
     exact ⟨p,by omega,by simpa using hnew rfl hc6 h96⟩
    |some w0=>
     have h95r:=bx (own_read h95) 2
     simp[wC] at h95r
     by_cases hlt:n<w0.2.2.1
     ·simp[firmV,h95r,hlt,bx (own_read h125),fillA,setN,hs6,hwj]
      exact ⟨p,by omega,by simpa using hnew (by simp[oneW,better,hlt]) hc6 h96⟩
     ·simp[firmV,h95r,hlt,hwj]
      exact ⟨p,by omega,by simpa using fin m5 (some w0) (by simp[oneW,better,hlt]) (.refl _ _) h95⟩
  ·have hjl:j=zs.length:=by omega
   subst hjl
   rw[List.take_length,←hside] at*
   simp[hw]
   exact ⟨q,by omega,(hI _ _ _).2 ⟨i+1,by omega,by simp,hch4,h94⟩⟩
 ·have hil:i=2:=by omega
  subst hil
  have hs2:sideR l a b 2=relI l a b:=by simp[sideR]
  rw[hs2] at h9
  have hrd:=bxW (own_read h9) 4
  rw[readN_all (wC_len _).1] at hrd
  obtain ⟨m2,hs3,h62,hc3⟩:=agg_store (n:=4) h6 (cs:=wC (relI l a b)) (wC_len _).1 rfl (wC_len _).2
  have hrd2:=bxW (own_read h62) 4
  rw[readN_all (wC_len _).1] at hrd2
  simp[hs2,hrd,hs3,hrd2]
  exact (hc3.trans (.refl _ _)).pre (hnB hch) fun c hc e=>by omega
def relU (W:Option (Bool×Nat×Nat×Bool)) (e:Int):AVal:=if e≠0 then .tuple [.agg (wC none),.bool false,.int .i64 e] else .tuple [.agg (wC W),.bool W.isSome,.int .i64 0]
theorem k11 (s:AVal) (l:List Md) (u v:Int) (m:AMem) (hs:RTab m s l) (hsm: ∀y∈l,smallN y) (hl:l.length<2^20) (hr:checkI l=0→Room l):
  ACalls Tryz.prog 11 [s,.int .i64 u,.int .i64 v] m fun w m'=>m<+:m'∧w=relU (relI l u.toNat v.toNat) (rightI l [u,v]):=by
 refine w11 ?_
 simp[fillA,setN]
 have a6:(m++ [ABlk.own [.bool false,.int .i64 0,.int .i64 0,.bool false] 34 none,ABlk.own [.int .i64 u,.int .i64 v] 3 none])[m.length]? =some (.own [.bool false,.int .i64 0,.int .i64 0,.bool false] 34 none):=by simp
 have hA:RInts (m++ [ABlk.own [.bool false,.int .i64 0,.int .i64 0,.bool false] 34 none,ABlk.own [.int .i64 u,.int .i64 v] 3 none]) (.slice (m.length+1) 0 2 2 none) [u,v]:=by
  have:=two_ints (m++ [ABlk.own [.bool false,.int .i64 0,.int .i64 0,.bool false] 34 none]) u v
  simpa using this.ints
 have hm1:m<+:m++ [ABlk.own [.bool false,.int .i64 0,.int .i64 0,.bool false] 34 none,ABlk.own [.int .i64 u,.int .i64 v] 3 none]:=List.prefix_append _ _
 generalize AVal.slice (m.length+1) 0 2 2 none=t1 at*
 generalize m++ [ABlk.own [.bool false,.int .i64 0,.int .i64 0,.bool false] 34 none,ABlk.own [.int .i64 u,.int .i64 v] 3 none]=m1 at*
 refine C_of (k15 s t1 l [u,v] m1 (hs.mono hm1) hA hsm (by omega) (by simp)) ?_
 rintro _ m2 ⟨rfl,hm2⟩
 have hm02:=hm1.trans hm2
 have b6:=own_mono a6 hm2
 by_cases hri:rightI l [u,v]=0
 rotate_left
 ·obtain ⟨m3,hs3,h63,hc3⟩:=agg_store (n:=4) b6 (cs:= [.bool false,.int .i64 0,.int .i64 0,.bool false]) rfl rfl rfl
  have hrd:=bxW (own_read h63) 4
  rw[readN_all (n:=4) rfl] at hrd
  have hU:relU (relI l u.toNat v.toNat) (rightI l [u,v])= .tuple [.agg [.bool false,.int .i64 0,.int .i64 0,.bool false],.bool false,.int .i64 (rightI l [u,v])]:=by
   unfold relU
   rw[if_pos hri]
   rfl
  rw[hU]
  simp[bneT hri,fillA,hs3,hrd]
  exact hc3.pre hm02 fun c hc e=>by omega
 obtain ⟨hc,a,b,rfl,rfl,ha,hb⟩:=right2 hri
 simp[hri]
 refine C_of (k17 s l a b m2 (hs.mono hm02) (hr hc) ha hb) ?_
 rintro _ m3 ⟨hm3,rfl⟩
 obtain ⟨m4,hs4,h64,hc4⟩:=agg_store (n:=4) (own_mono b6 hm3) (cs:=wC (relI l a b)) (wC_len _).1 rfl (wC_len _).2
 have hrd:=bxW (own_read h64) 4
 rw[readN_all (wC_len _).1] at hrd
 simp[hs4,hrd,relU,hri]
 exact hc4.pre (hm02.trans hm3) fun c hc e=>by omega
end Go.Proofs.YtlniliigcnedmaaGreat
namespace Go.Proofs.YtlniliigcnedmaaGreat
open Go Ax
open Relation
set_option maxRecDepth 100000
def DArr (l:List Md) (ds:List Int):Prop:= ∀(j:Nat) v,ds[j]? =some v→v=0∨ ∃n:Nat,v=(n:Int)+1∧DefL l [j] l [n]
theorem DArr.ext {l0 l l':List Md} {ds:List Int} (h:DArr l ds) (hl:ds.length=l0.length) (e0:Ext l0 l) (hc:checkI l=0) (e:Ext l l') (hn:l'.length<512):DArr l' ds:=fun j v hj=>by
 have hjl:=(List.getElem?_eq_some_iff.1 hj).1
 have:=e0.len
 rcases h j v hj with h|⟨n,h1,h2⟩
 ·exact .inl h
 ·exact .inr ⟨n,h1,h2.stable hc (by simp;omega) e hn⟩
theorem DArr.set {l:List Md} {ds:List Int} {i n:Nat} (h:DArr l ds) (hd:DefL l [i] l [n]):DArr l (ds.set i ((n:Int)+1)):=fun j v hj=>by
 by_cases hji:i=j
 ·subst hji
  have hlt:i<ds.length:=by simpa using (List.getElem?_eq_some_iff.1 hj).1
  rw[List.getElem?_set_self hlt] at hj
  exact .inr ⟨n,(Option.some.inj hj).symm,hd⟩
 ·rw[List.getElem?_set_ne hji] at hj
  exact h j v hj
theorem Ow.ty {lo:Nat} {m:AMem} {esz:Nat} {ty:TypeId} {s:AVal} {n:Nat} {cs:List AVal} (h:Ow lo m esz ty s n cs) {b:Nat} (hb:s.blk=some b): ∃bl g,m[b]? =some (.own bl ty g):=by
 rcases h with ⟨rfl,_,_⟩|⟨b',o,cap,gr,bl,gr',rfl,_,h1,_⟩
 ·simp[AVal.blk] at hb
 ·simp[AVal.blk] at hb
  subst hb
  exact ⟨_,_,h1⟩
set_option maxHeartbeats 8000000 in
theorem k157 (dv:AVal) (lo:Nat) (l0:List Md) (hc0:checkI l0=0): ∀(n i:Nat),i<l0.length→hgt l0 i<n→ ∀(S:Nat→Prop) (l:List Md) (s:AVal) (ds:List Int) (m:AMem),(∀b,dv.blk=some b→S b)→(∀b,S b→b<m.length)→Ext l0 l→Room l→TabS S m s l→OwL (AVal.int .i64) lo m 3 dv ds→ds.length=l0.length→DArr l ds→
  ACalls Tryz.prog 157 [s,dv,.int .i64 i] m fun v m'=>Ch (fun b=>dv.blk=some b) m m'∧ ∃l' t ds',∃r:Nat,v= .tuple [t,.int .i64 r,.int .i64 0]∧DefL l [i] l' [r]∧TabS S m' t l'∧OwL (AVal.int .i64) lo m' 3 dv ds'∧ds'.length=l0.length∧DArr l' ds':=by
 intro n
 induction n with
 |zero=>intro i _ h;omega
 |succ n ih=>
  intro i hi hh S l s ds m hSd hSlt e0 hr hT hX hdl hA
  refine w157 ?_
  have hl:=e0.len
  have hil:i<l.length:=by omega
  have hcl:=hr.ck
  have hrl:=hr.len
  have ok0:=okT_of hc0
  obtain ⟨bd,od,hbd,hpd,hld,hstd⟩:=hX.at (i:=i) (by omega)
  obtain ⟨dz,hdz⟩: ∃z,ds[i]'(by omega)=z:=⟨_,rfl⟩
  rw[hdz] at hld
  have hdA:=hA i dz (by rw[List.getElem?_eq_getElem (by omega),hdz])
  have hwi:=step64 (k:=i) (n:=100) (by omega) (by omega)
  simp[hpd,hld]
  by_cases h0:dz=0
  rotate_left
  ·obtain ⟨r,rfl,hd⟩:=hdA.resolve_left h0
   have hrl2:=(hd.ok hcl (by simpa using hil)).at_ 0 _ _ rfl rfl
   have hw1:IntKind.i64.wrap (((r:Int)+1)-1)=(r:Int):=by rw[wrap64 (by omega) (by omega)];omega
   have hpos:(0:Int)<(r:Int)+1:=by omega
   simp[hpos]
   refine W_drawPR (by simp[maxDst]) rfl rfl ?_
   simp[hpd,hld,hw1]
   intro m1 hm1
   exact ⟨.of_prefix hm1,l,s,ds,r,⟨rfl,by rw[wrap64 (by omega) (by omega)]⟩,hd,hT.mono hm1,hX.mono hm1,hdl,hA⟩
  ·subst h0
   simp
   refine C_of (k169 s l i hil m hT.tab hr.sm hcl) ?_
   rintro _ m1 ⟨hm1,fb,rfl,hfb⟩
   by_cases hfx:FlexP l i
   rotate_left
   ·have hff:fb=false:=by
     cases fb
     ·rfl
     ·exact absurd (hfb.1 rfl) hfx
    subst hff
    obtain ⟨bd1,od1,hbd1,hpd1,_,hstd1⟩:=(hX.mono hm1).at (i:=i) (by omega)
    obtain ⟨m2,hst2,hch2,hX2⟩:=hstd1 ((i:Int)+1)
    have hd:DefL l [i] l [i]:= .flat hfx .nil
    simp[hpd1,hwi,hst2]
    exact ⟨(Ch.of_prefix hm1).trans (hch2.weaken fun b _ h=>by rw[h];exact hbd1),l,s,_,i,⟨rfl,rfl⟩,hd,(hT.mono hm1).next (hch2.weaken fun b _ h=>by rw[h];exact hSd _ hbd1),hX2,by simpa using hdl,hA.set hd⟩
   have hft:fb=true:=hfb.2 hfx
   subst hft
   have hm1l:=hm1.length_le
   have hT1:=hT.mono hm1
   obtain ⟨bx',ox,c,g1,g2,g3⟩:=hT1.atC hil
   have h6:=g3 m1 (.refl _ _)
   have hxe:mdAt l i=l[i]:=mdAt_eq hil
   have hxm:l[i]∈l:=List.getElem_mem hil
   have hx40:=hr.h40 _ hxm
   have hsx:=hr.sm _ hxm
   have hgx:=(okT_of hcl).good _ hxm
   simp[g1,g2]
   refine C_of (k156 c l[i] m1 h6 hx40) ?_
   rintro _ m2 ⟨hm2,c',rfl,hM⟩
   have hcl6:=hM.mode.all
   obtain ⟨e,nm,rfl,hE,hN⟩:=hM
   simp
   rw[store_new _ _ [.int .i64 l[i].kind,.int .i64 l[i].size,e,nm,.int .i64 l[i].dims,.bool l[i].flex] _ _ 6 hcl6.1 rfl hcl6.2]
   have hb9:(m2++ [ABlk.own [.int .i64 l[i].kind,.int .i64 l[i].size,e,nm,.int .i64 l[i].dims,.bool l[i].flex] 40 none])[m2.length]? =some (.own [.int .i64 l[i].kind,.int .i64 l[i].size,e,nm,.int .i64 l[i].dims,.bool l[i].flex] 40 none):=by simp
   have hm23:m2<+:m2++ [ABlk.own [.int .i64 l[i].kind,.int .i64 l[i].size,e,nm,.int .i64 l[i].dims,.bool l[i].flex] 40 none]:=List.prefix_append _ _
   have hm2l:=hm2.length_le
   have hEb: ∀b,e.blk=some b→m1.length≤b∧b<m2.length:=fun b hb=>hE.blk_lo hb
   have hNb: ∀b,nm.blk=some b→m1.length≤b∧b<m2.length:=fun b hb=>hN.blk_lo hb
   generalize m2++ [ABlk.own [.int .i64 l[i].kind,.int .i64 l[i].size,e,nm,.int .i64 l[i].dims,.bool l[i].flex] 40 none]=m3 at*
   generalize hb9e:m2.length=b9 at*
   obtain ⟨m4,hst4,hb94,hch4⟩:=fld_store (i:=5) (v:= .bool false) hb9 (by simp) rfl rfl
   simp at hb94
   simp[hst4]
   have hm3l:b9<m3.length:=(List.getElem?_eq_some_iff.1 hb9).1
   have hm4l:=hch4.len
   have hm14:m1<+:m4:=hch4.pre (hm2.trans hm23) fun b hb h=>by omega
   have hE4:=(hE.mono hm23).ch hch4 fun b hb h=>by have:=hEb b hb;omega
   have hN4:=(hN.mono hm23).ch hch4 fun b hb h=>by have:=hNb b hb;omega
   have hT4:TabS (fun b=>S b∨m1.length≤b) m4 s l:=by
    obtain ⟨cs,hh⟩:=hT1
    exact (TabS.mono ⟨cs,fun m' hc=>hh m' (hc.weaken fun b hb h=>by rcases h with h|h;exact h;omega)⟩ hm14)
   have hX4:=(hX.mono hm1).mono hm14
   have hfi:FlexP l0 i:=(e0.flex hc0 hi).1 hfx
   clear hst4 hch4 hb9 hm23 hE hN
   have hdb: ∀b,dv.blk=some b→b<m1.length:=fun b hb=>by have:=(hX.blk_lo hb).2;omega
   obtain ⟨I,hI⟩: ∃I:Nat→AFrame→AMem→Prop,∀q f m',I q f m'↔(∃(k:Nat) (lk:List Md) (sk:AVal) (dk:List Int) (ns:List Nat),k+q=l[i].elems.length∧ns.length=k∧f=h157_0 sk dv (.int .i64 i) (.ptr b9 0) (.int .i64 k)∧DefL l ((l[i].elems.map Int.toNat).take k) lk ns∧Room lk∧Ext l0 lk∧TabS (fun b=>S b∨e.blk=some b) m' sk lk∧OwL (AVal.int .i64) lo m' 3 dv dk∧dk.length=l0.length∧DArr lk dk∧Ch (fun b=>dv.blk=some b) m1 m'∧m'[b9]? =some (.own [.int .i64 l[i].kind,.int .i64 l[i].size,e,nm,.int .i64 l[i].dims,.bool false] 40 none)∧OwL (AVal.int .i64) m1.length m' 3 e (ns.map (fun z:Nat=>(z:Int))++l[i].elems.drop k)∧OwL AVal.str m1.length m' 9 nm l[i].names):=⟨_,fun _ _ _=>Iff.rfl⟩
   refine W_loop I l[i].elems.length ((hI _ _ _).2 ⟨0,l,s,ds,[],by simp,rfl,by simp,by simpa using DefL.nil,hr,e0,hT4.weaken (fun b h=>?_),hX4,hdl,hA,.of_prefix hm14,hb94,by simpa using hE4,hN4⟩) ?_
   ·rcases h with h|h
    ·exact .inl h
    ·exact .inr (hEb b h).1
   rintro q f m5 hIn
   obtain ⟨k,lk,sk,dk,ns,hk,hnl,rfl,hDk,hrk,e0k,hTk,hXk,hdk,hAk,hck,hb9k,hEk,hNk⟩:=(hI _ _ _).1 hIn
   clear hIn
   have hxl:(ns.map (fun z:Nat=>(z:Int))++l[i].elems.drop k).length=l[i].elems.length:=by simp;omega
   have hlenk:=hEk.len
   rw[hxl] at hlenk
   simp[bx (own_read hb9k),hlenk]
   refine bbind_dec (fun hkl=>?_) fun hkl=>?_
   ·have hkl:k<l[i].elems.length:=by omega
    have hw:=step64 (k:=k) (n:=l[i].elems.length) hkl (by omega)
    obtain ⟨q,rfl⟩: ∃q',q=q'+1:=⟨q-1,by omega⟩
    obtain ⟨bt,ot,hbt,hpt,hlt,hstt⟩:=hEk.at (i:=k) (by omega)
    have hxk:(ns.map (fun z:Nat=>(z:Int))++l[i].elems.drop k)[k]'(by omega)=l[i].elems[k]:=by
     rw[List.getElem_append_right (by simp;omega)]
     simp[hnl]
    rw[hxk] at hlt
    obtain ⟨z,hz⟩: ∃z:Nat,l[i].elems[k]=z:=⟨(l[i].elems[k]).toNat,by have:=(hgx _ (List.getElem_mem hkl)).1;omega⟩
    rw[hz] at hlt
    have hzl:z<l0.length∧hgt l0 z<n:=by
     have hmd:mdAt l i=mdAt l0 i:=e0.md hi
     have hmem:(z:Int)∈(mdAt l0 i).elems:=by rw[←hmd,hxe,←hz];exact List.getElem_mem hkl
     have hst:stepF l0 i z:=⟨mdAt l0 i,by rw[mdAt_eq hi];exact List.getElem?_eq_getElem hi,hfi.rs.2,hmem⟩
     have hgz:=ok0.good (mdAt l0 i) (by rw[mdAt_eq hi];exact List.getElem_mem hi) _ hmem
     have:=hgt_lt ok0.good ok0.acy hst
     omega
    simp[bx (own_read hb9k),hpt,hlt]
    have hckl:=hck.len
    refine C_of (ih z hzl.1 hzl.2 (fun b=>S b∨e.blk=some b) lk sk dk m5 (fun b hb=> .inl (hSd b hb)) (fun b hb=>?_) e0k hrk hTk hXk hdk hAk) ?_
    ·rcases hb with hb|hb
     ·have:=hSlt b hb;omega
     ·exact (hEk.blk_lo hb).2
    rintro _ m6 ⟨hch6,l6,t6,d6,r,rfl,hd6,hT6,hX6,hdl6,hA6⟩
    have hx6:=hd6.ok hrk.ck (by have:=e0k.len;simp;omega)
    have hr6:=hrk.defl (by have:=e0k.len;simp;omega) hd6
    have hb96:=hch6.keep _ _ hb9k fun h=>by have:=hdb _ h;omega
    have hE6:=hEk.ch hch6 fun b hb h=>by have:=hdb _ h;have:=(hEk.blk_lo hb).1;omega
    have hN6:=hNk.ch hch6 fun b hb h=>by have:=hdb _ h;have:=(hNk.blk_lo hb).1;omega
    obtain ⟨bt6,ot6,hbt6,hpt6,_,hstt6⟩:=hE6.at (i:=k) (by omega)
    have hbt6l:=hEb _ hbt6
    simp
    refine W_draw (fun _ _ _=>True) (by simp[maxDst]) ?_
    refine D_pc 0 7 [7] ?_
    simp[bx (own_read hb96),hpt6]
    intro _ _
    refine D_W rfl rfl fun m7 hm7 _=>?_
    obtain ⟨bt7,ot7,hbt7,hpt7,_,hstt7⟩:=(hE6.mono hm7).at (i:=k) (by omega)
    have hpe:=hpt7 .i64
    rw[hpt6 .i64] at hpe
    simp only[Option.some.injEq,AVal.ptr.injEq] at hpe
    obtain ⟨rfl,rfl⟩:=hpe
    obtain ⟨m8,hst8,hch8,hE8⟩:=hstt7 (r:Int)
    simp[hst8]
    refine D_end fun m9 hm9 _=>?_
    simp[hw]
    have hc69:Ch (fun c=>c=bt6) m6 m9:=(((Ch.of_prefix hm7).trans hch8).trans (.of_prefix hm9))
    refine ⟨q,by omega,(hI _ _ _).2 ⟨k+1,l6,t6,d6,ns++ [r],by omega,by simp[hnl],by simp,?_,hr6,e0k.trans hx6.ext,hT6.next (hc69.weaken fun b _ h=>by rw[h];exact .inr hbt6),hX6.ch hc69 fun b hb h=>(by have:=hdb _ hb;omega),hdl6,hA6,(hck.trans hch6).andThen hc69 fun b hb h=>by omega,hc69.keep _ _ hb96 fun h=>by omega,?_,hN6.ch hc69 fun b hb h=>?_⟩⟩
    ·rw[List.take_add_one,List.getElem?_map,List.getElem?_eq_getElem hkl,hz]
     exact hDk.append hd6
    ·have:(ns.map (fun z:Nat=>(z:Int))++l[i].elems.drop k).set k (r:Int)=(ns++ [r]).map (fun z:Nat=>(z:Int))++l[i].elems.drop (k+1):=by
      rw[List.set_append_right _ _ (by simp;omega)]
      have h0:k-(ns.map (fun z:Nat=>(z:Int))).length=0:=by simp[hnl]
      rw[h0,List.drop_eq_getElem_cons hkl,List.set_cons_zero]
      simp
     rw[←this]
     exact hE8.mono hm9
    ·subst h
     obtain ⟨_,_,g5⟩:=Ow.ty hE6 hbt6
     obtain ⟨_,_,g6⟩:=Ow.ty hN6 hb
     rw[g5] at g6
     simp at g6
   ·have hkl:k=l[i].elems.length:=by omega
    subst hkl
    rw[List.take_of_length_le (by simp)] at hDk
    rw[List.drop_length,List.append_nil] at hEk
    have hDk':DefL l ((mdAt l i).elems.map Int.toNat) lk ns:=by rw[hxe];exact hDk
    obtain ⟨l2,r,hput⟩:=defl_put hcl hfx hDk' (by have:=hrk.len;omega)
    have hdi:DefL l [i] l2 [r]:= .flex hfx hDk' hput .nil
    have hr2:=hr.defl (by simp;omega) hdi
    have hx2:=hdi.ok hcl (by simp;omega)
    obtain ⟨hel2,hrs2⟩:=hDk'.es hcl hil
    obtain ⟨ek2,hck2,hrl2,_⟩:=put_defl hrk.ck hfx hrs2 hput
    have hdx:deflX (mdAt l i) ns=⟨l[i].kind,l[i].size,ns.map fun z:Nat=>(z:Int),l[i].names,l[i].dims,false⟩:=by rw[hxe];rfl
    have hRM:RMode m5 [.int .i64 l[i].kind,.int .i64 l[i].size,e,nm,.int .i64 l[i].dims,.bool false] (deflX (mdAt l i) ns):=by
     rw[hdx]
     exact ⟨e,nm,rfl,hEk.ints,Ow.sl hNk⟩
    have hb9r:=bxW (own_read hb9k) 6
    simp[readN] at hb9r
    simp[hb9r]
    have hnsl:ns.length=l[i].elems.length:=hnl
    have hsmx: ∀y∈lk++ [deflX (mdAt l i) ns],smallN y:=fun y hy=>by
     rcases List.mem_append.1 hy with hy|hy
     ·exact hrk.sm y hy
     ·simp at hy
      subst hy
      rw[hdx]
      refine ⟨by have:=hsx.1;simp;omega,hsx.2.1,hsx.2.2⟩
    have h40x: ∀y∈lk++ [deflX (mdAt l i) ns],y.elems.length<2^40∧y.names.length<2^40:=fun y hy=>by
     rcases List.mem_append.1 hy with hy|hy
     ·exact hrk.h40 y hy
     ·simp at hy
      subst hy
      rw[hdx]
      exact ⟨by have:=hx40.1;simp;omega,hx40.2⟩
    refine C_of (k170f sk _ lk (deflX (mdAt l i) ns) m5 hTk.tab hRM hsmx h40x (by have:=hrk.len;omega)) ?_
    rintro _ m6 ⟨hm56,t14,rfl,hT14⟩
    rw[hput] at hT14
    simp only[hput]
    simp
    have hr2l:=hr2.len
    have hwr:=step64 (k:=r) (n:=100) (by omega) (by omega)
    obtain ⟨bd6,od6,hbd6,hpd6,_,hstd6⟩:=(hXk.mono hm56).at (i:=i) (by omega)
    obtain ⟨m7,hst7,hch7,hX7⟩:=hstd6 ((r:Int)+1)
    have hckl:=hck.len
    simp[hpd6,hwr,hst7]
    refine ⟨(Ch.of_prefix hm1).trans ((hck.trans (.of_prefix hm56)).trans (hch7.weaken fun b _ h=>by rw[h];exact hbd6)),l2,t14,_,r,⟨rfl,rfl⟩,hdi,?_,hX7,by simpa using hdk,DArr.set (hAk.ext hdk e0k hrk.ck ek2 (by omega)) (hdi.stable hcl (by simp;omega) .refl (by omega))⟩
    refine TabS.weaken (S:=fun b=>b<m5.length) (hT14.next (hch7.weaken fun b _ h=>by have:=hdb _ hbd6;omega)) fun b hb=>?_
    have:=hSlt b hb
    omega
theorem k132 (s:AVal) (l:List Md) (i:Nat) (m:AMem) (hs:RTab m s l) (hr:Room l) (hi:i<l.length):
  ACalls Tryz.prog 132 [s,.int .i64 i] m fun v m'=>m<+:m'∧ ∃t,v= .tuple [t,.int .i64 (deflI l i).2,.int .i64 0]∧RTab m' t (deflI l i).1:=by
 refine w132 ?_
 have hrl:=hr.len
 have h1:(8:Int)*l.length≤281474976710656:=by omega
 have h2:(l.length:Int)≤9223372036854775807:=by omega
 simp[hs.len,h1,h2]
 have hX:=OwL.rep (f:=AVal.int .i64) m 3 l.length 0
 have hm1:m<+:m++ [.own (List.replicate l.length (.int .i64 0)) 3 none]:=List.prefix_append _ _
 have hbl: ∀b,(AVal.slice m.length 0 l.length l.length none).blk=some b→b=m.length:=fun b hb=>by simp[AVal.blk] at hb;omega
 have hl1:(m++ [ABlk.own (List.replicate l.length (.int .i64 0)) 3 none]).length=m.length+1:=by simp
 generalize AVal.slice m.length 0 l.length l.length none=dv at*
 generalize m++ [.own (List.replicate l.length (.int .i64 0)) 3 none]=m1 at*
 refine C_of (k157 dv m.length l hr.ck (hgt l i+1) i hi (by omega) (fun b=>dv.blk=some b) l s _ m1 (fun b h=>h) (fun b hb=>by have:=hbl b hb;omega) .refl hr (RTab.tabS hs hm1 fun b hb h=>by have:=hbl b h;omega) hX (by simp) (fun j v hj=> .inl ?_)) ?_
 ·rw[List.getElem?_replicate] at hj
  split at hj
  ·exact (Option.some.inj hj).symm
  ·cases hj
 rintro _ m2 ⟨hc2,l',t,ds',r,rfl,hd,hT,_⟩
 rw[hd.eq]
 simp
 exact ⟨hc2.pre hm1 fun b hb h=>by have:=hbl b h;omega,hT.tab⟩
end Go.Proofs.YtlniliigcnedmaaGreat
namespace Go.Proofs.YtlniliigcnedmaaGreat
open Go Ax
open Relation
set_option maxRecDepth 100000
set_option maxHeartbeats 8000000 in
theorem k91 (s:AVal) (l:List Md) (a b:Nat) (m:AMem) (hs:RTab m s l) (hr:Room l) (ha:a<l.length) (hb:b<l.length):
  ACalls Tryz.prog 91 [s,.int .i64 a,.int .i64 b] m fun v m'=>v= .tuple [.bool (decide (RR l a=RR l b)),.int .i64 0]∧m<+:m':=by
 refine w91 ?_
 have hc:=hr.ck
 have ok:=okT_of hc
 have hrl:=hr.len
 simp[fillA,setN]
 have hA:=two_ints m a b
 have hm1:m<+:m++ [.own [.int .i64 (a:Int),.int .i64 (b:Int)] 3 none]:=List.prefix_append _ _
 generalize AVal.slice m.length 0 2 2 none=t1 at*
 generalize m++ [.own [.int .i64 (a:Int),.int .i64 (b:Int)] 3 none]=m1 at*
 refine C_of (k124 s t1 l [(a:Int),(b:Int)] m1 (hs.mono hm1) hA.ints hr.sm (by omega) (by simp)) ?_
 rintro _ m2 ⟨rfl,hm2⟩
 rw[rightI_two hc ha hb]
 have hm02:=hm1.trans hm2
 obtain ⟨b1,o1,c1,p1,q1,_,r1,h1⟩:=(hs.mono hm02).atC ha
 obtain ⟨b2,o2,c2,p2,q2,_,r2,h2⟩:=(hs.mono hm02).atC hb
 obtain ⟨e1,nm1,_,_,hg1,_,_,_,he1,_,_⟩:=h1.get
 obtain ⟨e2,nm2,_,_,hg2,_,_,_,he2,_,_⟩:=h2.get
 have r1:=r1 2 (by omega)
 have r2:=r2 2 (by omega)
 rw[hg1] at r1
 rw[hg2] at r2
 have hma:=mdAt_eq ha
 have hmb:=mdAt_eq hb
 have hxa:l[a]∈l:=List.getElem_mem ha
 have hxb:l[b]∈l:=List.getElem_mem hb
 have hflat: ∀m',m2<+:m'→ACalls Tryz.prog 128 [.agg c1,.agg c2] m' fun v m''=>v= .int .i64 (firstC l[a] l[b])∧m'<+:m'':=fun m' hm'=>
  k128 c1 c2 l[a] l[b] m' (h1.mono hm') (h2.mono hm') (hr.sm _ hxa) (hr.sm _ hxb) (ok.names _ hxa _ hxb)
 have ld6: ∀{m'},m2<+:m'→loadE m' 6 true (.ptr b1 o1)=some (.agg c1)∧loadE m' 6 true (.ptr b2 o2)=some (.agg c2)∧loadE m' 1 false (.ptr b1 (o1+2))=some e1∧loadE m' 1 false (.ptr b2 (o2+2))=some e2:=fun h=>⟨loadE_mono h q1,loadE_mono h q2,loadE_mono h r1,loadE_mono h r2⟩
 by_cases hab:a=b
 ·subst hab
  simp
  refine W_draw (fun _ _ _=>True) (by simp[maxDst]) ?_
  refine D_pc 0 12 [12,13,14,15,16,17,18,19,20,21,22,23,24,25,26,27] ?_
  simp
  intro _ _
  refine D_Xg rfl rfl (b:=true) (by simp) (fun h=>by cases h) (fun _ m3 hm3 _=>⟨by simp[lateOf],?_⟩)
  refine D_pc 13 13 [26,27] ?_
  simp
  intro _ _
  refine D_Xg rfl rfl (b:=true) (by simp) (fun h=>by cases h) (fun _ m4 hm4 _=>⟨by simp[lateOf],?_⟩)
  refine D_pc 27 1 [] ?_
  simp
  intro _ _
  refine D_end fun m5 hm5 _=>?_
  simp
  refine W_draw (fun _ _ _=>True) (by simp[maxDst]) ?_
  refine D_pc 0 12 [12,13,14,15,16] ?_
  simp
  intro _ _
  refine D_Xg rfl rfl (b:=true) (by simp) (fun h=>by cases h) (fun _ m6 hm6 _=>⟨by simp[lateOf],?_⟩)
  refine D_pc 13 4 [] ?_
  simp
  intro _ _
  refine D_end fun m7 hm7 _=>?_
  simp
  exact ((((hm02.trans hm3).trans hm4).trans hm5).trans hm6).trans hm7
 have hab': ¬(a:Int)=b:=by omega
 simp
 refine W_draw (fun _ _ _=>True) (by simp[maxDst]) ?_
 refine D_pc 0 12 [12,13,14,15,16,17,18,19,20,21,22,23,24,25,26,27] ?_
 simp[beqF hab',p1,p2,q1,q2]
 intro _ _
 refine D_Xg rfl rfl (b:=false) (by simp) (fun _ m3 hm3 _=>?_) (fun h=>absurd rfl h)
 simp
 refine C_of (hflat m3 hm3) ?_
 rintro _ m4 ⟨rfl,hm4⟩
 have hm24:=hm3.trans hm4
 refine ⟨by simp[lateOf],?_⟩
 refine D_pc 13 13 [26,27] ?_
 have L4:=ld6 hm24
 by_cases hf:firstC l[a] l[b]=0
 rotate_left
 ·have hne: ¬RR l a=RR l b:=fun h=>hf (by have:=RR_first ha hb h;rwa[hma,hmb] at this)
  simp[bneT hf,hne]
  intro _ _
  refine D_Xg rfl rfl (b:=true) (by simp) (fun h=>by cases h) (fun _ m5 hm5 _=>⟨by simp[lateOf],?_⟩)
  refine D_pc 27 1 [] ?_
  simp
  intro _ _
  refine D_end fun m6 hm6 _=>?_
  simp
  have hm26:=(hm24.trans hm5).trans hm6
  have L6:=ld6 hm26
  refine W_draw (fun _ _ _=>True) (by simp[maxDst]) ?_
  refine D_pc 0 12 [12,13,14,15,16] ?_
  simp[beqF hab',p1,p2,L6.1,L6.2.1]
  intro _ _
  refine D_Xg rfl rfl (b:=false) (by simp) (fun _ m7 hm7 _=>?_) (fun h=>absurd rfl h)
  simp
  refine C_of (hflat m7 (hm26.trans hm7)) ?_
  rintro _ m8 ⟨rfl,hm8⟩
  refine ⟨by simp[lateOf],?_⟩
  refine D_pc 13 4 [] ?_
  simp[beqF hf]
  intro _ _
  refine D_end fun m9 hm9 _=>?_
  simp
  exact ⟨hne,(((hm02.trans hm26).trans hm7).trans hm8).trans hm9⟩
 simp[hf,p1,p2,L4.2.2.1,L4.2.2.2]
 intro _ _
 refine D_Xg rfl rfl (b:=false) (by simp) (fun _ m5 hm5 _=>?_) (fun h=>absurd rfl h)
 simp
 have hm25:=hm24.trans hm5
 refine C_of (k129 e1 e2 l[a].elems l[b].elems m5 (he1.mono hm25) (he2.mono hm25) (hr.sm _ hxa).1) ?_
 rintro _ m6 ⟨rfl,hm6⟩
 refine ⟨by simp[lateOf],?_⟩
 refine D_pc 27 1 [] ?_
 simp
 intro _ _
 refine D_end fun m7 hm7 _=>?_
 have hm27:=(hm25.trans hm6).trans hm7
 have L7:=ld6 hm27
 by_cases hsame:l[a].elems=l[b].elems
 ·have heq:RR l a=RR l b:=RR_same ha hb (by rw[hma,hmb];exact hf) (by rw[hma,hmb];exact hsame)
  simp[hsame,heq]
  refine W_draw (fun _ _ _=>True) (by simp[maxDst]) ?_
  refine D_pc 0 12 [12,13,14,15,16] ?_
  simp[beqF hab',p1,p2,L7.1,L7.2.1]
  intro _ _
  refine D_Xg rfl rfl (b:=false) (by simp) (fun _ m8 hm8 _=>?_) (fun h=>absurd rfl h)
  simp
  refine C_of (hflat m8 (hm27.trans hm8)) ?_
  rintro _ m9 ⟨rfl,hm9⟩
  refine ⟨by simp[lateOf],?_⟩
  refine D_pc 13 4 [] ?_
  simp[hf]
  intro _ _
  refine D_end fun m10 hm10 _=>?_
  simp
  exact ⟨heq,(((hm02.trans hm27).trans hm8).trans hm9).trans hm10⟩
 ·simp[hsame]
  have hm07:=hm02.trans hm27
  refine C_of (k127 s l m7 (hs.mono hm07) ok.good (by omega) hr.sm ok.h64 ok.names) ?_
  rintro v8 m8 ⟨hm8,hX⟩
  obtain ⟨ba,oa,pa,la⟩:=rlAt (ints_of_nat hX) ha
  obtain ⟨bb,ob,pb,lb⟩:=rlAt (ints_of_nat hX) hb
  have la:=la m8 (List.prefix_refl _)
  have lb:=lb m8 (List.prefix_refl _)
  have hxy:(((RR l a:Nat):Int)==((RR l b:Nat):Int))=decide (RR l a=RR l b):=by
   rw[Bool.eq_iff_iff,decide_eq_true_iff,beq_iff_eq]
   constructor<;>intro h<;>omega
  simp
  refine W_drawPR (by simp[maxDst]) rfl rfl ?_
  simp[pa,la,pb,lb,hxy]
  intro m9 hm9
  exact (hm07.trans hm8).trans hm9
end Go.Proofs.YtlniliigcnedmaaGreat
namespace Go.Proofs.YtlniliigcnedmaaGreat
open Go Ax
open Relation
set_option maxRecDepth 100000
set_option maxHeartbeats 8000000 in
theorem k93 (s:AVal) (l:List Md) (x:Int) (m:AMem) (hs:RTab m s l) (hsm: ∀y∈l,smallN y) (hl:l.length<2^20) (hr:checkI l=0→Room l):
  ACalls Tryz.prog 93 [s,.int .i64 x] m fun v m'=>m<+:m'∧ ∃t,v= .tuple [t,.int .i64 (downV l x).2.1,.int .i64 (downV l x).2.2]∧RTab m' t (downV l x).1:=by
 refine w93 ?_
 simp[fillA,setN]
 have hA:=OwL.new (f:=AVal.int .i64) m 3 [x]
 have hm1:m<+:m++ [.own [.int .i64 x] 3 none]:=List.prefix_append _ _
 simp at hA
 generalize AVal.slice m.length 0 1 1 none=t1 at*
 generalize m++ [.own [.int .i64 x] 3 none]=m1 at*
 refine C_of (k19 s t1 l [x] m1 (hs.mono hm1) hA.ints hsm (by omega) (by simp)) ?_
 rintro _ m2 ⟨rfl,hm2⟩
 have hm02:=hm1.trans hm2
 by_cases hri:rightI l [x]=0
 rotate_left
 ·simp[bneT hri,downV,hri]
  exact ⟨hm02,RTab.nil0 _⟩
 obtain ⟨hc,a,rfl,ha⟩:=right1 hri
 replace hr:=hr hc
 rw[downV_ok hc ha]
 simp[hri]
 obtain ⟨bx',ox,c,h4,h5,_,_,h6⟩:=(hs.mono hm02).atC ha
 have hcl6:=h6.all
 simp[h4,h5]
 rw[store_new _ _ c _ _ 6 hcl6.1 rfl hcl6.2]
 obtain ⟨e,nm,_,_,_,_,_,_,he,hnm,rfl⟩:=h6.get
 have hb8:(m2++ [ABlk.own [.int .i64 l[a].kind,.int .i64 l[a].size,e,nm,.int .i64 l[a].dims,.bool l[a].flex] 40 none])[m2.length]? =some (.own [.int .i64 l[a].kind,.int .i64 l[a].size,e,nm,.int .i64 l[a].dims,.bool l[a].flex] 40 none):=by simp
 have hm23:m2<+:m2++ [ABlk.own [.int .i64 l[a].kind,.int .i64 l[a].size,e,nm,.int .i64 l[a].dims,.bool l[a].flex] 40 none]:=List.prefix_append _ _
 generalize m2++ [ABlk.own [.int .i64 l[a].kind,.int .i64 l[a].size,e,nm,.int .i64 l[a].dims,.bool l[a].flex] 40 none]=m3 at*
 generalize m2.length=b8 at*
 have hm03:=hm02.trans hm23
 have he3:=he.mono hm23
 have hma:=mdAt_eq ha
 have hlen:=he3.len
 by_cases h9:l[a].kind=9
 ·have hla:lead l a:= .inl (by rw[hma];exact h9)
  obtain ⟨hel,hhl⟩:=lead_elem hc ha hla
  rw[hma] at hel
  obtain ⟨b0,o0,p1,p2⟩:=bound1 he3 hel
  have hD:downI l a=some ((deflI l (headE l a)).1,leastN (deflI l (headE l a)).1 (deflI l (headE l a)).2):=by unfold downI;rw[if_pos (by rw[hma];exact h9)]
  rw[hD]
  simp[bx (own_read hb8),h9]
  refine C_of (k131 s l m3 (hs.mono hm03) hr.h40 hl) ?_
  rintro t4 m4 ⟨hm4,hT4⟩
  have hb84:=own_mono hb8 hm4
  simp[bx (own_read hb84),h9,p1,p2 m4 hm4]
  refine C_of (k132 t4 l (headE l a) m4 hT4.tab hr hhl) ?_
  rintro _ m5 ⟨hm5,t5,rfl,hT5⟩
  have hd:=deflI_spec hr hhl
  have hr5:=hr.defl (by simpa using hhl) hd
  have hn5:=((hd.ok hc (by simpa using hhl)).at_ 0 _ _ rfl rfl).1
  have hm05:=(hm03.trans hm4).trans hm5
  simp
  generalize deflI l (headE l a)=dp at*
  obtain ⟨l5,n5⟩:=dp
  simp only at*
  have ok_5:=okT_of hr5.ck
  have hl5:=hr5.len
  refine C_of (k127 t5 (l5) m5 hT5 ok_5.good (by omega) hr5.sm ok_5.h64 ok_5.names) ?_
  rintro ro mr ⟨hmr,hX⟩
  have hTr:=hT5.mono hmr
  simp
  obtain ⟨I,hI⟩: ∃I:Nat→AFrame→AMem→Prop,∀q f m',I q f m'↔(∃k:Nat,k+q=(l5).length∧f=h93_0 t5 (.int .i64 ((n5):Nat)) ro (.int .i64 k)∧mr<+:m'∧ ∀j,j<k→RR (l5) j≠RR (l5) (n5)):=⟨_,fun _ _ _=>Iff.rfl⟩
  refine W_loop I (l5).length ((hI _ _ _).2 ⟨0,by simp,by simp,List.prefix_refl _,by simp⟩) ?_
  rintro q f m8 hIn
  obtain ⟨k,hk,rfl,hm8,hno⟩:=(hI _ _ _).1 hIn
  clear hIn
  simp[(hTr.mono hm8).len]
  refine bbind_dec (fun hkl=>?_) fun hkl=>?_
  ·have hkl:k<(l5).length:=by omega
   have hw:=step64 (k:=k) (n:=(l5).length) hkl (by omega)
   obtain ⟨q,rfl⟩: ∃q',q=q'+1:=⟨q-1,by omega⟩
   obtain ⟨ba,oa,pa,la⟩:=rlAt (ints_of_nat hX) hkl
   obtain ⟨bb,ob,pb,lb⟩:=rlAt (ints_of_nat hX) hn5
   have la:=la m8 hm8
   have lb:=lb m8 hm8
   have hxy:(((RR (l5) k:Nat):Int)==((RR (l5) (n5):Nat):Int))=decide (RR (l5) k=RR (l5) (n5)):=by
    rw[Bool.eq_iff_iff,decide_eq_true_iff,beq_iff_eq]
    constructor<;>intro h<;>omega
   simp
   refine W_drawPR (by simp[maxDst]) rfl rfl ?_
   simp[pa,la,pb,lb,hxy]
   intro m9 hm9
   by_cases he:RR (l5) k=RR (l5) (n5)
   ·simp[he,leastN_at hkl he hno]
    exact ⟨(((hm05.trans hmr).trans hm8).trans hm9),hTr.mono (hm8.trans hm9)⟩
   ·simp[he,hw]
    refine ⟨q,by omega,(hI _ _ _).2 ⟨k+1,by omega,by simp,hm8.trans hm9,fun j hj=>?_⟩⟩
    by_cases hjk:j=k
    ·subst hjk;exact he
    ·exact hno j (by omega)
  ·exact absurd rfl (hno (n5) (by omega))
 ·have hK9: ¬(mdAt l a).kind=9:=by rw[hma];exact h9
  have hD:downI l a=if (mdAt l a).kind=13∧(mdAt l a).elems.length=1∧(mdAt l (headE l a)).kind≠0 then some (l,leastN l (headE l a)) else none:=by unfold downI;rw[if_neg hK9]
  rw[hma] at hD
  by_cases h13:l[a].kind=13
  rotate_left
  ·have hDn:downI l a=none:=by rw[hD,if_neg (fun h=>h13 h.1)]
   rw[hDn]
   simp[beqF h13,beqF h9,bx (own_read hb8)]
   exact ⟨hm03,RTab.nil0 _⟩
  by_cases h1:l[a].elems.length=1
  rotate_left
  ·have h1': ¬(l[a].elems.length:Int)=1:=by omega
   have hDn:downI l a=none:=by rw[hD,if_neg (fun h=>h1 h.2.1)]
   rw[hDn]
   simp[h13,hlen,beqF h1',bx (own_read hb8)]
   exact ⟨hm03,RTab.nil0 _⟩
  have hla:lead l a:= .inr (by rw[hma];exact ⟨h13,h1⟩)
  obtain ⟨hel,hhl⟩:=lead_elem hc ha hla
  rw[hma] at hel
  obtain ⟨b0,o0,p1,p2⟩:=bound1 he3 hel
  obtain ⟨bh,oh,ch,k4,_,k5,_,_⟩:=(hs.mono hm03).atC hhl
  have hmh:=mdAt_eq hhl
  by_cases hv:l[headE l a].kind=0
  ·have hDn:downI l a=none:=by rw[hD,if_neg (fun h=>h.2.2 (by rw[hmh];exact hv))]
   rw[hDn]
   simp[h13,hlen,h1,bx (own_read hb8),p1,p2 m3 (List.prefix_refl _),k4,k5,hv]
   exact ⟨hm03,RTab.nil0 _⟩
  have hDs:downI l a=some (l,leastN l (headE l a)):=by rw[hD,if_pos ⟨h13,h1,by rw[hmh];exact hv⟩]
  rw[hDs]
  simp[h13,hlen,h1,bx (own_read hb8),p1,p2 m3 (List.prefix_refl _),k4,k5,bneT hv]
  refine C_of (k131 s l m3 (hs.mono hm03) hr.h40 hl) ?_
  rintro t4 m4 ⟨hm4,hT4'⟩
  have hT4:=hT4'.tab
  have hb84:=own_mono hb8 hm4
  have hr4:=hr
  have hn4:=hhl
  have hm04:=hm03.trans hm4
  simp[bx (own_read hb84),h13,p1,p2 m4 hm4]
  have ok_4:=okT_of hr4.ck
  have hl4:=hr4.len
  refine C_of (k127 t4 (l) m4 hT4 ok_4.good (by omega) hr4.sm ok_4.h64 ok_4.names) ?_
  rintro ro mr ⟨hmr,hX⟩
  have hTr:=hT4.mono hmr
  simp
  obtain ⟨I,hI⟩: ∃I:Nat→AFrame→AMem→Prop,∀q f m',I q f m'↔(∃k:Nat,k+q=(l).length∧f=h93_0 t4 (.int .i64 ((headE l a):Nat)) ro (.int .i64 k)∧mr<+:m'∧ ∀j,j<k→RR (l) j≠RR (l) (headE l a)):=⟨_,fun _ _ _=>Iff.rfl⟩
  refine W_loop I (l).length ((hI _ _ _).2 ⟨0,by simp,by simp,List.prefix_refl _,by simp⟩) ?_
  rintro q f m8 hIn
  obtain ⟨k,hk,rfl,hm8,hno⟩:=(hI _ _ _).1 hIn
  clear hIn
  simp[(hTr.mono hm8).len]
  refine bbind_dec (fun hkl=>?_) fun hkl=>?_
  ·have hkl:k<(l).length:=by omega
   have hw:=step64 (k:=k) (n:=(l).length) hkl (by omega)
   obtain ⟨q,rfl⟩: ∃q',q=q'+1:=⟨q-1,by omega⟩
   obtain ⟨ba,oa,pa,la⟩:=rlAt (ints_of_nat hX) hkl
   obtain ⟨bb,ob,pb,lb⟩:=rlAt (ints_of_nat hX) hn4
   have la:=la m8 hm8
   have lb:=lb m8 hm8
   have hxy:(((RR (l) k:Nat):Int)==((RR (l) (headE l a):Nat):Int))=decide (RR (l) k=RR (l) (headE l a)):=by
    rw[Bool.eq_iff_iff,decide_eq_true_iff,beq_iff_eq]
    constructor<;>intro h<;>omega
   simp
   refine W_drawPR (by simp[maxDst]) rfl rfl ?_
   simp[pa,la,pb,lb,hxy]
   intro m9 hm9
   by_cases he:RR (l) k=RR (l) (headE l a)
   ·simp[he,leastN_at hkl he hno]
    exact ⟨(((hm04.trans hmr).trans hm8).trans hm9),hTr.mono (hm8.trans hm9)⟩
   ·simp[he,hw]
    refine ⟨q,by omega,(hI _ _ _).2 ⟨k+1,by omega,by simp,hm8.trans hm9,fun j hj=>?_⟩⟩
    by_cases hjk:j=k
    ·subst hjk;exact he
    ·exact hno j (by omega)
  ·exact absurd rfl (hno (headE l a) (by omega))
end Go.Proofs.YtlniliigcnedmaaGreat
namespace Go.Proofs.YtlniliigcnedmaaGreat
open Go Ax
open Relation
set_option maxRecDepth 100000
set_option maxHeartbeats 4000000 in
theorem k61 (s:AVal) (l:List Md) (u v:Int) (m:AMem) (hs:RTab m s l) (hsm: ∀y∈l,smallN y) (hl:l.length<2^20) (hr:checkI l=0→Room l):
  ACalls Tryz.prog 61 [s,.int .i64 u,.int .i64 v] m fun w m'=>m<+:m'∧w=firmU l u v (firmI 100 l u.toNat v.toNat) (rightI l [u,v]):=by
 refine w61 ?_
 simp[fillA,setN]
 have hA:=two_ints m u v
 have hm1:m<+:m++ [.own [.int .i64 u,.int .i64 v] 3 none]:=List.prefix_append _ _
 generalize AVal.slice m.length 0 2 2 none=t1 at*
 generalize m++ [.own [.int .i64 u,.int .i64 v] 3 none]=m1 at*
 refine C_of (k19 s t1 l [u,v] m1 (hs.mono hm1) hA.ints hsm (by omega) (by simp)) ?_
 rintro _ m2 ⟨rfl,hm2⟩
 have hm02:=hm1.trans hm2
 by_cases hri:rightI l [u,v]=0
 rotate_left
 ·simp[bneT hri,firmU,hri]
  exact hm02
 obtain ⟨hc,a,b,rfl,rfl,ha,hb⟩:=right2 hri
 replace hr:=hr hc
 have hU: ∀F,firmU l a b F (rightI l [(a:Int),(b:Int)])=match F with
   |none=> .tuple [.int .i64 0,.bool false,.int .i64 0]
   |some p=> .tuple [.int .i64 (p.1:Nat),.bool true,.int .i64 0]:=fun F=>by
  unfold firmU
  rw[if_neg (by simp[hri])]
  all_goals (cases F<;>rfl)
 rw[hU]
 simp[hri]
 obtain ⟨t0,ht0,hL0⟩:=Lead.has hr ha
 obtain ⟨I,hI⟩: ∃I:Nat→AFrame→AMem→Prop,∀q f m',I q f m'↔(∃(k:Nat) (lk:List Md) (sk:AVal) (mk:Nat),k+q≤19∧f=h61_0 sk (.int .i64 b) (.int .i64 mk) (.int .i64 k)∧m<+:m'∧RTab m' sk lk∧Room lk∧Ext l lk∧mk<lk.length∧Lead lk mk q∧FirmAt l a b k lk mk):=⟨_,fun _ _ _=>Iff.rfl⟩
 refine W_loop I t0 ((hI _ _ _).2 ⟨0,l,s,a,by omega,by simp,hm02,hs.mono hm02,hr,.refl,ha,hL0,?_⟩) ?_
 ·unfold FirmAt
  simp
 rintro q f m3 hIn
 obtain ⟨k,lk,sk,mk,hkq,rfl,hm3,hsk,hrk,hxk,hmk,hLk,hFk⟩:=(hI _ _ _).1 hIn
 clear hIn
 have hlen:=hxk.len
 have hrkl:=hrk.len
 simp
 refine C_of (k91 sk lk mk b m3 hsk hrk hmk (by omega)) ?_
 rintro _ m4 ⟨rfl,hm4⟩
 simp
 refine C_of (k92 sk lk mk b m4 (hsk.mono hm4) hrk.sm (by omega)) ?_
 rintro _ m5 ⟨rfl,hm5⟩
 rw[uniV_ok hrk.ck hmk (by omega)]
 have hm05:=(hm3.trans hm4).trans hm5
 simp
 by_cases hme:RR lk mk=RR lk b∨uniB lk mk b=true
 ·have hres:=hFk.hit (by omega) hme
  rw[hres]
  by_cases he:RR lk mk=RR lk b
  ·simp[he,hm05]
  ·have hu:=hme.resolve_left he
   simp[he,hu,hm05]
 ·have he: ¬RR lk mk=RR lk b:=fun h=>hme (.inl h)
  have hu:uniB lk mk b=false:=by
   cases h:uniB lk mk b
   ·rfl
   ·exact absurd (.inr h) hme
  simp[he,hu]
  refine C_of (k93 sk lk mk m5 (hsk.mono (hm4.trans hm5)) hrk.sm (by omega) fun _=>hrk) ?_
  rintro _ m6 ⟨hm6,t,rfl,hT⟩
  rw[downV_ok hrk.ck hmk] at hT ⊢
  cases hd:downI lk mk with
  |none=>
   have hres:=hFk.none (by omega) hme hd
   rw[hres]
   simp
   exact hm05.trans hm6
  |some p=>
   obtain ⟨l',n⟩:=p
   rw[hd] at hT
   simp only at hT
   have hw:=step64 (k:=k) (n:=100) (by omega) (by omega)
   obtain ⟨_,hr',hx',hn,hlt⟩:=down_ok hrk hmk hd
   obtain ⟨q',hq',hL'⟩:=hlt q hLk
   simp[hw]
   exact ⟨q',hq',(hI _ _ _).2 ⟨k+1,l',t,n,by omega,by simp,hm05.trans hm6,hT,hr',hxk.trans hx',hn,hL',hFk.down (by omega) hme hd⟩⟩
theorem FirmAt.inv {l0 lk:List Md} {a b k mk n:Nat} {u:Bool} (h:FirmAt l0 a b k lk mk) (hk:k<100) (hF:firmI 100 l0 a b=some (n,u)):(k=n∧u= !decide (RR lk mk=RR lk b)∧(RR lk mk=RR lk b∨uniB lk mk b=true))∨(k<n∧ ¬(RR lk mk=RR lk b∨uniB lk mk b=true)∧ ∃l' n',downI lk mk=some (l',n')):=by
 by_cases hm:RR lk mk=RR lk b∨uniB lk mk b=true
 ·have:=h.hit hk hm
  rw[hF] at this
  simp only[Option.some.injEq,Prod.mk.injEq] at this
  exact .inl ⟨this.1.symm,this.2,hm⟩
 ·cases hd:downI lk mk with
  |none=>
   have:=h.none hk hm hd
   rw[hF] at this
   cases this
  |some p=>
   obtain ⟨l',n'⟩:=p
   have:=h.down hk hm hd
   unfold FirmAt at this
   rw[hF] at this
   have:=this.symm
   rw[Option.map_eq_some_iff] at this
   obtain ⟨w,_,h1⟩:=this
   simp only[Prod.mk.injEq] at h1
   exact .inr ⟨by omega,hm,l',n',rfl⟩
set_option maxHeartbeats 4000000 in
theorem k62 (s:AVal) (l:List Md) (a b n:Nat) (u:Bool) (m:AMem) (hs:RTab m s l) (hr:Room l) (ha:a<l.length) (hb:b<l.length) (hF:firmI 100 l a b=some (n,u)):
  ACalls Tryz.prog 62 [s,.int .i64 a,.int .i64 n,.int .i64 b] m fun v m'=>m<+:m'∧v= .bool u:=by
 refine w62 ?_
 simp
 obtain ⟨t0,ht0,hL0⟩:=Lead.has hr ha
 obtain ⟨I,hI⟩: ∃I:Nat→AFrame→AMem→Prop,∀q f m',I q f m'↔(∃(k:Nat) (lk:List Md) (sk:AVal) (mk:Nat),k+q≤19∧f=h62_0 sk (.int .i64 n) (.int .i64 b) (.int .i64 mk) (.int .i64 k)∧m<+:m'∧RTab m' sk lk∧Room lk∧Ext l lk∧mk<lk.length∧Lead lk mk q∧FirmAt l a b k lk mk):=⟨_,fun _ _ _=>Iff.rfl⟩
 refine W_loop I t0 ((hI _ _ _).2 ⟨0,l,s,a,by omega,by simp,List.prefix_refl _,hs,hr,.refl,ha,hL0,?_⟩) ?_
 ·unfold FirmAt
  simp
 rintro q f m3 hIn
 obtain ⟨k,lk,sk,mk,hkq,rfl,hm3,hsk,hrk,hxk,hmk,hLk,hFk⟩:=(hI _ _ _).1 hIn
 clear hIn
 have hlen:=hxk.len
 have hrkl:=hrk.len
 rcases hFk.inv (by omega) hF with ⟨rfl,hu,_⟩|⟨hkn,hme,l',n',hd⟩
 ·simp
  refine C_of (k91 sk lk mk b m3 hsk hrk hmk (by omega)) ?_
  rintro _ m4 ⟨rfl,hm4⟩
  simp[hu]
  exact hm3.trans hm4
 ·have hkn':(k:Int)<n:=by omega
  simp[hkn']
  refine C_of (k93 sk lk mk m3 hsk hrk.sm (by omega) fun _=>hrk) ?_
  rintro _ m6 ⟨hm6,t,rfl,hT⟩
  rw[downV_ok hrk.ck hmk,hd] at hT ⊢
  simp only at hT
  have hw:=step64 (k:=k) (n:=100) (by omega) (by omega)
  obtain ⟨_,hr',hx',hn,hlt⟩:=down_ok hrk hmk hd
  obtain ⟨q',hq',hL'⟩:=hlt q hLk
  simp[hw]
  exact ⟨q',hq',(hI _ _ _).2 ⟨k+1,l',t,n',by omega,by simp,hm3.trans hm6,hT,hr',hxk.trans hx',hn,hL',hFk.down (by omega) hme hd⟩⟩
end Go.Proofs.YtlniliigcnedmaaGreat
namespace Go.Proofs.YtlniliigcnedmaaGreat
open Go Ax
open Relation
set_option maxRecDepth 100000
theorem firmU_ok {l:List Md} {a b:Nat} (hc:checkI l=0) (ha:a<l.length) (hb:b<l.length) (F:Option (Nat×Bool)):firmU l a b F (rightI l [(a:Int),(b:Int)])=match F with
  |none=> .tuple [.int .i64 0,.bool false,.int .i64 0]
  |some p=> .tuple [.int .i64 (p.1:Nat),.bool true,.int .i64 0]:=by
 unfold firmU
 rw[if_neg (by simp[rightI_two hc ha hb])]
 all_goals (cases F<;>rfl)
set_option maxHeartbeats 8000000 in
theorem k34 (s:AVal) (l:List Md) (a b:Nat) (fi:Bool) (m:AMem) (hs:RTab m s l) (hr:Room l) (ha:a<l.length) (hb:b<l.length):
  ACalls Tryz.prog 34 [s,.int .i64 a,.int .i64 b,.bool fi] m fun v m'=>m<+:m'∧v= .tuple [.agg (wC (halfI l fi b (basesOf l a))),.bool (halfI l fi b (basesOf l a)).isSome,.int .i64 0]:=by
 refine w34 ?_
 have hc:=hr.ck
 have hg:=(okT_of hc).good
 have hrl:=hr.len
 simp
 have a6:(m++ [ABlk.own [.bool false,.int .i64 0,.int .i64 0,.bool false] 49 none])[m.length]? =some (.own [.bool false,.int .i64 0,.int .i64 0,.bool false] 49 none):=by simp
 have am:m<+:m++ [ABlk.own [.bool false,.int .i64 0,.int .i64 0,.bool false] 49 none]:=List.prefix_append _ _
 generalize m++ [ABlk.own [.bool false,.int .i64 0,.int .i64 0,.bool false] 49 none]=m1 at*
 generalize hn8:m.length=n8 at*
 refine C_of (k60 s l a m1 (hs.mono am) hr.sm hc ha) ?_
 rintro t11 m2 ⟨hm2,zs,hZ,hbo⟩
 obtain rfl:=hbo.eq
 have hzl: ∀z∈basesOf l a,z<l.length:=fun z hz=>(basesOf_sub hg ha hz).lt hg ha
 have hzn:(basesOf l a).length≤12:=hr.t13.bases hg ha
 simp[fillA,setN]
 have a9:(m2++ [ABlk.own [.bool false,.int .i64 0,.int .i64 0,.bool false] 49 none])[m2.length]? =some (.own [.bool false,.int .i64 0,.int .i64 0,.bool false] 49 none):=by simp
 have cm:m2<+:m2++ [ABlk.own [.bool false,.int .i64 0,.int .i64 0,.bool false] 49 none]:=List.prefix_append _ _
 rw[store_new _ _ [.bool false,.int .i64 0,.int .i64 0,.bool false] _ _ 4 rfl rfl rfl]
 simp
 have hm2l:=hm2.length_le
 have h8l:n8<m1.length:=(List.getElem?_eq_some_iff.1 a6).1
 have hZb: ∀bq,t11.blk=some bq→bq<m2.length:=fun bq h=>(hZ.blk_lo h).2
 generalize m2++ [ABlk.own [.bool false,.int .i64 0,.int .i64 0,.bool false] 49 none]=M at*
 generalize hn12:m2.length=n12 at*
 have bm:m<+:M:=(am.trans hm2).trans cm
 have b8:=own_mono (own_mono a6 hm2) cm
 have hZ0:=hZ.mono cm
 have hnB: ∀{m':AMem},Ch (fun c=>c=n12) M m'→m<+:m':=fun h=>h.pre bm fun c hc e=>by omega
 generalize basesOf l a=zs at*
 obtain ⟨I,hI⟩: ∃I:Nat→AFrame→AMem→Prop,∀q f m',I q f m'↔(∃j:Nat,j+q=zs.length∧f=h34_0 s (.int .i64 b) (.bool fi) .undef (.ptr n8 0) t11 (.ptr n12 0) (.bool (halfI l fi b (zs.take j)).isSome) (.int .i64 j)∧Ch (fun c=>c=n12) M m'∧m'[n12]? =some (.own (wC (halfI l fi b (zs.take j))) 49 none)):=⟨_,fun _ _ _=>Iff.rfl⟩
 refine W_loop I zs.length ((hI _ _ _).2 ⟨0,by simp,by simp[halfI],.refl _ _,by simpa[halfI,wC] using a9⟩) ?_
 rintro q f m4 hIn
 obtain ⟨j,hj,rfl,hch4,h94⟩:=(hI _ _ _).1 hIn
 clear hIn
 have hZ4:=hZ0.ch hch4 fun bq h1 h2=>by have:=hZb bq h1;omega
 simp[hZ4.len]
 refine bbind_dec (fun hjl=>?_) fun hjl=>?_
 ·have hjl:j<zs.length:=by omega
  have hw:=step64 (k:=j) (n:=zs.length) hjl (by omega)
  obtain ⟨q,rfl⟩: ∃q',q=q'+1:=⟨q-1,by omega⟩
  obtain ⟨bz,oz,_,hpz,hlz,_⟩:=hZ4.at (i:=j) hjl
  have hzj:=hzl _ (List.getElem_mem hjl)
  have hsn:halfI l fi b (zs.take (j+1))=better (halfI l fi b (zs.take j)) (oneW l fi b zs[j] (firmI 100 l zs[j] b)):=by
   rw[List.take_add_one,List.getElem?_eq_getElem hjl,Option.toList_some,half_snoc]
  generalize halfI l fi b (zs.take j)=cur at*
  generalize zs[j]=z at*
  simp[hpz,hlz]
  refine C_of (k61 s l z b m4 (hs.mono (hnB hch4)) hr.sm (by omega) fun _=>hr) ?_
  rintro _ m5 ⟨hm5,rfl⟩
  rw[firmU_ok hc hzj hb]
  simp only[Int.toNat_natCast]
  have h95:=own_mono h94 hm5
  have hch5:Ch (fun c=>c=n12) M m5:=hch4.trans (.of_prefix hm5)
  have fin: ∀(m6:AMem) (nw:Option (Bool×Nat×Nat×Bool)),nw=better cur (oneW l fi b z (firmI 100 l z b))→Ch (fun c=>c=n12) m5 m6→m6[n12]? =some (.own (wC nw) 49 none)→I q (h34_0 s (.int .i64 b) (.bool fi) .undef (.ptr n8 0) t11 (.ptr n12 0) (.bool nw.isSome) (.int .i64 ((j+1:Nat):Int))) m6:=fun m6 nw hnw hc h=>by
   exact (hI _ _ _).2 ⟨j+1,by omega,by rw[hsn,hnw],hch5.trans hc,by rw[hsn,←hnw];exact h⟩
  have hlz5:=loadE_mono hm5 hlz
  cases hF:firmI 100 l z b with
  |none=>
   rw[hF] at fin
   simp[hw]
   exact ⟨q,by omega,by simpa using fin m5 cur (by rw[oneW,Option.map_none,better_none]) (.refl _ _) h95⟩
  |some w=>
   obtain ⟨n,u⟩:=w
   rw[hF] at fin
   have hst: ∀m6,m5<+:m6→ ∃m7,storeE m6 4 (.ptr n12 0) (.agg [.bool fi,.int .i64 (z:Nat),.int .i64 (n:Nat),.bool u])=some (.undef,m7)∧m7[n12]? =some (.own (wC (some (fi,z,n,u))) 49 none)∧Ch (fun c=>c=n12) m5 m7:=fun m6 hm6=>by
    obtain ⟨m7,g1,g2,g3⟩:=agg_store (n:=4) (own_mono h95 hm6) (cs:= [.bool fi,.int .i64 (z:Nat),.int .i64 (n:Nat),.bool u]) rfl (wC_len _).1 rfl
    exact ⟨m7,g1,g2,(Ch.of_prefix hm6).trans g3⟩
   have hcall: ∀m6,m5<+:m6→ACalls Tryz.prog 62 [s,.int .i64 z,.int .i64 n,.int .i64 b] m6 fun v m'=>m6<+:m'∧v= .bool u:=fun m6 hm6=>k62 s l z b n u m6 ((hs.mono (hnB hch5)).mono hm6) hr hzj hb hF
   by_cases hgo:cur=none∨ ∃w0,cur=some w0∧n<w0.2.2.1
   ·have hnew: ∀m7,m7[n12]? =some (.own (wC (some (fi,z,n,u))) 49 none)→Ch (fun c=>c=n12) m5 m7→I q (h34_0 s (.int .i64 b) (.bool fi) .undef (.ptr n8 0) t11 (.ptr n12 0) (.bool true) (.int .i64 ((j:Int)+1))) m7:=fun m7 h1 h2=>by
     have:=fin m7 (some (fi,z,n,u)) (by rcases hgo with rfl|⟨w0,rfl,hlt⟩;rfl;simp[oneW,better,hlt]) h2 h1
     simpa using this
    rcases hgo with rfl|⟨w0,rfl,hlt⟩
    ·simp
     refine W_draw (fun i v _=>i=13→v= .bool u) (by simp[maxDst]) ?_
     refine D_pc 0 13 [13,14,15,16] ?_
     simp[hpz,hlz5]
     intro _ _
     refine D_C rfl trivial rfl (fun m' hm' _=>(hcall m' hm').mono ?_) ?_ ?_ ?_
     ·rintro w m'' ⟨g1,rfl⟩
      exact ⟨g1,fun _=>rfl⟩
     ·exact ⟨.bool u,m5,List.prefix_refl _,fun _=>rfl⟩
     ·rintro w m' m'' _ hk
      exact hk
     rintro v6 m6 hm6 hv6
     obtain rfl:=hv6 rfl
     refine D_P rfl trivial ?_
     simp[fillA,setN]
     refine D_W rfl rfl fun m7 hm7 _=>?_
     obtain ⟨m8,hs8,h98,hc8⟩:=hst m7 hm7
     simp[hs8]
     refine D_P rfl trivial ?_
     simp
     refine D_end fun m9 hm9 _=>?_
     simp[hw]
     exact ⟨q,by omega,hnew m9 (own_mono h98 hm9) (hc8.trans (.of_prefix hm9))⟩
    ·have h95r:=bx (own_read h95) 2
     simp[wC] at h95r
     simp[h95r,hlt]
     refine W_draw (fun i v _=>i=13→v= .bool u) (by simp[maxDst]) ?_
     refine D_pc 0 13 [13,14,15,16] ?_
     simp[hpz,hlz5]
     intro _ _
     refine D_C rfl trivial rfl (fun m' hm' _=>(hcall m' hm').mono ?_) ?_ ?_ ?_
     ·rintro w m'' ⟨g1,rfl⟩
      exact ⟨g1,fun _=>rfl⟩
     ·exact ⟨.bool u,m5,List.prefix_refl _,fun _=>rfl⟩
     ·rintro w m' m'' _ hk
      exact hk
     rintro v6 m6 hm6 hv6
     obtain rfl:=hv6 rfl
     refine D_P rfl trivial ?_
     simp[fillA,setN]
     refine D_W rfl rfl fun m7 hm7 _=>?_
     obtain ⟨m8,hs8,h98,hc8⟩:=hst m7 hm7
     simp[hs8]
     refine D_P rfl trivial ?_
     simp
     refine D_end fun m9 hm9 _=>?_
     simp[hw]
     exact ⟨q,by omega,hnew m9 (own_mono h98 hm9) (hc8.trans (.of_prefix hm9))⟩
   ·obtain ⟨w0,rfl⟩: ∃w0,cur=some w0:=by
     cases cur with
     |none=>exact absurd (.inl rfl) hgo
     |some w0=>exact ⟨w0,rfl⟩
    have hlt: ¬n<w0.2.2.1:=fun h=>hgo (.inr ⟨w0,rfl,h⟩)
    have h95r:=bx (own_read h95) 2
    simp[wC] at h95r
    simp[h95r,hlt,hw]
    exact ⟨q,by omega,by simpa using fin m5 (some w0) (by simp[oneW,better,hlt]) (.refl _ _) h95⟩
 ·have hjl:j=zs.length:=by omega
  subst hjl
  rw[List.take_length] at h94 ⊢
  have hrd:=bxW (own_read h94) 4
  rw[readN_all (wC_len _).1] at hrd
  obtain ⟨m5,hs3,h62,hc3⟩:=agg_store (n:=4) (hch4.keep _ _ b8 (by omega)) (cs:=wC (halfI l fi b zs)) (wC_len _).1 rfl (wC_len _).2
  have hrd2:=bxW (own_read h62) 4
  rw[readN_all (wC_len _).1] at hrd2
  simp[hrd,hs3,hrd2]
  exact hc3.pre (hnB hch4) fun c hc e=>by omega
set_option maxHeartbeats 4000000 in
theorem k20 (s:AVal) (l:List Md) (u v:Int) (m:AMem) (hs:RTab m s l) (hsm: ∀y∈l,smallN y) (hl:l.length<2^20) (hr:checkI l=0→Room l):
  ACalls Tryz.prog 20 [s,.int .i64 u,.int .i64 v] m fun w m'=>m<+:m'∧w=relU (relI l u.toNat v.toNat) (rightI l [u,v]):=by
 refine w20 ?_
 simp[fillA,setN]
 have a6:(m++ [ABlk.own [.bool false,.int .i64 0,.int .i64 0,.bool false] 49 none,ABlk.own [.int .i64 u,.int .i64 v] 3 none])[m.length]? =some (.own [.bool false,.int .i64 0,.int .i64 0,.bool false] 49 none):=by simp
 have hA:RInts (m++ [ABlk.own [.bool false,.int .i64 0,.int .i64 0,.bool false] 49 none,ABlk.own [.int .i64 u,.int .i64 v] 3 none]) (.slice (m.length+1) 0 2 2 none) [u,v]:=by
  have:=two_ints (m++ [ABlk.own [.bool false,.int .i64 0,.int .i64 0,.bool false] 49 none]) u v
  simpa using this.ints
 have hm1:m<+:m++ [ABlk.own [.bool false,.int .i64 0,.int .i64 0,.bool false] 49 none,ABlk.own [.int .i64 u,.int .i64 v] 3 none]:=List.prefix_append _ _
 generalize AVal.slice (m.length+1) 0 2 2 none=t1 at*
 generalize m++ [ABlk.own [.bool false,.int .i64 0,.int .i64 0,.bool false] 49 none,ABlk.own [.int .i64 u,.int .i64 v] 3 none]=m1 at*
 generalize hn6:m.length=n6 at*
 refine C_of (k19 s t1 l [u,v] m1 (hs.mono hm1) hA hsm (by omega) (by simp)) ?_
 rintro _ m2 ⟨rfl,hm2⟩
 have hm02:=hm1.trans hm2
 have b6:=own_mono a6 hm2
 by_cases hri:rightI l [u,v]=0
 rotate_left
 ·obtain ⟨m3,hs3,h63,hc3⟩:=agg_store (n:=4) b6 (cs:= [.bool false,.int .i64 0,.int .i64 0,.bool false]) rfl rfl rfl
  have hrd:=bxW (own_read h63) 4
  rw[readN_all (n:=4) rfl] at hrd
  have hU:relU (relI l u.toNat v.toNat) (rightI l [u,v])= .tuple [.agg [.bool false,.int .i64 0,.int .i64 0,.bool false],.bool false,.int .i64 (rightI l [u,v])]:=by
   unfold relU
   rw[if_pos hri]
   rfl
  rw[hU]
  simp[bneT hri,fillA,hs3,hrd]
  exact hc3.pre hm02 fun c hc e=>by omega
 obtain ⟨hc,a,b,rfl,rfl,ha,hb⟩:=right2 hri
 replace hr:=hr hc
 have hU:relU (relI l (a:Int).toNat (b:Int).toNat) (rightI l [(a:Int),(b:Int)])= .tuple [.agg (wC (relI l a b)),.bool (relI l a b).isSome,.int .i64 0]:=by
  unfold relU
  rw[if_neg (by simp[hri]),Int.toNat_natCast,Int.toNat_natCast]
 rw[hU]
 simp[hri]
 refine C_of (k34 s l a b true m2 (hs.mono hm02) hr ha hb) ?_
 rintro _ m3 ⟨hm3,rfl⟩
 have hm03:=hm02.trans hm3
 simp
 rw[store_new _ _ (wC (halfI l true b (basesOf l a))) _ _ 4 (wC_len _).1 rfl (wC_len _).2]
 have a10:(m3++ [ABlk.own (wC (halfI l true b (basesOf l a))) 49 none])[m3.length]? =some (.own (wC (halfI l true b (basesOf l a))) 49 none):=by simp
 have cm4:m3<+:m3++ [ABlk.own (wC (halfI l true b (basesOf l a))) 49 none]:=List.prefix_append _ _
 generalize m3++ [ABlk.own (wC (halfI l true b (basesOf l a))) 49 none]=m4 at*
 generalize m3.length=n10 at*
 have hm04:=hm03.trans cm4
 simp
 refine C_of (k34 s l b a false m4 (hs.mono hm04) hr hb ha) ?_
 rintro _ m5 ⟨hm5,rfl⟩
 have hm05:=hm04.trans hm5
 simp
 rw[store_new _ _ (wC (halfI l false a (basesOf l b))) _ _ 4 (wC_len _).1 rfl (wC_len _).2]
 have a13:(m5++ [ABlk.own (wC (halfI l false a (basesOf l b))) 49 none])[m5.length]? =some (.own (wC (halfI l false a (basesOf l b))) 49 none):=by simp
 have cm6:m5<+:m5++ [ABlk.own (wC (halfI l false a (basesOf l b))) 49 none]:=List.prefix_append _ _
 generalize m5++ [ABlk.own (wC (halfI l false a (basesOf l b))) 49 none]=m6 at*
 generalize m5.length=n13 at*
 have hm06:=hm05.trans cm6
 have b66:=own_mono (own_mono (own_mono (own_mono b6 hm3) cm4) hm5) cm6
 have b10:=own_mono (own_mono a10 hm5) cm6
 have hrel:relI l a b=better (halfI l true b (basesOf l a)) (halfI l false a (basesOf l b)):=rfl
 rw[hrel]
 generalize halfI l true b (basesOf l a)=H1 at*
 generalize halfI l false a (basesOf l b)=H2 at*
 have r10:=bxW (own_read b10) 4
 rw[readN_all (wC_len _).1] at r10
 have r13:=bxW (own_read a13) 4
 rw[readN_all (wC_len _).1] at r13
 have hst: ∀H,∃m7,storeE m6 4 (.ptr n6 0) (.agg (wC H))=some (.undef,m7)∧loadE m7 4 true (.ptr n6 0)=some (.agg (wC H))∧m<+:m7:=fun H=>by
  obtain ⟨m7,g1,g2,g3⟩:=agg_store (n:=4) b66 (cs:=wC H) (wC_len _).1 rfl (wC_len _).2
  have r:=bxW (own_read g2) 4
  rw[readN_all (wC_len _).1] at r
  exact ⟨m7,g1,r,g3.pre hm06 fun c hc e=>by omega⟩
 obtain ⟨mA,sA,lA,pA⟩:=hst H1
 obtain ⟨mB,sB,lB,pB⟩:=hst H2
 cases H1 with
 |none=>
  simp[better,r13,sB,lB]
  exact pB
 |some w=>
  cases H2 with
  |none=>
   simp[better,r10,sA,lA]
   exact pA
  |some x=>
   have r10s:=bx (own_read b10) 2
   have r13s:=bx (own_read a13) 2
   simp[wC] at r10s r13s
   by_cases hlt:x.2.2.1<w.2.2.1
   ·have hle: ¬w.2.2.1≤x.2.2.1:=by omega
    simp[better,r10s,r13s,hlt,hle,r13,sB,lB]
    exact pB
   ·have hle:w.2.2.1≤x.2.2.1:=by omega
    simp[better,r10s,r13s,hlt,hle,r10,sA,lA]
    exact pA
end Go.Proofs.YtlniliigcnedmaaGreat
namespace Go.Proofs.YtlniliigcnedmaaGreat
open Go Ax
open Relation
set_option maxRecDepth 100000
def tabA:List Md:= [mdU 3 [],mdU 9 [0],mdU 13 [1],mdU 4 [],mdU 12 [0,3]]
theorem checkA:checkI tabA=0:=by
 refine check_of (by decide) (by decide) (by decide) ?_ (by decide)
 intro a x hx
 match a,hx with
 |0,hx=>simp[tabA,mdU] at hx;subst hx;simp
 |1,hx=>simp[tabA,mdU] at hx;subst hx;simp
 |2,hx=>simp[tabA,mdU] at hx;subst hx;simp
 |3,hx=>simp[tabA,mdU] at hx;subst hx;simp
 |4,hx=>simp[tabA,mdU] at hx;subst hx;simp
 |a+5,hx=>simp[tabA] at hx
theorem roomA:Room tabA:=by
 refine ⟨checkA,pot_le checkA (by decide),(T13.of (by decide)).few (okT_of checkA).good,fun x hx=>?_,fun x hx=>?_⟩
 ·simp[tabA,mdU] at hx
  rcases hx with rfl|rfl|rfl|rfl|rfl<;>simp[smallN]
 ·simp[tabA,mdU] at hx
  rcases hx with rfl|rfl|rfl|rfl|rfl<;>simp
theorem neA {a b:Nat} (ha:a<5) (hb:b<5) (h:(mdAt tabA a).kind≠(mdAt tabA b).kind):RR tabA a≠RR tabA b:=fun e=>h (RR_kind (l:=tabA) ha hb e)
theorem nfA: ¬FlexP tabA 0:=fun h=>by
 have:=h.rs.2
 revert this
 decide
theorem down0:downI tabA 0=none:=by unfold downI;rw[if_neg (by decide),if_neg (by decide)]
theorem down3:downI tabA 3=none:=by unfold downI;rw[if_neg (by decide),if_neg (by decide)]
theorem down1:downI tabA 1=some (tabA,0):=by
 unfold downI
 rw[if_pos (by decide),show headE tabA 1=0 from rfl,(DefL.flat nfA .nil).eq]
 simp only
 rw[leastN_at (k:=0) (by decide) rfl (fun j hj=>by omega)]
theorem down2:downI tabA 2=some (tabA,1):=by
 unfold downI
 rw[if_neg (by decide),if_pos (by decide),show headE tabA 2=1 from rfl,leastN_at (k:=1) (by decide) rfl (fun j hj=>?_)]
 obtain rfl:j=0:=by omega
 exact neA (by omega) (by omega) (by decide)
theorem nuA {a b:Nat} (h:isU (mdAt tabA b)=false):uniB tabA a b=false:=by
 unfold uniB
 rw[h]
 rfl
theorem nmA {a b:Nat} (h:isU (mdAt tabA b)=false) (hne:RR tabA a≠RR tabA b): ¬(RR tabA a=RR tabA b∨uniB tabA a b=true):=fun h'=>by
 rw[nuA h] at h'
 simp at h'
 exact hne h'
theorem firm_go {F:Nat} {l l':List Md} {m n to:Nat} (h: ¬(RR l m=RR l to∨uniB l m to=true)) (hd:downI l m=some (l',n)):firmI (F+1) l m to=(firmI F l' n to).map fun p=>(p.1+1,p.2):=by
 rw[firmI,if_neg h,hd]
theorem firmA20:firmI 100 tabA 2 0=some (2,false):=by
 have h0: ∀F,firmI (F+1) tabA 0 0=some (0,false):=fun F=>by
  rw[firmI,if_pos (.inl rfl)]
  simp
 have h1: ∀F,firmI (F+1+1) tabA 1 0=some (1,false):=fun F=>by
  rw[firm_go (nmA (by decide) (neA (by omega) (by omega) (by decide))) down1,h0]
  rfl
 have h2: ∀F,firmI (F+1+1+1) tabA 2 0=some (2,false):=fun F=>by
  rw[firm_go (nmA (by decide) (neA (by omega) (by omega) (by decide))) down2,h1]
  rfl
 exact h2 97
theorem firmA02:firmI 100 tabA 0 2=none:=by
 rw[firm_stop 99 _ _ _ down0,if_neg (nmA (by decide) (neA (by omega) (by omega) (by decide)))]
theorem firmA03:firmI 100 tabA 0 3=none:=by
 rw[firm_stop 99 _ _ _ down0,if_neg (nmA (by decide) (neA (by omega) (by omega) (by decide)))]
theorem firmA30:firmI 100 tabA 3 0=none:=by
 rw[firm_stop 99 _ _ _ down3,if_neg (nmA (by decide) (neA (by omega) (by omega) (by decide)))]
theorem basesA {a:Nat} (ha:a<5) (h:isU (mdAt tabA a)=false):basesOf tabA a= [a]:=bases_nu (okT_of checkA).good ha h
theorem half_one (l:List Md) (fi:Bool) (to z:Nat):halfI l fi to [z]=oneW l fi to z (firmI 100 l z to):=rfl
theorem relA02:relI tabA 0 2=some (false,2,2,false):=by
 unfold relI
 rw[basesA (by omega) (by decide),basesA (by omega) (by decide),half_one,half_one,firmA02,firmA20]
 rfl
theorem relA03:relI tabA 0 3=none:=by
 unfold relI
 rw[basesA (by omega) (by decide),basesA (by omega) (by decide),half_one,half_one,firmA03,firmA30]
 rfl
set_option maxHeartbeats 4000000 in
theorem k5 (m:AMem):ACalls Tryz.prog 5 [] m fun v m'=>v= .bool true∧m<+:m':=by
 refine w5 ?_
 simp[fillA,setN]
 have b0:readB (m++ [ABlk.own [.int .i64 0] 3 none,ABlk.own [.int .i64 1] 3 none,ABlk.own [.int .i64 0,.int .i64 3] 3 none,ABlk.own [.int .i64 3,.int .i64 0,.nilslice,.nilslice,.int .i64 0,.bool false,.int .i64 9,.int .i64 0,.slice m.length 0 1 1 none,.nilslice,.int .i64 0,.bool false,.int .i64 13,.int .i64 0,.slice (m.length+1) 0 1 1 none,.nilslice,.int .i64 0,.bool false,.int .i64 4,.int .i64 0,.nilslice,.nilslice,.int .i64 0,.bool false,.int .i64 12,.int .i64 0,.slice (m.length+2) 0 2 2 none,.nilslice,.int .i64 0,.bool false] 40 none]) m.length=some [.int .i64 0]:=by simp[readB,ABlk.cells]
 have b1:readB (m++ [ABlk.own [.int .i64 0] 3 none,ABlk.own [.int .i64 1] 3 none,ABlk.own [.int .i64 0,.int .i64 3] 3 none,ABlk.own [.int .i64 3,.int .i64 0,.nilslice,.nilslice,.int .i64 0,.bool false,.int .i64 9,.int .i64 0,.slice m.length 0 1 1 none,.nilslice,.int .i64 0,.bool false,.int .i64 13,.int .i64 0,.slice (m.length+1) 0 1 1 none,.nilslice,.int .i64 0,.bool false,.int .i64 4,.int .i64 0,.nilslice,.nilslice,.int .i64 0,.bool false,.int .i64 12,.int .i64 0,.slice (m.length+2) 0 2 2 none,.nilslice,.int .i64 0,.bool false] 40 none]) (m.length+1)=some [.int .i64 1]:=by simp[readB,ABlk.cells,List.getElem?_append_right]
 have b2:readB (m++ [ABlk.own [.int .i64 0] 3 none,ABlk.own [.int .i64 1] 3 none,ABlk.own [.int .i64 0,.int .i64 3] 3 none,ABlk.own [.int .i64 3,.int .i64 0,.nilslice,.nilslice,.int .i64 0,.bool false,.int .i64 9,.int .i64 0,.slice m.length 0 1 1 none,.nilslice,.int .i64 0,.bool false,.int .i64 13,.int .i64 0,.slice (m.length+1) 0 1 1 none,.nilslice,.int .i64 0,.bool false,.int .i64 4,.int .i64 0,.nilslice,.nilslice,.int .i64 0,.bool false,.int .i64 12,.int .i64 0,.slice (m.length+2) 0 2 2 none,.nilslice,.int .i64 0,.bool false] 40 none]) (m.length+2)=some [.int .i64 0,.int .i64 3]:=by simp[readB,ABlk.cells,List.getElem?_append_right]
 have b3:readB (m++ [ABlk.own [.int .i64 0] 3 none,ABlk.own [.int .i64 1] 3 none,ABlk.own [.int .i64 0,.int .i64 3] 3 none,ABlk.own [.int .i64 3,.int .i64 0,.nilslice,.nilslice,.int .i64 0,.bool false,.int .i64 9,.int .i64 0,.slice m.length 0 1 1 none,.nilslice,.int .i64 0,.bool false,.int .i64 13,.int .i64 0,.slice (m.length+1) 0 1 1 none,.nilslice,.int .i64 0,.bool false,.int .i64 4,.int .i64 0,.nilslice,.nilslice,.int .i64 0,.bool false,.int .i64 12,.int .i64 0,.slice (m.length+2) 0 2 2 none,.nilslice,.int .i64 0,.bool false] 40 none]) (m.length+3)=some [.int .i64 3,.int .i64 0,.nilslice,.nilslice,.int .i64 0,.bool false,.int .i64 9,.int .i64 0,.slice m.length 0 1 1 none,.nilslice,.int .i64 0,.bool false,.int .i64 13,.int .i64 0,.slice (m.length+1) 0 1 1 none,.nilslice,.int .i64 0,.bool false,.int .i64 4,.int .i64 0,.nilslice,.nilslice,.int .i64 0,.bool false,.int .i64 12,.int .i64 0,.slice (m.length+2) 0 2 2 none,.nilslice,.int .i64 0,.bool false]:=by simp[readB,ABlk.cells,List.getElem?_append_right]
 have hm1:m<+:m++ [ABlk.own [.int .i64 0] 3 none,ABlk.own [.int .i64 1] 3 none,ABlk.own [.int .i64 0,.int .i64 3] 3 none,ABlk.own [.int .i64 3,.int .i64 0,.nilslice,.nilslice,.int .i64 0,.bool false,.int .i64 9,.int .i64 0,.slice m.length 0 1 1 none,.nilslice,.int .i64 0,.bool false,.int .i64 13,.int .i64 0,.slice (m.length+1) 0 1 1 none,.nilslice,.int .i64 0,.bool false,.int .i64 4,.int .i64 0,.nilslice,.nilslice,.int .i64 0,.bool false,.int .i64 12,.int .i64 0,.slice (m.length+2) 0 2 2 none,.nilslice,.int .i64 0,.bool false] 40 none]:=List.prefix_append _ _
 generalize m++ [ABlk.own [.int .i64 0] 3 none,ABlk.own [.int .i64 1] 3 none,ABlk.own [.int .i64 0,.int .i64 3] 3 none,ABlk.own [.int .i64 3,.int .i64 0,.nilslice,.nilslice,.int .i64 0,.bool false,.int .i64 9,.int .i64 0,.slice m.length 0 1 1 none,.nilslice,.int .i64 0,.bool false,.int .i64 13,.int .i64 0,.slice (m.length+1) 0 1 1 none,.nilslice,.int .i64 0,.bool false,.int .i64 4,.int .i64 0,.nilslice,.nilslice,.int .i64 0,.bool false,.int .i64 12,.int .i64 0,.slice (m.length+2) 0 2 2 none,.nilslice,.int .i64 0,.bool false] 40 none]=m1 at*
 have hT:RTab m1 (.slice (m.length+3) 0 5 5 none) tabA:=by
  refine ⟨_,.inr ⟨_,_,_,_,rfl,⟨by decide,.inl rfl⟩,.inr ⟨by decide,_,b3,rfl⟩⟩,fun i x hx=>?_⟩
  have i1:RInts m1 (.slice m.length 0 1 1 none) [0]:= .inr ⟨_,_,_,_,rfl,⟨by decide,.inl rfl⟩,.inr ⟨by decide,_,b0,rfl⟩⟩
  have i2:RInts m1 (.slice (m.length+1) 0 1 1 none) [1]:= .inr ⟨_,_,_,_,rfl,⟨by decide,.inl rfl⟩,.inr ⟨by decide,_,b1,rfl⟩⟩
  have i3:RInts m1 (.slice (m.length+2) 0 2 2 none) [0,3]:= .inr ⟨_,_,_,_,rfl,⟨by decide,.inl rfl⟩,.inr ⟨by decide,_,b2,rfl⟩⟩
  match i,hx with
  |0,hx=>simp[tabA,mdU] at hx;subst hx;exact ⟨_,_,rfl,Sl.nil,Sl.nil⟩
  |1,hx=>simp[tabA,mdU] at hx;subst hx;exact ⟨_,_,rfl,i1,Sl.nil⟩
  |2,hx=>simp[tabA,mdU] at hx;subst hx;exact ⟨_,_,rfl,i2,Sl.nil⟩
  |3,hx=>simp[tabA,mdU] at hx;subst hx;exact ⟨_,_,rfl,Sl.nil,Sl.nil⟩
  |4,hx=>simp[tabA,mdU] at hx;subst hx;exact ⟨_,_,rfl,i3,Sl.nil⟩
  |i+5,hx=>simp[tabA] at hx
 clear b0 b1 b2 b3
 generalize AVal.slice (m.length+3) 0 5 5 none=s at*
 have hr:=roomA
 have hrA: ∀{a b:Nat},a<5→b<5→rightI tabA [(a:Int),(b:Int)]=0:=fun ha hb=>rightI_two checkA ha hb
 refine C_of (k12 s tabA 2 0 m1 hT hr.sm (by decide) fun _=>hr) ?_
 rintro _ m2 ⟨hm2,rfl⟩
 have e1:firmU tabA 2 0 (firmI 100 tabA (Int.toNat 2) (Int.toNat 0)) (rightI tabA [2,0])= .tuple [.int .i64 2,.bool true,.int .i64 0]:=by
  show firmU tabA 2 0 (firmI 100 tabA 2 0) (rightI tabA [((2:Nat):Int),((0:Nat):Int)])=_
  rw[hrA (by omega) (by omega),firmA20]
  rfl
 rw[e1]
 simp
 refine C_of (k11 s tabA 0 2 m2 (hT.mono hm2) hr.sm (by decide) fun _=>hr) ?_
 rintro _ m3 ⟨hm3,rfl⟩
 have e2:relU (relI tabA (Int.toNat 0) (Int.toNat 2)) (rightI tabA [0,2])= .tuple [.agg [.bool false,.int .i64 2,.int .i64 2,.bool false],.bool true,.int .i64 0]:=by
  show relU (relI tabA 0 2) (rightI tabA [((0:Nat):Int),((2:Nat):Int)])=_
  rw[hrA (by omega) (by omega),relA02]
  rfl
 rw[e2]
 simp
 rw[store_new _ _ [.bool false,.int .i64 2,.int .i64 2,.bool false] _ _ 4 rfl rfl rfl]
 have a5:(m3++ [ABlk.own [.bool false,.int .i64 2,.int .i64 2,.bool false] 34 none])[m3.length]? =some (.own [.bool false,.int .i64 2,.int .i64 2,.bool false] 34 none):=by simp
 have hm34:m3<+:m3++ [ABlk.own [.bool false,.int .i64 2,.int .i64 2,.bool false] 34 none]:=List.prefix_append _ _
 generalize m3++ [ABlk.own [.bool false,.int .i64 2,.int .i64 2,.bool false] 34 none]=m4 at*
 generalize m3.length=n5 at*
 have hm24:=hm3.trans hm34
 simp
 refine C_of (k11 s tabA 0 3 m4 (hT.mono (hm2.trans hm24)) hr.sm (by decide) fun _=>hr) ?_
 rintro _ m5 ⟨hm5,rfl⟩
 have e3:relU (relI tabA (Int.toNat 0) (Int.toNat 3)) (rightI tabA [0,3])= .tuple [.agg [.bool false,.int .i64 0,.int .i64 0,.bool false],.bool false,.int .i64 0]:=by
  show relU (relI tabA 0 3) (rightI tabA [((0:Nat):Int),((3:Nat):Int)])=_
  rw[hrA (by omega) (by omega),relA03]
  rfl
 rw[e3]
 simp
 rw[store_new _ _ [.bool false,.int .i64 0,.int .i64 0,.bool false] _ _ 4 rfl rfl rfl]
 have hm56:m5<+:m5++ [ABlk.own [.bool false,.int .i64 0,.int .i64 0,.bool false] 34 none]:=List.prefix_append _ _
 have r5:=bxW (own_read (own_mono a5 (hm5.trans hm56))) 4
 rw[readN_all (n:=4) rfl] at r5
 generalize m5++ [ABlk.own [.bool false,.int .i64 0,.int .i64 0,.bool false] 34 none]=m6 at*
 simp[r5,fillA,setN,eqC]
 exact ⟨by decide,(((hm1.trans hm2).trans hm24).trans hm5).trans hm56⟩
end Go.Proofs.YtlniliigcnedmaaGreat
namespace Go.Proofs.YtlniliigcnedmaaGreat
open Go Ax Go.ChangeShapes Go.WideShapes Go.ChangeAt Go.RowKit
set_option maxRecDepth 100000
structure FitR (l:List Md):Prop where
 n:l.length≤10
 sm: ∀x∈l,smallN x
 room:checkI l=0→Room l
theorem fitR {l:List Md} (hb: ∀md∈l,MdB reachBytes md) (h:(decide ((l.length:Int)≤10)&&l.all fun x=>decide (x.elems.length≤6)&&decide (x.names.length≤6))=true):FitR l:=by
 have h':=h
 rw[Bool.and_eq_true,decide_eq_true_iff] at h
 have hf:=fits_of hb (by rw[Bool.and_eq_true,decide_eq_true_iff];exact ⟨by omega,h.2⟩)
 exact ⟨by omega,hf.sm,fun hc=>⟨hc,pot_le hc (by omega),(T13.of hf.n).few (okT_of hc).good,hf.sm,hf.h40⟩⟩
end Go.Proofs.YtlniliigcnedmaaGreat
namespace Go.Proofs.YtlniliigcnedmaaGreat
open Go Ax Go.ChangeShapes Go.WideShapes Go.ChangeAt Go.RowKit
set_option maxRecDepth 100000
theorem relU_ok {l:List Md} {a b:Nat} (hc:checkI l=0) (ha:a<l.length) (hb:b<l.length):relU (relI l (a:Int).toNat (b:Int).toNat) (rightI l [(a:Int),(b:Int)])= .tuple [.agg (wC (relI l a b)),.bool (relI l a b).isSome,.int .i64 0]:=by
 unfold relU
 rw[if_neg (by simp[rightI_two hc ha hb]),Int.toNat_natCast,Int.toNat_natCast]
theorem rel_box (m:AMem) (W:Option (Bool×Nat×Nat×Bool)) (z:List AVal) (hz:z.length=4):storeE (m++ [.own z 34 none]) 4 (.ptr m.length 0) (.agg (wC W))=some (.undef,m++ [.own (wC W) 34 none]):=store_new _ _ (wC W) _ _ 4 (wC_len _).1 hz (wC_len _).2
end Go.Proofs.YtlniliigcnedmaaGreat
namespace Go.Proofs.YtlniliigcnedmaaGreat
open Go Ax Go.ChangeShapes Go.WideShapes Go.ChangeAt Go.RowKit
open Relation
set_option maxRecDepth 100000
theorem rightI_nil (l:List Md):rightI l []=checkI l:=by
 unfold rightI
 by_cases h:checkI l=0<;>simp[h]
end Go.Proofs.YtlniliigcnedmaaGreat
namespace Go.Proofs.YtlniliigcnedmaaGreat
open Go Ax
set_option maxRecDepth 100000
theorem w29 {args m R} (h:W Tryz.prog (.seq (.reg [⟨some 4,.P (.mov (.c .nilslice)),none⟩]) (.kill [0,1] (.seq (.seq (.reg [qv 5 1,qk 6 .lss 5 0]) (.kill [0,1,6] (.cond (.t 6) .bad .skip))) (.kill [0,1] (.seq (.seq (.reg [qv 8 1,qv 9 0,⟨some 10,.P (.cap (.t 9)),none⟩,qv 11 0,qn 12 11,qo 13 .sub 10 12,qo 14 .sub 8 13,qv 1 14]) (.kill [0,1] (.seq (.reg [qv 15 1,qk 16 .gtr 15 0]) (.kill [0,1,16] (.cond (.t 16) (.reg [qv 17 0,qv 18 0,⟨some 19,.P (.cap (.t 18)),none⟩,⟨some 20,.P (.slice 1 (.t 17) none (some (.t 19)) none),none⟩,qv 21 1,⟨some 22,.W (.growz 1 8 3 [(.int .i64 0)] (.t 20) (.t 21)),none⟩,qv 23 0,qn 24 23,⟨some 25,.P (.slice 1 (.t 22) none (some (.t 24)) none),none⟩,qv 0 25]) .skip))))) (.kill [0] (.seq (.reg [qv 26 0,qv 4 26]) .ret))))))) (E [(.tmp 4)] R .mk) .mk (mat 27 (sArgs 0 args)) m) (hl:Nat.ble args.length 27=true:=by rfl):ACalls Tryz.prog 29 args m R:=walk mix (by kernel_rfl) (Nat.le_of_ble_eq_true hl) h
end Go.Proofs.YtlniliigcnedmaaGreat
namespace Go.Proofs.YtlniliigcnedmaaGreat
open Go Ax
set_option maxRecDepth 100000
theorem ev_cap_nil (a:AFrame) (x:Arg) (h:a.ev x= .nilslice):POp.ev a (.cap x)=some (.int .i64 0):=by simp[POp.ev,h]
theorem flat_one (n:Nat) (x:AVal):(List.replicate n [x]).flatten=List.replicate n x:=by
 induction n with
 |zero=>rfl
 |succ n ih=>simp[List.replicate_succ,ih]
theorem k29 (n:Nat) (m:AMem) (hn:n<2^40):ACalls Tryz.prog 29 [.nilslice,.int .i64 n] m fun v m'=>m<+:m'∧OwL (AVal.int .i64) m.length m' 3 v []:=by
 refine w29 ?_
 have w0:IntKind.i64.wrap 0=0:=by decide
 have wn:IntKind.i64.wrap n=n:=wrap64 (by omega) (by omega)
 have e0: ¬(n:Int)<0:=by omega
 by_cases h0:n=0
 ·subst h0
  simp[w0,ev_cap_nil]
  exact OwL.nil
 have e1:0<n:=by omega
 have e2:n*8≤140737488355328:=by omega
 have hO:OwL (AVal.int .i64) m.length m 3 .nilslice ([]:List Int):=OwL.nil
 obtain ⟨s',m',h1,h2,h3,h4⟩:=hO.append (Nat.le_refl _) (by_:=8) (by omega) (List.replicate n 0) (by simp;omega)
 obtain ⟨s2,h5,h6,_⟩:=h3.take (i:=0) (by simp)
 have h1':growE m 1 8 3 [.int .i64 0] .nilslice (.int .i64 n)=some (s',m'):=by
  simp[growE,flat_one,e2]
  simpa using h1
 have hnil:sliceE 1 .nilslice none (some (.int .i64 0))=some .nilslice:=by simp[sliceE,bdE,evSlice]
 have h5':sliceE 1 s' none (some (.int .i64 0))=some s2:=by simpa using h5 .i64
 simp[w0,wn,e0,e1,h1',hnil,h5',ev_cap_nil]
 exact ⟨h2.pre (List.prefix_refl _) fun c hc e=>(by cases e),by simpa using h6⟩
set_option maxHeartbeats 4000000 in
theorem k16 (p q:AVal) (b:Nat) (xs ys:List Int) (m:AMem) (hb:m[b]? =some (.own [p,q] 23 none)) (hp:RInts m p xs) (hq:RInts m q ys) (hx:xs.length<2^38) (hy:ys.length<2^38):
  ACalls Tryz.prog 16 [.slice b 0 2 2 none] m fun v m'=>m<+:m'∧OwL (AVal.int .i64) m.length m' 3 v (xs++ys):=by
 refine w16 ?_
 have w1:IntKind.i64.wrap 1=1:=by decide
 have w2:IntKind.i64.wrap 2=2:=by decide
 have wx:IntKind.i64.wrap (xs.length:Int)=xs.length:=wrap64 (by omega) (by omega)
 have wxy:IntKind.i64.wrap ((xs.length:Int)+ys.length)=(xs.length:Int)+ys.length:=wrap64 (by omega) (by omega)
 have ex: ¬(xs.length:Int)<0:=by omega
 have exy: ¬(xs.length:Int)+ys.length<0:=by omega
 simp
 obtain ⟨I,hI⟩: ∃I:Nat→AFrame→AMem→Prop,∀r f m',I r f m'↔(∃i:Nat,i+r=2∧f=h16_0 (.slice b 0 2 2 none) (.int .i64 (if i=0 then 0 else if i=1 then (xs.length:Int) else (xs.length:Int)+ys.length)) (.slice b 0 2 2 none) (.int .i64 2) (.int .i64 i)∧m'=m):=⟨_,fun _ _ _=>Iff.rfl⟩
 refine W_loop I 2 ((hI _ _ _).2 ⟨0,by simp,by simp,rfl⟩) ?_
 rintro r f m1 hIn
 obtain ⟨i,hi,rfl,hm1⟩:=(hI _ _ _).1 hIn
 clear hIn
 rw[hm1]
 simp
 refine bbind_dec (fun hil=>?_) fun hil=>?_
 ·obtain ⟨r,rfl⟩: ∃r',r=r'+1:=⟨r-1,by omega⟩
  obtain rfl|rfl:i=0∨i=1:=by omega
  ·simp[iaddrE,bx (own_read hb),hp.len,wx,ex]
   exact ⟨r,by omega,(hI _ _ _).2 ⟨1,by omega,by simp[w1],rfl⟩⟩
  ·simp[iaddrE,bx (own_read hb),hq.len,wxy,exy]
   exact ⟨r,by omega,(hI _ _ _).2 ⟨2,by omega,by simp[w2],rfl⟩⟩
 obtain rfl:i=2:=by omega
 simp
 rw[←Int.natCast_add]
 refine C_of (k29 (xs.length+ys.length) m (by omega)) ?_
 rintro v6 m2 ⟨hm2,hO⟩
 simp
 obtain ⟨J,hJ⟩: ∃J:Nat→AFrame→AMem→Prop,∀r f m',J r f m'↔(∃(i:Nat) (v:AVal),i+r=2∧f=h16_1 v (.slice b 0 2 2 none) (.int .i64 2) (.int .i64 i)∧m<+:m'∧OwL (AVal.int .i64) m.length m' 3 v (if i=0 then [] else if i=1 then xs else xs++ys)):=⟨_,fun _ _ _=>Iff.rfl⟩
 refine W_loop J 2 ((hJ _ _ _).2 ⟨0,v6,by simp,by simp,hm2,hO⟩) ?_
 rintro r f m3 hJn
 obtain ⟨i,v,hi,rfl,hm3,hO3⟩:=(hJ _ _ _).1 hJn
 clear hJn
 have hb3:=own_mono hb hm3
 have hl3:=hm3.length_le
 simp
 refine bbind_dec (fun hil=>?_) fun hil=>?_
 ·obtain ⟨r,rfl⟩: ∃r',r=r'+1:=⟨r-1,by omega⟩
  obtain rfl|rfl:i=0∨i=1:=by omega
  ·simp only[if_true] at hO3
   obtain ⟨v',m4,h1,h2,h3,_⟩:=hO3.append hl3 (by_:=8) (by omega) xs (by simp;omega)
   have hm4:m<+:m4:=h2.pre hm3 fun c hc e=>by have:=(hO3.blk_lo e).1;omega
   simp[iaddrE,bx (own_read hb3),Sl.cells (hp.mono hm3),h1,w1]
   exact ⟨r,by omega,(hJ _ _ _).2 ⟨1,v',by omega,by simp[w1],hm4,by simpa using h3⟩⟩
  ·simp only[Nat.one_ne_zero,if_false,if_true] at hO3
   obtain ⟨v',m4,h1,h2,h3,_⟩:=hO3.append hl3 (by_:=8) (by omega) ys (by omega)
   have hm4:m<+:m4:=h2.pre hm3 fun c hc e=>by have:=(hO3.blk_lo e).1;omega
   simp[iaddrE,bx (own_read hb3),Sl.cells (hq.mono hm3),h1,w2]
   exact ⟨r,by omega,(hJ _ _ _).2 ⟨2,v',by omega,by simp[w2],hm4,by simpa using h3⟩⟩
 obtain rfl:i=2:=by omega
 simp at hO3
 simp
 exact ⟨hm3,hO3⟩
end Go.Proofs.YtlniliigcnedmaaGreat
namespace Go.Proofs.YtlniliigcnedmaaGreat
open Go Ax Go.ChangeShapes Go.WideShapes Go.ChangeAt Go.RowKit
set_option maxRecDepth 100000
def LawTLL (f:FuncId):Prop:= ∀(m:AMem) (s t u:AVal) (l:List Md) (zs ys:List Int),RTab m s l→RInts m t zs→RInts m u ys→(∀md∈l,MdB reachBytes md)→zs.length≤reachBytes→ys.length≤reachBytes→ACalls Tryz.prog f [s,t,u] m fun r _=>r= .bool true
theorem liftedLL {os:Os} (started:os.Started) {H:Type} {enc:TypeId×Value→H} {f:FuncId} {fn:Func} {s:ChangeSpec} {conds:List PathCond}
  (noInit: Tryz.checked.prog.inits.idxOf? f=none) (hfn: Tryz.checked.prog.funcs[f]? =some fn) (hp:fn.params= #[22,23,23]) (hr:fn.resultTypes= #[4]) (hs:s.vars= [])
  (hsf: ∀d1 d2 d3:DataW H,s.fn H [d1,d2,d3]={results:= [.lit (.bool true)],args:= [d1,d2,d3]})
  (witness: ∃(w:World) (tape:Tape) (i:Input),w.os=os∧(w.forCall tape i).Shaped Tryz.checked.prog∧i.vars= []∧Input.okWide Tryz.checked.prog (w.forCall tape i) .any w.heap.size f i∧
   s.pre6 enc Tryz.checked.prog fn conds false (w.forCall tape i).memory i.args∧({}:Assume).holds Tryz.checked.prog (lone (Frame.enter Tryz.checked.prog f i.args .normal) [] (w.forCall tape i)))
  (law:LawTLL f):
  ReturnsInHanded {} Tryz.checked os f .any (s.pre6 enc Tryz.checked.prog fn conds false) (s.post enc Tryz.checked.prog fn false true false false):=by
 refine returnsInHanded_of_change_sized (C:= Tryz.checked) own0 started noInit hfn witness ?_
 intro W base args ds gs before hval0 hW _ hsz0 _
 have hW':=hW
 rw[hp] at hval0 hsz0
 obtain ⟨p,q,hA,hV,rfl,_,_⟩:=hW
 rw[hp] at hA
 rw[hs] at hV
 obtain ⟨v0,v1,v2,d0,d1,d2,p0,p1,p2,rfl,rfl,rfl,h0,h1,h2⟩:=trodAll_three hA
 obtain ⟨rfl,rfl⟩:=trodVars_none hV
 have hv0:=hval0 0 22 v0 rfl rfl
 have hv1:=hval0 1 23 v1 rfl rfl
 have hv2:=hval0 2 23 v2 rfl rfl
 have h0k:=h0
 have h1k:=h1
 have h2k:=h2
 obtain ⟨fuel,hf⟩:=h0
 obtain ⟨fuel1,hf1⟩:=h1
 obtain ⟨fuel2,hf2⟩:=h2
 obtain ⟨a0,len,cap,rfl⟩:=okWide_slice under22 hv0
 obtain ⟨a1,len1,cap1,rfl⟩:=okWide_slice under33 hv1
 obtain ⟨a2,len2,cap2,rfl⟩:=okWide_slice under33 hv2
 obtain ⟨l,hent,hbd⟩:=enters_tab (enc:=enc) modeT (fuel:=fuel) (x:=(d0,p0)) (fun a len' cap' e=>by
  simp[Value.cells] at e
  obtain ⟨rfl,rfl,rfl⟩:=e
  exact heap_pos under22 hv0) hf
 obtain ⟨_,b2⟩:=hbd reachBytes (by
  rw[List.all_eq_true] at hsz0 ⊢
  intro n hn
  exact hsz0 n (DataW.weights_mem_each (j:=0) (t:=22) (d:=d0) (by simp) (by simp) n hn))
 obtain ⟨zs,hent1,hzb⟩: ∃zs:List Int,Enters W (Value.slice a1 len1 cap1).cells.toList (fun m xs=> ∃s,xs= [s]∧RInts m s zs)∧(Tryz.prog.bytesOf 3=8→ ∀B,(d1.weights Tryz.prog 23).all (· ≤B)=true→zs.length≤B):=by
  by_cases hne:0<W.heap.size
  ·exact enters_ints (x:=(d1,p1)) hne under33 under3 cells3i hf1
  ·rcases open_ints under33 under3 cells3i hf1 with ⟨hcs,hx⟩|⟨a,len,cap,zs,hcs,_⟩
   ·rw[hcs]
    refine ⟨[],fun ρ m hs hm=>⟨ρ,m,[.nilslice],List.prefix_refl _,List.prefix_refl _,hm,hs,by simp[VRs,VR],.nilslice,rfl,Sl.nil⟩,by simp⟩
   ·simp[Value.cells] at hcs
    obtain ⟨rfl,rfl,rfl⟩:=hcs
    exact absurd (heap_pos under33 hv1) hne
 have b3:=hzb bytes3 reachBytes (by
  rw[List.all_eq_true] at hsz0 ⊢
  intro n hn
  exact hsz0 n (DataW.weights_mem_each (j:=1) (t:=23) (d:=d1) (by simp) (by simp) n hn))
 obtain ⟨ys,hent2,hyb⟩: ∃ys:List Int,Enters W (Value.slice a2 len2 cap2).cells.toList (fun m xs=> ∃s,xs= [s]∧RInts m s ys)∧(Tryz.prog.bytesOf 3=8→ ∀B,(d2.weights Tryz.prog 23).all (· ≤B)=true→ys.length≤B):=by
  by_cases hne:0<W.heap.size
  ·exact enters_ints (x:=(d2,p2)) hne under33 under3 cells3i hf2
  ·rcases open_ints under33 under3 cells3i hf2 with ⟨hcs,hx⟩|⟨a,len,cap,zs,hcs,_⟩
   ·rw[hcs]
    refine ⟨[],fun ρ m hs hm=>⟨ρ,m,[.nilslice],List.prefix_refl _,List.prefix_refl _,hm,hs,by simp[VRs,VR],.nilslice,rfl,Sl.nil⟩,by simp⟩
   ·simp[Value.cells] at hcs
    obtain ⟨rfl,rfl,rfl⟩:=hcs
    exact absurd (heap_pos under33 hv2) hne
 have b4:=hyb bytes3 reachBytes (by
  rw[List.all_eq_true] at hsz0 ⊢
  intro n hn
  exact hsz0 n (DataW.weights_mem_each (j:=2) (t:=23) (d:=d2) (by simp) (by simp) n hn))
 obtain ⟨ρ',m',xs,_,_,hro,hsim,hvr,sv,rfl,hT⟩:=hent [] [] (Sim.nil W) RoMem.nil
 obtain ⟨ρ2,m2,xs2,hρ2,hm2,hro2,hsim2,hvr2,tv,rfl,hI⟩:=hent1 ρ' m' hsim hro
 obtain ⟨ρ3,m3,xs3,hρ3,hm3,hro3,hsim3,hvr3,uv,rfl,hI3⟩:=hent2 ρ2 m2 hsim2 hro2
 simp only[VRs] at hvr hvr2 hvr3
 obtain ⟨_,_,e,hvr,rfl⟩:=hvr
 obtain ⟨_,_,e2,hvr2,rfl⟩:=hvr2
 obtain ⟨_,_,e3,hvr3,rfl⟩:=hvr3
 simp[Value.cells] at e e2 e3
 subst e e2 e3
 replace hvr:=VR.mono hρ3 _ _ (VR.mono hρ2 _ _ hvr)
 replace hvr2:=VR.mono hρ3 _ _ hvr2
 have hlt: ∀x∈p0,x.block<W.heap.size:=fun x hx=>hW'.lt x (by simp[hx])
 have hlt1: ∀x∈p1,x.block<W.heap.size:=fun x hx=>hW'.lt x (by simp[hx])
 have hlt2: ∀x∈p2,x.block<W.heap.size:=fun x hx=>hW'.lt x (by simp[hx])
 refine ((law m3 sv tv uv l zs ys (hT.mono (hm2.trans hm3)) (hI.mono hm3) hI3 b2 b3 b4).2 ρ3 W #[.slice a0 len cap,.slice a1 len1 cap1,.slice a2 len2 cap2] hsim3 (by simp only[VRs];exact ⟨_,_,rfl,hvr,_,_,rfl,hvr2,_,_,rfl,hvr3,rfl⟩)).mono fun e W' h=>?_
 obtain ⟨v',v,m'',ρ'',rfl,rfl,hv,_,hev⟩:=h
 simp only[VR] at hv
 subst hv
 have hb:=below_of_evol hro3 hev
 refine ⟨_,rfl,[d0,_,_],[],_,[],p0++(p1++(p2++ [])),[],hW',?_,?_,?_,hb.frame _,fun h=>by cases h⟩
 ·rw[hr]
  show DataW.TrodAll enc _ W' _ _ _ [4] _ (s.fn H [d0,_,_]).results []
  rw[hsf]
  exact trodAll_mk1 (shut_bool under4 true)
 ·rw[hp]
  show DataW.TrodAll enc _ W' _ _ _ [22,23,23] _ (s.fn H [d0,_,_]).args _
  rw[hsf]
  exact trodAll_cons_mk (Below.trod laidOut (by kernel_rfl) (of_decide_eq_true (by kernel_rfl)) h0k hb hlt) (trodAll_cons_mk (Below.trod laidOut (by kernel_rfl) (of_decide_eq_true (by kernel_rfl)) h1k hb hlt1) (trodAll_cons_mk (Below.trod laidOut (by kernel_rfl) (of_decide_eq_true (by kernel_rfl)) h2k hb hlt2) trodAll_mk0))
 ·show DataW.TrodVars enc _ W' _ s.vars (s.fn H [d0,_,_]).vars _
  rw[hsf,hs]
  rfl
end Go.Proofs.YtlniliigcnedmaaGreat
namespace Go.Proofs.YtlniliigcnedmaaGreat
open Go Ax Go.ChangeShapes Go.WideShapes Go.ChangeAt Go.RowKit
open Relation
set_option maxRecDepth 100000
theorem Ax.Sl.oneC {m:AMem} {esz n:Nat} {s:AVal} {cs:List AVal} (h:Sl m esz s n cs):s.cells= [s]∧s.one=true:=by
 rcases h with ⟨rfl,_,_⟩|⟨b,o,cap,gr,rfl,_,_⟩<;>exact ⟨rfl,rfl⟩
noncomputable def pairR (l:List Md) (az bs:List Int) (i:Nat):Bool:=(relI l (az.getD i 0).toNat (bs.getD i 0).toNat).isSome
noncomputable def listsI (l:List Md) (az bs:List Int):Bool×Int:=
 if az.length≠bs.length then (false,checkI l)
 else if rightI l (az++bs)≠0 then (false,rightI l (az++bs))
 else ((List.range az.length).all (pairR l az bs),0)
theorem all_true {P:Nat→Bool} {n:Nat} (h: ∀i<n,P i=true):(List.range n).all P=true:=List.all_eq_true.2 fun i hi=>h i (List.mem_range.1 hi)
theorem all_false {P:Nat→Bool} {n i:Nat} (hi:i<n) (h:P i=false):(List.range n).all P=false:=by
 cases e:(List.range n).all P
 ·rfl
 ·rw[List.all_eq_true.1 e i (List.mem_range.2 hi)] at h
  cases h
theorem pair_at {l:List Md} {az bs:List Int} {i a b:Nat} (h1:i<az.length) (h2:i<bs.length) (ha:az[i]=(a:Int)) (hb:bs[i]=(b:Int)):pairR l az bs i=(relI l a b).isSome:=by
 unfold pairR
 simp[List.getD,h1,h2,ha,hb]
theorem lists_nat {l:List Md} {az bs:List Int} (h:rightI l (az++bs)=0):checkI l=0∧(∀i (h:i<az.length),∃a:Nat,az[i]=a∧a<l.length)∧ ∀i (h:i<bs.length),∃a:Nat,bs[i]=a∧a<l.length:=by
 obtain ⟨hc,ns,hns,hlt⟩:=rightA h
 have key: ∀x∈az++bs,∃a:Nat,x=a∧a<l.length:=fun x hx=>by
  rw[hns,List.mem_map] at hx
  obtain ⟨z,hz,rfl⟩:=hx
  exact ⟨z,rfl,hlt z hz⟩
 exact ⟨hc,fun i h=>key _ (List.mem_append_left _ (List.getElem_mem h)),fun i h=>key _ (List.mem_append_right _ (List.getElem_mem h))⟩
set_option maxHeartbeats 8000000 in
theorem k7 (s t u:AVal) (l:List Md) (az bs:List Int) (m:AMem) (hs:RTab m s l) (ht:RInts m t az) (hu:RInts m u bs) (hsm: ∀y∈l,smallN y) (hl:l.length<2^20) (hr:checkI l=0→Room l) (hla:az.length<2^38) (hlb:bs.length<2^38):
  ACalls Tryz.prog 7 [s,t,u] m fun v m'=>m<+:m'∧v= .tuple [.bool (listsI l az bs).1,.int .i64 (listsI l az bs).2]:=by
 refine w7 ?_
 simp[ht.len,hu.len]
 by_cases hne:az.length=bs.length
 rotate_left
 ·have hne':((az.length:Int) !=bs.length)=true:=by simp;omega
  simp[hne']
  refine C_of (k15 s .nilslice l [] m hs Sl.nil hsm (by omega) (by simp)) ?_
  rintro _ m1 ⟨rfl,hm1⟩
  rw[rightI_nil]
  simp[listsI,hne]
  exact hm1
 have hne':((az.length:Int) !=bs.length)=false:=by simp[hne]
 obtain ⟨ht1,ht2⟩:=Sl.oneC ht
 obtain ⟨hu1,hu2⟩:=Sl.oneC hu
 simp[hne',fillA,setN,ht1,ht2,hu1,hu2]
 have a1:(m++ [ABlk.own [t,u] 23 none])[m.length]? =some (.own [t,u] 23 none):=by simp
 have hm1:m<+:m++ [ABlk.own [t,u] 23 none]:=List.prefix_append _ _
 generalize m++ [ABlk.own [t,u] 23 none]=m1 at*
 generalize m.length=n1 at*
 refine C_of (k16 t u n1 az bs m1 a1 (ht.mono hm1) (hu.mono hm1) hla hlb) ?_
 rintro t24 m2 ⟨hm2,hO⟩
 have hm02:=hm1.trans hm2
 simp
 refine C_of (k15 s t24 l (az++bs) m2 (hs.mono hm02) hO.ints hsm (by omega) (by simp;omega)) ?_
 rintro _ m3 ⟨rfl,hm3⟩
 have hm03:=hm02.trans hm3
 by_cases hri:rightI l (az++bs)=0
 rotate_left
 ·simp[bneT hri,listsI,hne,hri]
  exact hm03
 obtain ⟨hc,hA,hB⟩:=lists_nat hri
 replace hr:=hr hc
 have hL:listsI l az bs=((List.range az.length).all (pairR l az bs),0):=by unfold listsI;rw[if_neg (by simp[hne]),if_neg (by simp[hri])]
 rw[hL]
 simp[hri,ht.len]
 obtain ⟨I,hI⟩: ∃I:Nat→AFrame→AMem→Prop,∀q f m',I q f m'↔(∃i:Nat,i+q=az.length∧f=h7_0 s t u (.int .i64 az.length) (.int .i64 i)∧m<+:m'∧ ∀i'<i,pairR l az bs i'=true):=⟨_,fun _ _ _=>Iff.rfl⟩
 refine W_loop I az.length ((hI _ _ _).2 ⟨0,by simp,by simp,hm03,by omega⟩) ?_
 rintro q f m4 hIn
 obtain ⟨i,hi,rfl,hm4,hno⟩:=(hI _ _ _).1 hIn
 clear hIn
 simp
 refine bbind_dec (fun hil=>?_) fun hil=>?_
 ·have hil:i<az.length:=by omega
  have hil2:i<bs.length:=by omega
  have hw:=step64 (k:=i) (n:=az.length) hil (by omega)
  obtain ⟨q,rfl⟩: ∃q',q=q'+1:=⟨q-1,by omega⟩
  obtain ⟨bz,oz,hpz,hlz⟩:=(ht.mono hm4).at (i:=i) hil
  obtain ⟨by_,oy,hpy,hly⟩:=(hu.mono hm4).at (i:=i) hil2
  obtain ⟨a,ea,ha⟩:=hA i hil
  obtain ⟨b,eb,hb⟩:=hB i hil2
  have hP:=pair_at (l:=l) hil hil2 ea eb
  rw[ea] at hlz
  rw[eb] at hly
  simp
  refine W_draw (fun _ v _=>v= .tuple [.agg (wC (relI l a b)),.bool (relI l a b).isSome,.int .i64 0]) (by simp[maxDst]) ?_
  refine D_pc 0 9 [9,10,11,12,13,14,15,16,17] ?_
  simp[hpz,hlz,hpy,hly]
  intro _ _
  refine D_Cv (.tuple [.agg (wC (relI l a b)),.bool (relI l a b).isSome,.int .i64 0]) rfl trivial rfl rfl (fun m' hm' _=>k17 s l a b m' (hs.mono (hm4.trans hm')) hr ha hb) ?_
  refine D_P rfl trivial ?_
  simp
  refine D_P rfl trivial ?_
  simp
  refine D_P rfl trivial ?_
  simp
  refine D_P rfl trivial ?_
  simp
  refine D_An rfl trivial ?_
  simp[fillA]
  intro b' hb'
  refine D_W rfl rfl fun m8 hm8 hf8=>?_
  have h8:=hf8 14
  simp[upd] at h8
  obtain ⟨m9,hs9,_,hc9⟩:=agg_store (n:=4) h8 (cs:=wC (relI l a b)) (wC_len _).1 rfl (wC_len _).2
  simp[hs9]
  refine D_P rfl trivial ?_
  simp
  refine D_P rfl trivial ?_
  simp
  refine D_end fun m10 hm10 _=>?_
  have hm410:m4<+:m10:=(hc9.pre hm8 fun c hc e=>by omega).trans hm10
  cases hR:(relI l a b).isSome
  ·rw[hR] at hP
   rw[all_false hil hP]
   simp[hR]
   exact hm4.trans hm410
  ·rw[hR] at hP
   simp[hR,hw]
   refine ⟨q,by omega,(hI _ _ _).2 ⟨i+1,by omega,by simp,hm4.trans hm410,fun j' h=>?_⟩⟩
   by_cases e:j'=i
   ·subst e;exact hP
   ·exact hno j' (by omega)
 ·have hil:i=az.length:=by omega
  subst hil
  rw[all_true hno]
  simp
  exact hm4
end Go.Proofs.YtlniliigcnedmaaGreat
namespace Go.Proofs.YtlniliigcnedmaaGreat
open Go Ax Go.ChangeShapes Go.WideShapes Go.ChangeAt Go.RowKit
set_option maxRecDepth 100000
theorem under31: Tryz.prog.underlying 30=some (.array 3 3):=by kernel_rfl
theorem cells31: Tryz.prog.cellsOf 30=3:=by kernel_rfl
theorem cells3: Tryz.prog.cellsOf 3=1:=by kernel_rfl
def LawTA (f:FuncId):Prop:= ∀(m:AMem) (s:AVal) (l:List Md) (u v w:Int),RTab m s l→(∀md∈l,MdB reachBytes md)→ACalls Tryz.prog f [s,.agg [.int .i64 u,.int .i64 v,.int .i64 w]] m fun r _=>r= .bool true
theorem lifted2 {os:Os} (started:os.Started) {H:Type} {enc:TypeId×Value→H} {f:FuncId} {fn:Func} {s:ChangeSpec} {conds:List PathCond}
  (noInit: Tryz.checked.prog.inits.idxOf? f=none) (hfn: Tryz.checked.prog.funcs[f]? =some fn) (hp:fn.params= #[22,30]) (hr:fn.resultTypes= #[4]) (hs:s.vars= [])
  (hsf: ∀d1 d2:DataW H,s.fn H [d1,d2]={results:= [.lit (.bool true)],args:= [d1,d2]})
  (witness: ∃(w:World) (tape:Tape) (i:Input),w.os=os∧(w.forCall tape i).Shaped Tryz.checked.prog∧i.vars= []∧Input.okWide Tryz.checked.prog (w.forCall tape i) .any w.heap.size f i∧
   s.pre6 enc Tryz.checked.prog fn conds false (w.forCall tape i).memory i.args∧({}:Assume).holds Tryz.checked.prog (lone (Frame.enter Tryz.checked.prog f i.args .normal) [] (w.forCall tape i)))
  (law:LawTA f):
  ReturnsInHanded {} Tryz.checked os f .any (s.pre6 enc Tryz.checked.prog fn conds false) (s.post enc Tryz.checked.prog fn false true false false):=by
 refine returnsInHanded_of_change_sized (C:= Tryz.checked) own0 started noInit hfn witness ?_
 intro W base args ds gs before hval0 hW _ hsz0 _
 have hW':=hW
 rw[hp] at hval0 hsz0
 obtain ⟨p,q,hA,hV,rfl,_,_⟩:=hW
 rw[hp] at hA
 rw[hs] at hV
 obtain ⟨v0,v1,d0,d1,p0,p1,rfl,rfl,rfl,h0,h1⟩:=trodAll_two hA
 obtain ⟨rfl,rfl⟩:=trodVars_none hV
 have hv0:=hval0 0 22 v0 rfl rfl
 have hv1:=hval0 1 30 v1 rfl rfl
 have h0k:=h0
 have h1k:=h1
 obtain ⟨fuel,hf⟩:=h0
 obtain ⟨fuel1,hf1⟩:=h1
 obtain ⟨cs,rfl,hcs⟩: ∃cs,v1= .agg cs∧cs.size=3:=by
  simp only[Value.okWide,under31] at hv1
  obtain ⟨cs,h1,h2,_⟩:=hv1
  exact ⟨cs,h1,by rw[←cells31];exact h2⟩
 obtain ⟨c0,c1,c2,rfl⟩: ∃c0 c1 c2,cs= #[c0,c1,c2]:=by
  match cs,hcs with
  |⟨[c0,c1,c2]⟩,_=>exact ⟨_,_,_,rfl⟩
 obtain ⟨y0,y1,y2,n,_,e0,e1,e2⟩:=trod_array3 under31 cells3 hf1
 obtain ⟨n0,q0,_,_⟩:=DataW.trod_int under3 e0
 obtain ⟨n1,q1,_,_⟩:=DataW.trod_int under3 e1
 obtain ⟨n2,q2,_,_⟩:=DataW.trod_int under3 e2
 simp only[List.cons.injEq,and_true] at q0 q1 q2
 subst q0 q1 q2
 obtain ⟨a0,len,cap,rfl⟩:=okWide_slice under22 hv0
 obtain ⟨l,hent,hbd⟩:=enters_tab (enc:=enc) modeT (fuel:=fuel) (x:=(d0,p0)) (fun a len' cap' e=>by
  simp[Value.cells] at e
  obtain ⟨rfl,rfl,rfl⟩:=e
  exact heap_pos under22 hv0) hf
 obtain ⟨_,b2⟩:=hbd reachBytes (by
  rw[List.all_eq_true] at hsz0 ⊢
  intro n hn
  exact hsz0 n (DataW.weights_mem_each (j:=0) (t:=22) (d:=d0) (by simp) (by simp) n hn))
 obtain ⟨ρ',m',xs,_,_,hro,hsim,hvr,sv,rfl,hT⟩:=hent [] [] (Sim.nil W) RoMem.nil
 simp only[VRs] at hvr
 obtain ⟨_,_,e,hvr,rfl⟩:=hvr
 simp[Value.cells] at e
 subst e
 have hlt: ∀x∈p0,x.block<W.heap.size:=fun x hx=>hW'.lt x (by simp[hx])
 have hlt1: ∀x∈p1,x.block<W.heap.size:=fun x hx=>hW'.lt x (by simp[hx])
 refine ((law m' sv l n0 n1 n2 hT b2).2 ρ' W #[.slice a0 len cap,.agg #[.int .i64 n0,.int .i64 n1,.int .i64 n2]] hsim (by simp only[VRs,VR];exact ⟨_,_,rfl,hvr,_,_,rfl,⟨_,rfl,_,_,rfl,rfl,_,_,rfl,rfl,_,_,rfl,rfl,rfl⟩,rfl⟩)).mono fun e W' h=>?_
 obtain ⟨v',v,m'',ρ'',rfl,rfl,hv,_,hev⟩:=h
 simp only[VR] at hv
 subst hv
 have hb:=below_of_evol hro hev
 refine ⟨_,rfl,[d0,_],[],_,[],p0++(p1++ []),[],hW',?_,?_,?_,hb.frame _,fun h=>by cases h⟩
 ·rw[hr]
  show DataW.TrodAll enc _ W' _ _ _ [4] _ (s.fn H [d0,_]).results []
  rw[hsf]
  exact trodAll_mk1 (shut_bool under4 true)
 ·rw[hp]
  show DataW.TrodAll enc _ W' _ _ _ [22,30] _ (s.fn H [d0,_]).args _
  rw[hsf]
  exact trodAll_cons_mk (Below.trod laidOut (by kernel_rfl) (of_decide_eq_true (by kernel_rfl)) h0k hb hlt) (trodAll_cons_mk (Below.trod laidOut (by kernel_rfl) (of_decide_eq_true (by kernel_rfl)) h1k hb hlt1) trodAll_mk0)
 ·show DataW.TrodVars enc _ W' _ s.vars (s.fn H [d0,_]).vars _
  rw[hsf,hs]
  rfl
end Go.Proofs.YtlniliigcnedmaaGreat
namespace Go.Proofs.YtlniliigcnedmaaGreat
open Go Ax
set_option maxRecDepth 100000
theorem right3 {l:List Md} {u v w:Int} (h:rightI l [u,v,w]=0):checkI l=0∧ ∃a b c:Nat,u=a∧v=b∧w=c∧a<l.length∧b<l.length∧c<l.length:=by
 unfold rightI at h
 split at h
 ·omega
 ·rename_i h1
  split at h
  ·omega
  ·rename_i h2
   simp[outB] at h2
   exact ⟨by omega,u.toNat,v.toNat,w.toNat,by omega,by omega,by omega,by omega,by omega,by omega⟩
end Go.Proofs.YtlniliigcnedmaaGreat
namespace Go.Proofs.YtlniliigcnedmaaGreat
open Go Ax Go.ChangeShapes Go.WideShapes Go.ChangeAt Go.RowKit
open Relation
set_option maxRecDepth 100000
theorem lists_two {l:List Md} {a b c:Nat} (hc:checkI l=0) (ha:a<l.length) (hb:b<l.length) (hcl:c<l.length):listsI l [(a:Int),b] [(c:Int),c]=((relI l a c).isSome&&(relI l b c).isSome,0):=by
 have hr:rightI l ([(a:Int),b]++ [(c:Int),c])=0:=by
  unfold rightI
  rw[if_neg (by simp[hc]),if_neg]
  simp[outB]
  omega
 unfold listsI
 rw[if_neg (by simp),if_neg (by simp only[hr,ne_eq,not_true,not_false_eq_true])]
 simp[pairR,List.range_succ]
theorem lists_odd {l:List Md} {a b c:Int} (hc:checkI l=0):listsI l [a,b] [c]=(false,0):=by simp[listsI,hc]
end Go.Proofs.YtlniliigcnedmaaGreat
