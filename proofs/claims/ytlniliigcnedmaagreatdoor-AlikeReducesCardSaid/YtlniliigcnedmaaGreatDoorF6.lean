/- Layer 10's laws.  Conditions: none beyond those stated. -/
import Derived.Test.YtlniliigcnedmaaGreatDoorF5
import Derived.ProofKit
import Derived.SizedLaws
import Derived.SliceStrings
import Derived.Deep.Slices
import Derived.DataElems
import Derived.Test.YtlniliigcnedmaaGreatDoorRows
import Derived.OpenShut
import Derived.Shelf.Strings.Repeat
import Derived.Ground.Names2Prog
import Derived.Test.YtlniliigcnedmaaGreatDoorProg
set_option linter.unusedSimpArgs false
set_option linter.unusedVariables false
namespace Go.Proofs.YtlniliigcnedmaaGreatDoor
open Go Ax
open Relation
set_option maxRecDepth 100000
def mdU (k:Int) (es:List Int):Md:=⟨k,0,es,[],0,false⟩
theorem R_kindlt {l:List Md} {a b:Nat} (ha:a<l.length) (hb:b<l.length) (h:(mdAt l a).kind<(mdAt l b).kind): ∀d,R l (d+1) a<R l (d+1) b
 |0=>by
  rw[R_lt l 0 ha]
  unfold cmpR thenC
  simp only[R]
  have h00:cmpI 0 0=0:=by decide
  rw[if_neg (by simp[h00])]
  simp only[if_true]
  unfold firstC firstL
  rw[firstNZ_cons]
  have:cmpI (mdAt l a).kind (mdAt l b).kind<0:=cmpI_lt.2 h
  rw[if_pos (by omega)]
  exact this
 |d+1=>R_refine l (d+1) ha (R_kindlt ha hb h d)
theorem RR_kindlt {l:List Md} {a b:Nat} (ha:a<l.length) (hb:b<l.length) (h:(mdAt l a).kind<(mdAt l b).kind):RR l a<RR l b:=R_kindlt ha hb h _
end Go.Proofs.YtlniliigcnedmaaGreatDoor
namespace Go.Proofs.YtlniliigcnedmaaGreatDoor.Ax
open Go Go.ChangeShapes Go.WideShapes Go.ChangeAt Go.RowKit
set_option maxRecDepth 100000
def RoMem (m:AMem):Prop:= ∀(b:Nat) blk,m[b]? =some blk→blk.isOwn=false
theorem Sim.nil (w:World):Sim [] [] w:=⟨rfl,by simp,by simp,by simp⟩
theorem RoMem.nil:RoMem []:=by intro b blk h;simp at h
theorem Sim.ro {ρ:List RB} {m:AMem} {w:World} (h:Sim ρ m w) (hm:RoMem m) {a:RB} (cs:List AVal) (ha:a.block<w.heap.size) (hc: ∀(i:Nat) x,cs[i]? =some x→ ∃v,w.cell? (at_ a i)=some v∧VR ρ x v):
  Sim (ρ++ [a]) (m++ [.ro cs]) w∧RoMem (m++ [.ro cs]):=by
 have hp:ρ<+:ρ++ [a]:=List.prefix_append _ _
 have hr:RoMem (m++ [.ro cs]):=by
  intro b blk hb
  rcases Nat.lt_or_ge b m.length with hlt|hge
  ·rw[List.getElem?_append_left hlt] at hb;exact hm b blk hb
  ·rw[List.getElem?_append_right hge] at hb
   cases hk:b-m.length with
   |zero=>rw[hk] at hb;simp at hb;subst hb;rfl
   |succ k=>rw[hk] at hb;simp at hb
 refine ⟨⟨by simp[h.len],?_,?_,?_⟩,hr⟩
 ·intro b blk a' hb ha'
  rcases Nat.lt_or_ge b m.length with hlt|hge
  ·rw[List.getElem?_append_left hlt] at hb
   rw[List.getElem?_append_left (by rw[h.len];exact hlt)] at ha'
   exact (h.ok b blk a' hb ha').mono hp
  ·rw[List.getElem?_append_right hge] at hb
   rw[List.getElem?_append_right (by rw[h.len];exact hge),h.len] at ha'
   cases hk:b-m.length with
   |zero=>
    rw[hk] at hb ha'
    simp only[List.getElem?_cons_zero,Option.some.injEq] at hb ha'
    subst hb ha'
    intro i x hx
    obtain ⟨v,h1,h2⟩:=hc i x hx
    exact ⟨v,h1,VR.mono hp x v h2⟩
   |succ k=>rw[hk] at hb;simp at hb
 ·intro b b' blk blk' a1 a2 _ hb _ _ _ ho
  rw[hr b blk hb] at ho
  simp at ho
 ·intro b a' ha'
  rcases Nat.lt_or_ge b ρ.length with hlt|hge
  ·rw[List.getElem?_append_left hlt] at ha';exact h.bound b a' ha'
  ·rw[List.getElem?_append_right hge] at ha'
   cases hk:b-ρ.length with
   |zero=>rw[hk] at ha';simp at ha';subst ha';exact ha
   |succ k=>rw[hk] at ha';simp at ha'
theorem slice_in {ρ:List RB} {m:AMem} {w:World} (h:Sim ρ m w) (hm:RoMem m) (hne:0<w.heap.size) {a:Addr} {len cap esz:Nat} (hlc:len≤cap)
  (hcell:cap≠0→ ∃v,w.cell? a=some v) {xs:List AVal} (hx:xs.length=len*esz) (hc: ∀(i:Nat) x,xs[i]? =some x→ ∃v,w.cell? (a.add i)=some v∧VR ρ x v):
  ∃ρ' m' s,ρ<+:ρ'∧m<+:m'∧RoMem m'∧Sim ρ' m' w∧VR ρ' s (.slice (some a) len cap)∧Sl m' esz s len xs:=by
 by_cases hcap:cap=0
 ·subst hcap
  obtain rfl:len=0:=by omega
  obtain rfl:xs= []:=List.eq_nil_of_length_eq_zero (by simpa using hx)
  obtain ⟨h1,h2⟩:=h.ro hm (a:=⟨0,0,0,0⟩) [] hne (by simp)
  refine ⟨_,_,.slice m.length 0 0 0 none,List.prefix_append _ _,List.prefix_append _ _,h2,h1,?_,.inr ⟨_,_,_,_,rfl,⟨by omega,.inl rfl⟩,.inl ⟨rfl,rfl⟩⟩⟩
  simp only[VR]
  exact ⟨⟨0,0,0,0⟩,a,0,rfl,by rw[←h.len];simp,by simp,by omega,by simp,by omega,by simp⟩
 ·obtain ⟨v0,hv0⟩:=hcell hcap
  have hs:=World.cell?_spot hv0
  obtain ⟨b,off,sp⟩:=a
  simp only at hs
  subst hs
  have hb:b<w.heap.size:=by
   rcases Nat.lt_or_ge b w.heap.size with hlt|hge
   ·exact hlt
   ·unfold World.cell? at hv0
    simp only[Array.getElem?_eq_none hge] at hv0
    simp at hv0
  obtain ⟨h1,h2⟩:=h.ro hm (a:=⟨b,off,0,0⟩) xs hb fun i x hx=>by
   obtain ⟨v,h1,h2⟩:=hc i x hx
   rw[Go.WideShapes.add_plain] at h1
   exact ⟨v,h1,h2⟩
  refine ⟨_,_,.slice m.length 0 len cap none,List.prefix_append _ _,List.prefix_append _ _,h2,h1,?_,.inr ⟨_,_,_,_,rfl,⟨hlc,.inl rfl⟩,?_⟩⟩
  ·simp only[VR]
   exact ⟨⟨b,off,0,0⟩,_,cap,rfl,by rw[←h.len];simp,by simp,hlc,by simp,by omega,by simp⟩
  ·by_cases hl:len=0
   ·subst hl
    exact .inl ⟨rfl,List.eq_nil_of_length_eq_zero (by simpa using hx)⟩
   ·refine .inr ⟨hl,xs,by simp[readB,ABlk.cells],?_⟩
    have h0:0+len*esz≤xs.length:=by omega
    unfold readN
    rw[if_pos h0,List.drop_zero,List.take_of_length_le (by omega)]
def Enters (w:World) (vs:List Value) (Rep:AMem→List AVal→Prop):Prop:=
 ∀ρ m,Sim ρ m w→RoMem m→ ∃ρ' m' xs,ρ<+:ρ'∧m<+:m'∧RoMem m'∧Sim ρ' m' w∧VRs ρ' xs vs∧Rep m' xs
variable {H:Type} {enc:TypeId×Value→H} {P:Program} {w:World} {base:Nat} {spare:Nat→Bool} {held:Bool}
theorem enters_ints (hne:0<w.heap.size) {t e:TypeId} {fuel:Nat} {cs:List Value} {x:DataW H×List MemPlace} (ht:P.underlying t=some (.slice e)) (he:P.underlying e=some (.int .i64)) (hc:P.cellsOf e=1)
  (h:DataW.trod enc P w base (fun _=>true) held fuel t cs=some x):
  ∃zs:List Int,Enters w cs (fun m xs=> ∃s,xs= [s]∧RInts m s zs)∧(P.bytesOf e=8→ ∀B,(x.1.weights P t).all (· ≤B)=true→zs.length≤B):=by
 rcases open_ints ht he hc h with ⟨rfl,rfl⟩|⟨a,len,cap,zs,rfl,_,hlc,_,hz,rfl,hcell,_⟩
 ·exact ⟨[],fun ρ m hs hm=>⟨ρ,m,[.nilslice],List.prefix_refl _,List.prefix_refl _,hm,hs,by simp[VRs,VR],.nilslice,rfl,Sl.nil⟩,by simp⟩
 ·simp only[if_true] at hz
  refine ⟨zs.take len,fun ρ m hs hm=>?_,?_⟩
  ·obtain ⟨ρ',m',s,h1,h2,h3,h4,h5,h6⟩:=slice_in (esz:=1) hs hm hne hlc (fun hcap=>⟨_,by have:=hcell 0 (by omega);simpa[Addr.add] using this⟩) (xs:=(zs.take len).map fun x=> .int .i64 x) (by simp;omega)
    (fun i x hx=>by
     simp only[List.getElem?_map,Option.map_eq_some_iff] at hx
     obtain ⟨z,hz',rfl⟩:=hx
     have hi:i<zs.length:=by
      have:=(List.getElem?_eq_some_iff.1 hz').1
      simp at this;omega
     have hg:zs[i]? =some z:=by
      rw[List.getElem?_take] at hz'
      split at hz'
      ·exact hz'
      ·simp at hz'
     exact ⟨_,hcell i hi,by simp[VR,List.getD,hg]⟩)
   refine ⟨ρ',m',[s],h1,h2,h3,h4,by simp only[VRs];exact ⟨_,_,rfl,h5,rfl⟩,s,rfl,?_⟩
   have hl:(zs.take len).length=len:=by simp;omega
   unfold RInts
   rw[hl]
   exact h6
  ·intro hb B hB
   simp only[DataW.weights,ht,List.all_cons,Bool.and_eq_true,decide_eq_true_eq] at hB
   have:=hB.1
   rw[hb] at this
   simp[lits] at this ⊢
   omega
theorem enters_strs (hne:0<w.heap.size) {t e:TypeId} {fuel:Nat} {cs:List Value} {x:DataW H×List MemPlace} (ht:P.underlying t=some (.slice e)) (he:P.underlying e=some .string) (hc:P.cellsOf e=1)
  (h:DataW.trod enc P w base (fun _=>true) held fuel t cs=some x):
  ∃zs:List ByteArray,Enters w cs (fun m xs=> ∃s,xs= [s]∧RStrs m s zs)∧(P.bytesOf e=16→ ∀B,(x.1.weights P t).all (· ≤B)=true→zs.length≤B∧ ∀z∈zs,z.size≤B):=by
 rcases open_strings ht he hc h with ⟨rfl,rfl⟩|⟨a,len,cap,zs,rfl,_,hlc,_,hz,rfl,hcell,_⟩
 ·exact ⟨[],fun ρ m hs hm=>⟨ρ,m,[.nilslice],List.prefix_refl _,List.prefix_refl _,hm,hs,by simp[VRs,VR],.nilslice,rfl,Sl.nil⟩,by simp⟩
 ·simp only[if_true] at hz
  refine ⟨zs.take len,fun ρ m hs hm=>?_,?_⟩
  ·obtain ⟨ρ',m',s,h1,h2,h3,h4,h5,h6⟩:=slice_in (esz:=1) hs hm hne hlc (fun hcap=>⟨_,by have:=hcell 0 (by omega);simpa[Addr.add] using this⟩) (xs:=(zs.take len).map fun x=> .str x) (by simp;omega)
    (fun i x hx=>by
     simp only[List.getElem?_map,Option.map_eq_some_iff] at hx
     obtain ⟨z,hz',rfl⟩:=hx
     have hi:i<zs.length:=by
      have:=(List.getElem?_eq_some_iff.1 hz').1
      simp at this;omega
     have hg:zs[i]? =some z:=by
      rw[List.getElem?_take] at hz'
      split at hz'
      ·exact hz'
      ·simp at hz'
     exact ⟨_,hcell i hi,by simp[VR,List.getD,hg]⟩)
   refine ⟨ρ',m',[s],h1,h2,h3,h4,by simp only[VRs];exact ⟨_,_,rfl,h5,rfl⟩,s,rfl,?_⟩
   have hl:(zs.take len).length=len:=by simp;omega
   unfold RStrs
   rw[hl]
   exact h6
  ·intro hb B hB
   simp only[DataW.weights,ht,List.all_cons,Bool.and_eq_true,decide_eq_true_eq,List.all_append] at hB
   obtain ⟨h1,h2,_⟩:=hB
   rw[hb] at h1
   refine ⟨by simp[strs] at h1 ⊢;omega,fun z hz'=>?_⟩
   have key: ∀l:List ByteArray,(DataW.weightsAll (H:=H) P e (strs l)).all (· ≤B)=true→ ∀z∈l,z.size≤B:=by
    intro l
    induction l with
    |nil=>simp
    |cons y ys ih=>
     intro hl z hz
     simp only[strs,List.map_cons,DataW.weightsAll,DataW.weights,List.cons_append,List.nil_append,List.all_cons,Bool.and_eq_true,decide_eq_true_eq] at hl
     rcases List.mem_cons.1 hz with rfl|hz
     ·have:=hl.1;simpa using this
     ·exact ih (by simpa[strs] using hl.2) z hz
   exact key _ h2 z hz'
structure ModeT (P:Program) where
 tT:TypeId
 tM:TypeId
 tI:TypeId
 eI:TypeId
 tS:TypeId
 eS:TypeId
 k0:TypeId
 k1:TypeId
 k4:TypeId
 k5:TypeId
 fs:Array Field
 hT:P.underlying tT=some (.slice tM)
 hM:P.underlying tM=some (.struct fs)
 hI:P.underlying tI=some (.slice eI)
 hi:P.underlying eI=some (.int .i64)
 hS:P.underlying tS=some (.slice eS)
 hs:P.underlying eS=some .string
 h0:P.underlying k0=some (.int .i64)
 h1:P.underlying k1=some (.int .i64)
 h4:P.underlying k4=some (.int .i64)
 h5:P.underlying k5=some .bool
 cM:P.cellsOf tM=6
 ci:P.cellsOf eI=1
 cs:P.cellsOf eS=1
 c0:P.cellsOf k0=1
 c1:P.cellsOf k1=1
 cI:P.cellsOf tI=1
 cS:P.cellsOf tS=1
 c4:P.cellsOf k4=1
 c5:P.cellsOf k5=1
 bi:P.bytesOf eI=8
 bs:P.bytesOf eS=16
 bM:1≤P.bytesOf tM
 sz:fs.size=6
 f0:(fs[0]?).map (fun f=>(f.type,f.offset))=some (k0,0)
 f1:(fs[1]?).map (fun f=>(f.type,f.offset))=some (k1,1)
 f2:(fs[2]?).map (fun f=>(f.type,f.offset))=some (tI,2)
 f3:(fs[3]?).map (fun f=>(f.type,f.offset))=some (tS,3)
 f4:(fs[4]?).map (fun f=>(f.type,f.offset))=some (k4,4)
 f5:(fs[5]?).map (fun f=>(f.type,f.offset))=some (k5,5)
structure MdB (B:Nat) (x:Md):Prop where
 elems:x.elems.length≤B
 names:x.names.length≤B
 each: ∀z∈x.names,z.size≤B
theorem field_of {fs:Array Field} {i:Nat} {t:TypeId} {o:Nat} (h:(fs[i]?).map (fun f=>(f.type,f.offset))=some (t,o)): ∃f,fs[i]? =some f∧f.type=t∧f.offset=o:=by
 cases hf:fs[i]? with
 |none=>rw[hf] at h;simp at h
 |some f=>rw[hf] at h;simp at h;exact ⟨f,rfl,h.1,h.2⟩
theorem weights_parts {e:TypeId} {fs:Array Field} (ht:P.underlying e=some (.struct fs)) {xs:List (DataW H×List MemPlace)} {i:Nat} {f:Field} {y:DataW H×List MemPlace} (hf:fs[i]? =some f) (hy:xs[i]? =some y) {B:Nat}
  (h:((DataW.agg (xs.map (·.1))).weights P e).all (· ≤B)=true):(y.1.weights P f.type).all (· ≤B)=true:=by
 simp only[DataW.weights,ht] at h
 rw[List.all_eq_true] at h ⊢
 intro n hn
 exact h n (DataW.weights_mem_each (j:=i) (t:=f.type) (d:=y.1) (by simp[hf]) (by simp[hy]) n hn)
theorem enters_mode (hne:0<w.heap.size) (T:ModeT P) {fuel:Nat} {cs:List Value} {x:DataW H×List MemPlace} (h:DataW.trod enc P w base (fun _=>true) held fuel T.tM cs=some x):
  ∃md:Md,Enters w cs (fun m xs=>RMode m xs md)∧(∀B,(x.1.weights P T.tM).all (· ≤B)=true→MdB B md):=by
 obtain ⟨xs,n,_,rfl,hl,hxl,hall⟩:=DataW.trod_struct T.hM h
 rw[T.cM] at hl
 rw[T.sz] at hxl
 obtain ⟨c0,c1,c2,c3,c4,c5,rfl⟩: ∃c0 c1 c2 c3 c4 c5,cs= [c0,c1,c2,c3,c4,c5]:=by
  match cs,hl with
  | [c0,c1,c2,c3,c4,c5],_=>exact ⟨_,_,_,_,_,_,rfl⟩
 obtain ⟨x0,x1,x2,x3,x4,x5,rfl⟩: ∃c0 c1 c2 c3 c4 c5,xs= [c0,c1,c2,c3,c4,c5]:=by
  match xs,hxl with
  | [c0,c1,c2,c3,c4,c5],_=>exact ⟨_,_,_,_,_,_,rfl⟩
 obtain ⟨g0,a0,t0,o0⟩:=field_of T.f0
 obtain ⟨g1,a1,t1,o1⟩:=field_of T.f1
 obtain ⟨g2,a2,t2,o2⟩:=field_of T.f2
 obtain ⟨g3,a3,t3,o3⟩:=field_of T.f3
 obtain ⟨g4,a4,t4,o4⟩:=field_of T.f4
 obtain ⟨g5,a5,t5,o5⟩:=field_of T.f5
 have e0:=hall 0 g0 a0
 have e1:=hall 1 g1 a1
 have e2:=hall 2 g2 a2
 have e3:=hall 3 g3 a3
 have e4:=hall 4 g4 a4
 have e5:=hall 5 g5 a5
 rw[t0,o0,T.c0] at e0
 rw[t1,o1,T.c1] at e1
 rw[t2,o2,T.cI] at e2
 rw[t3,o3,T.cS] at e3
 rw[t4,o4,T.c4] at e4
 rw[t5,o5,T.c5] at e5
 simp only[List.drop_zero,List.drop_succ_cons,List.take_succ_cons,List.take_zero,List.getElem?_cons_zero,List.getElem?_cons_succ] at e0 e1 e2 e3 e4 e5
 obtain ⟨n0,q0,rfl,_⟩:=DataW.trod_int T.h0 e0
 obtain ⟨n1,q1,rfl,_⟩:=DataW.trod_int T.h1 e1
 obtain ⟨n4,q4,rfl,_⟩:=DataW.trod_int T.h4 e4
 obtain ⟨n5,q5,rfl⟩:=DataW.trod_bool T.h5 e5
 simp only[List.cons.injEq,and_true] at q0 q1 q4 q5
 subst q0 q1 q4 q5
 obtain ⟨el,hel,hel'⟩:=enters_ints hne T.hI T.hi T.ci e2
 obtain ⟨nm,hnm,hnm'⟩:=enters_strs hne T.hS T.hs T.cs e3
 refine ⟨⟨n0,n1,el,nm,n4,n5⟩,fun ρ m hs hm=>?_,fun B hB=>?_⟩
 ·obtain ⟨ρ1,m1,ys,h1,h2,h3,h4,h5,s,rfl,h6⟩:=hel ρ m hs hm
  obtain ⟨ρ2,m2,ys,k1,k2,k3,k4,k5,s',rfl,k6⟩:=hnm ρ1 m1 h4 h3
  simp only[VRs] at h5 k5
  obtain ⟨_,_,hh,h5,rfl⟩:=h5
  obtain ⟨_,_,hk,k5,rfl⟩:=k5
  simp only[List.cons.injEq,and_true] at hh hk
  subst hh hk
  refine ⟨ρ2,m2,[.int .i64 n0,.int .i64 n1,s,s',.int .i64 n4,.bool n5],h1.trans k1,h2.trans k2,k3,k4,?_,s,s',rfl,h6.mono k2,k6⟩
  simp only[VRs,VR]
  exact ⟨_,_,rfl,rfl,_,_,rfl,rfl,_,_,rfl,VR.mono k1 _ _ h5,_,_,rfl,k5,_,_,rfl,rfl,_,_,rfl,rfl,rfl⟩
 ·have w2:=weights_parts (i:=2) T.hM a2 (y:=x2) (by simp) hB
  have w3:=weights_parts (i:=3) T.hM a3 (y:=x3) (by simp) hB
  rw[t2] at w2
  rw[t3] at w3
  obtain ⟨p1,p2⟩:=hnm' T.bs B w3
  exact ⟨hel' T.bi B w2,p1,p2⟩
theorem weightsAll_mem {e:TypeId} {B:Nat}: ∀{l:List (DataW H)},(DataW.weightsAll P e l).all (· ≤B)=true→ ∀d∈l,(d.weights P e).all (· ≤B)=true
 | [],_,d,hd=>by simp at hd
 |y::ys,h,d,hd=>by
  simp only[DataW.weightsAll,List.all_append,Bool.and_eq_true] at h
  rcases List.mem_cons.1 hd with rfl|hd
  ·exact h.1
  ·exact weightsAll_mem h.2 d hd
theorem enters_tab (T:ModeT P) {fuel:Nat} {cs:List Value} (hne: ∀a len cap,cs= [.slice (some a) len cap]→0<w.heap.size) {x:DataW H×List MemPlace} (h:DataW.trod enc P w base (fun _=>true) held fuel T.tT cs=some x):
  ∃l:List Md,Enters w cs (fun m xs=> ∃s,xs= [s]∧RTab m s l)∧(∀B,(x.1.weights P T.tT).all (· ≤B)=true→l.length≤B∧ ∀md∈l,MdB B md):=by
 rcases Go.Deep.open_slice T.hT h with ⟨rfl,rfl⟩|⟨a,len,cap,mm,n,D,Pl,rfl,_,hlc,_,hmm,rfl,hel⟩
 ·exact ⟨[],fun ρ m hs hm=>⟨ρ,m,[.nilslice],List.prefix_refl _,List.prefix_refl _,hm,hs,by simp[VRs,VR],.nilslice,rfl,[],Sl.nil,by simp⟩,by simp⟩
 ·replace hne:=hne _ _ _ rfl
  simp only[if_true] at hmm
  subst hmm
  rw[T.cM] at hel
  have hmd: ∀i,i<len→ ∃(cs':List Value) (md:Md),w.cells? base (a.add (i*6)) 6=some cs'∧Enters w cs' (fun m xs=>RMode m xs md)∧(∀B,((D i).weights P T.tM).all (· ≤B)=true→MdB B md):=by
   intro i hi
   obtain ⟨cs',h1,h2⟩:=hel i (by omega)
   obtain ⟨md,h3,h4⟩:=enters_mode hne T h2
   exact ⟨cs',md,h1,h3,h4⟩
  have hl: ∃l:List Md,l.length=len∧ ∀(i:Nat) md,l[i]? =some md→ ∃(cs':List Value),w.cells? base (a.add (i*6)) 6=some cs'∧Enters w cs' (fun m xs=>RMode m xs md)∧(∀B,((D i).weights P T.tM).all (· ≤B)=true→MdB B md):=by
   have: ∀k,k≤len→ ∃l:List Md,l.length=k∧ ∀(i:Nat) md,l[i]? =some md→ ∃(cs':List Value),w.cells? base (a.add (i*6)) 6=some cs'∧Enters w cs' (fun m xs=>RMode m xs md)∧(∀B,((D i).weights P T.tM).all (· ≤B)=true→MdB B md):=by
    intro k
    induction k with
    |zero=>exact fun _=>⟨[],rfl,by simp⟩
    |succ k ih=>
     intro hk
     obtain ⟨l,h1,h2⟩:=ih (by omega)
     obtain ⟨cs',md,h3,h4⟩:=hmd k (by omega)
     refine ⟨l++ [md],by simp[h1],fun i md' hi=>?_⟩
     rcases Nat.lt_or_ge i l.length with hlt|hge
     ·rw[List.getElem?_append_left hlt] at hi;exact h2 i md' hi
     ·rw[List.getElem?_append_right hge] at hi
      cases hj:i-l.length with
      |zero=>
       rw[hj] at hi
       simp only[List.getElem?_cons_zero,Option.some.injEq] at hi
       subst hi
       obtain rfl:i=k:=by omega
       exact ⟨cs',h3,h4⟩
      |succ j=>rw[hj] at hi;simp at hi
   exact this len (Nat.le_refl _)
  obtain ⟨l,hlen,hl⟩:=hl
  refine ⟨l,fun ρ m hs hm=>?_,fun B hB=>?_⟩
  ·have key: ∀k,k≤len→ ∃(ρ':List RB) (m':AMem) (xs:List AVal),ρ<+:ρ'∧m<+:m'∧RoMem m'∧Sim ρ' m' w∧xs.length=k*6∧(∀(i:Nat) x,xs[i]? =some x→ ∃v,w.cell? (a.add i)=some v∧VR ρ' x v)∧
     ∀(i:Nat) md,i<k→l[i]? =some md→RMode m' ((xs.drop (i*6)).take 6) md:=by
    intro k
    induction k with
    |zero=>exact fun _=>⟨ρ,m,[],List.prefix_refl _,List.prefix_refl _,hm,hs,rfl,by simp,by omega⟩
    |succ k ih=>
     intro hk
     obtain ⟨ρ1,m1,xs,h1,h2,h3,h4,h5,h6,h7⟩:=ih (by omega)
     obtain ⟨md,hmdk⟩: ∃md,l[k]? =some md:=⟨l[k],List.getElem?_eq_getElem (by omega)⟩
     obtain ⟨cs',c1,c2,_⟩:=hl k md hmdk
     obtain ⟨ρ2,m2,ys,g1,g2,g3,g4,g5,g6⟩:=c2 ρ1 m1 h4 h3
     obtain ⟨_,c3,c4⟩:=World.cells?_some c1
     have hys:ys.length=6:=by rw[←g5.length];exact c3
     refine ⟨ρ2,m2,xs++ys,h1.trans g1,h2.trans g2,g3,g4,by simp[h5,hys];omega,fun i x hx=>?_,fun i md' hi hmd'=>?_⟩
     ·rcases Nat.lt_or_ge i xs.length with hlt|hge
      ·rw[List.getElem?_append_left hlt] at hx
       obtain ⟨v,hv,hr⟩:=h6 i x hx
       exact ⟨v,hv,VR.mono g1 x v hr⟩
      ·rw[List.getElem?_append_right hge] at hx
       have hj:i-xs.length<6:=by rw[←hys];exact (List.getElem?_eq_some_iff.1 hx).1
       obtain ⟨v,hv,hr⟩:=g5.get _ x hx
       refine ⟨v,?_,hr⟩
       have:=c4 (i-xs.length) hj
       rw[Addr.add_add,hv] at this
       rw[←this]
       congr 2
       omega
     ·rcases Nat.lt_or_ge i k with hlt|hge
      ·have:=(h7 i md' hlt hmd').mono g2
       rw[List.drop_append_of_le_length (by omega),List.take_append_of_le_length (by simp;omega)]
       exact this
      ·obtain rfl:i=k:=by omega
       rw[hmdk] at hmd'
       simp only[Option.some.injEq] at hmd'
       subst hmd'
       rw[List.drop_append,h5,Nat.sub_self,List.drop_eq_nil_of_le (by omega)]
       simp only[List.nil_append,List.drop_zero]
       rw[List.take_of_length_le (by omega)]
       exact g6
   obtain ⟨ρ1,m1,xs,h1,h2,h3,h4,h5,h6,h7⟩:=key len (Nat.le_refl _)
   obtain ⟨ρ',m',s,g1,g2,g3,g4,g5,g6⟩:=slice_in (esz:=6) h4 h3 hne hlc (fun hcap=>by
    obtain ⟨cs',c1,_⟩:=hel 0 (by omega)
    obtain ⟨_,c3,c4⟩:=World.cells?_some c1
    have:=c4 0 (by omega)
    rw[Addr.add_add] at this
    rw[List.getElem?_eq_getElem (by omega)] at this
    exact ⟨_,by simpa[Addr.add] using this⟩) h5 h6
   refine ⟨ρ',m',[s],h1.trans g1,h2.trans g2,g3,g4,by simp only[VRs];exact ⟨_,_,rfl,g5,rfl⟩,s,rfl,xs,by rw[hlen];exact g6,fun i md hi=>(h7 i md (by have:=(List.getElem?_eq_some_iff.1 hi).1;omega) hi).mono g2⟩
  ·simp only[DataW.weights,T.hT,List.all_cons,Bool.and_eq_true,decide_eq_true_eq,List.all_append] at hB
   obtain ⟨b1,b2,_⟩:=hB
   refine ⟨?_,fun md hmd=>?_⟩
   ·have:=T.bM
    simp only[List.length_map,List.length_range] at b1
    have h3:len≤(len+(mm-len))*P.bytesOf T.tM:=by
     calc len≤(len+(mm-len))*1:=by omega
      _≤_:=Nat.mul_le_mul_left _ this
    omega
   ·obtain ⟨i,hi,rfl⟩:=List.getElem_of_mem hmd
    obtain ⟨cs',_,_,c5⟩:=hl i l[i] (List.getElem?_eq_getElem hi)
    exact c5 B (weightsAll_mem b2 (D i) (List.mem_map.2 ⟨i,by simp;omega,rfl⟩))
theorem below_of_evol {ρ ρ':List RB} {m m':AMem} {w':World} (hm:RoMem m) (h:Evol ρ m w ρ' m' w'):Below w.heap.size w w':=
 ⟨h.os,h.tape,h.output,h.size,fun k hk=>h.frame k hk fun ⟨b,blk,a,hb,ho,_⟩=>by rw[hm b blk hb] at ho;cases ho⟩
theorem heap_pos {r:Reach} {b0:Nat} {t e:TypeId} {a:Addr} {len cap:Nat} (ht:P.underlying t=some (.slice e)) (hval:Value.okWide P w r b0 t (.slice (some a) len cap)):0<w.heap.size:=by
 simp only[Value.okWide,ht,Cell.okWide,Cell.ok,World.has] at hval
 obtain ⟨_,_,_,_,row,cells,h,_⟩:=hval
 unfold World.shape? at h
 rcases Nat.eq_zero_or_pos w.heap.size with h0|h0
 ·rw[Array.getElem?_eq_none (by omega)] at h
  simp at h
 ·exact h0
end Go.Proofs.YtlniliigcnedmaaGreatDoor.Ax
namespace Go.Proofs.YtlniliigcnedmaaGreatDoor
open Go Ax
set_option maxRecDepth 100000
structure Fits (l:List Md):Prop where
 n:l.length≤13
 n12:l.length≤12
 sm: ∀x∈l,smallN x
 h40: ∀x∈l,x.elems.length<2^40∧x.names.length<2^40
theorem fits_of {l:List Md} (hb: ∀md∈l,MdB reachBytes md) (h:(decide ((l.length:Int)≤12)&&l.all fun x=>decide (x.elems.length≤6)&&decide (x.names.length≤6))=true):Fits l:=by
 rw[Bool.and_eq_true,decide_eq_true_iff,List.all_eq_true] at h
 obtain ⟨h1,h2⟩:=h
 refine ⟨by omega,by omega,fun x hx=>?_,fun x hx=>?_⟩
 ·have:=h2 x hx
  rw[Bool.and_eq_true,decide_eq_true_iff,decide_eq_true_iff] at this
  refine ⟨by omega,by omega,fun s hs=>?_⟩
  have h3:=(hb x hx).each s hs
  have h4:reachBytes<2^62:=by decide
  omega
 ·have:=h2 x hx
  rw[Bool.and_eq_true,decide_eq_true_iff,decide_eq_true_iff] at this
  omega
end Go.Proofs.YtlniliigcnedmaaGreatDoor
namespace Go.Proofs.YtlniliigcnedmaaGreatDoor
open Go Ax
set_option maxRecDepth 100000
theorem k27 (s t:AVal) (xs:List Int) (m:AMem) (hs:RInts m s xs) (ht:RInts m t xs) (hn:xs.length<2^62):ACalls Tryz.prog 27 [s,t] m fun v m'=>v= .bool true∧m<+:m':=by
 refine w27 ?_
 simp[hs.len,ht.len]
 refine W_loop (fun q a m'=> ∃k:Nat,k+q=xs.length∧a=h27_0 s t (.int .i64 xs.length) (.int .i64 k)∧m<+:m') xs.length ⟨0,by simp⟩ ?_
 rintro q a m1 ⟨k,hk,rfl,hm1⟩
 simp
 refine bbind_dec (fun hkl=>?_) fun hkl=>?_
 ·have hkl:k<xs.length:=by omega
  have hw:=step64 hkl hn
  obtain ⟨q,rfl⟩: ∃q',q=q'+1:=⟨q-1,by omega⟩
  obtain ⟨b1,o1,g1,g2⟩:=(hs.mono hm1).at hkl
  obtain ⟨b2,o2,g3,g4⟩:=(ht.mono hm1).at hkl
  simp
  refine W_drawPR (by simp[maxDst]) rfl rfl ?_
  simp[g1,g2,g3,g4,hw]
  intro m2 hm2
  exact ⟨q,by omega,k+1,by omega,by simp,hm1.trans hm2⟩
 ·simp
  exact hm1
end Go.Proofs.YtlniliigcnedmaaGreatDoor
namespace Go.Proofs.YtlniliigcnedmaaGreatDoor
open Go Ax
set_option maxRecDepth 100000
theorem k51 (s t:AVal) (xs ys:List Int) (m:AMem) (hs:RInts m s xs) (ht:RInts m t ys) (hn:xs.length<2^62):ACalls Tryz.prog 51 [s,t] m fun v m'=>v= .bool (decide (xs=ys))∧m<+:m':=by
 refine w51 ?_
 by_cases hl:xs.length=ys.length
 rotate_left
 ·have hl': ¬(xs.length:Int)=ys.length:=by omega
  have: ¬xs=ys:=fun e=>hl (by rw[e])
  simp[hs.len,ht.len,bneT hl',this]
 simp[hs.len,ht.len,hl]
 refine W_loop (fun q a m'=> ∃k:Nat,k+q=xs.length∧a=h51_0 s t (.int .i64 k)∧m<+:m'∧ ∀(j:Nat) x,j<k→xs[j]? =some x→ys[j]? =some x) xs.length ⟨0,by simp⟩ ?_
 rintro q a m1 ⟨k,hk,rfl,hm1,he⟩
 simp[(hs.mono hm1).len,hl]
 refine bbind_dec (fun hkl=>?_) fun hkl=>?_
 ·have hkl:k<xs.length:=by omega
  have hw:=step64 hkl hn
  obtain ⟨q,rfl⟩: ∃q',q=q'+1:=⟨q-1,by omega⟩
  obtain ⟨b1,o1,g1,g2⟩:=(hs.mono hm1).at hkl
  obtain ⟨b2,o2,g3,g4⟩:=(ht.mono hm1).at (i:=k) (by omega)
  simp
  refine W_drawPR (by simp[maxDst]) rfl rfl ?_
  simp[g1,g2,g3,g4]
  intro m2 hm2
  by_cases hxy:xs[k]=ys[k]'(by omega)
  ·simp[hxy,hw]
   refine ⟨q,by omega,k+1,by omega,by simp,hm1.trans hm2,fun j x hj hx=>?_⟩
   by_cases hjk:j=k
   ·subst hjk
    rw[List.getElem?_eq_getElem hkl] at hx
    cases hx
    rw[hxy]
    exact List.getElem?_eq_getElem (by omega)
   ·exact he j x (by omega) hx
  ·have: ¬xs=ys:=fun e=>hxy (by subst e;rfl)
   simp[bneT hxy,this]
   exact hm1.trans hm2
 ·have hkl:k=xs.length:=by omega
  subst hkl
  have:xs=ys:=by
   apply List.ext_getElem?
   intro i
   cases hi:xs[i]? with
   |some x=>exact (he i x (List.getElem?_eq_some_iff.1 hi).1 hi).symm
   |none=>exact (List.getElem?_eq_none (by have:=List.getElem?_eq_none_iff.1 hi;omega)).symm
  simp[this]
  exact hm1
theorem k63 (s t:AVal) (xs:List ByteArray) (m:AMem) (hs:RStrs m s xs) (ht:RStrs m t xs) (hn:xs.length<2^62):ACalls Tryz.prog 63 [s,t] m fun v m'=>v= .bool true∧m<+:m':=by
 refine w63 ?_
 simp[hs.len,ht.len]
 refine W_loop (fun q a m'=> ∃k:Nat,k+q=xs.length∧a=h63_0 s t (.int .i64 xs.length) (.int .i64 k)∧m<+:m') xs.length ⟨0,by simp⟩ ?_
 rintro q a m1 ⟨k,hk,rfl,hm1⟩
 simp
 refine bbind_dec (fun hkl=>?_) fun hkl=>?_
 ·have hkl:k<xs.length:=by omega
  have hw:=step64 hkl hn
  obtain ⟨q,rfl⟩: ∃q',q=q'+1:=⟨q-1,by omega⟩
  obtain ⟨b1,o1,g1,g2⟩:=(hs.mono hm1).at hkl
  obtain ⟨b2,o2,g3,g4⟩:=(ht.mono hm1).at hkl
  simp
  refine W_drawPR (by simp[maxDst]) rfl rfl ?_
  have hne:binStr .neq xs[k] xs[k]=some (.bool false):=by simp[binStr]
  simp[g1,g2,g3,g4,hw,hne]
  intro m2 hm2
  exact ⟨q,by omega,k+1,by omega,by simp,hm1.trans hm2⟩
 ·simp
  exact hm1
theorem k62 (c d:List AVal) (x:Md) (m:AMem) (hx:RMode m c x) (hy:RMode m d x) (hsz:smallN x):ACalls Tryz.prog 62 [.agg c,.agg d] m fun v m'=>v= .bool true∧m<+:m':=by
 obtain ⟨e,nm,rfl,he,hnm⟩:=hx
 obtain ⟨e2,nm2,rfl,he2,hnm2⟩:=hy
 refine w62 ?_
 have h1:=Sl.one he
 have h2:=Sl.one hnm
 have h3:=Sl.one he2
 have h4:=Sl.one hnm2
 simp[h1,h2,h3,h4]
 obtain ⟨hb1,hb2,hm01⟩:=two_box m [.int .i64 x.kind,.int .i64 x.size,e,nm,.int .i64 x.dims,.bool x.flex] [.int .i64 x.kind,.int .i64 x.size,e2,nm2,.int .i64 x.dims,.bool x.flex] 39 39
 generalize m++ [.own [.int .i64 x.kind,.int .i64 x.size,e,nm,.int .i64 x.dims,.bool x.flex] 39 none,.own [.int .i64 x.kind,.int .i64 x.size,e2,nm2,.int .i64 x.dims,.bool x.flex] 39 none]=m1 at*
 simp[bx hb1,bx hb2]
 refine C_of (k27 e e2 x.elems m1 (he.mono hm01) (he2.mono hm01) hsz.1) ?_
 rintro _ m2 ⟨rfl,hm2⟩
 simp[bx (readB_mono hm2 hb1),bx (readB_mono hm2 hb2)]
 refine C_of (k63 nm nm2 x.names m2 (hnm.mono (hm01.trans hm2)) (hnm2.mono (hm01.trans hm2)) hsz.2.1) ?_
 rintro _ m3 ⟨rfl,hm3⟩
 simp[bx (readB_mono (hm2.trans hm3) hb1),bx (readB_mono (hm2.trans hm3) hb2)]
 exact hm01.trans (hm2.trans hm3)
theorem k61 (s t:AVal) (l:List Md) (m:AMem) (hs:RTab m s l) (ht:RTab m t l) (hsz: ∀x∈l,smallN x) (hn:l.length<2^62):ACalls Tryz.prog 61 [s,t,.func (.func 62) [] []] m fun v m'=>v= .bool true∧m<+:m':=by
 refine w61 ?_
 simp[hs.len,ht.len]
 refine W_loop (fun q a m'=> ∃k:Nat,k+q=l.length∧a=h61_0 t (.func (.func 62) [] []) s (.int .i64 l.length) (.int .i64 k)∧m<+:m') l.length ⟨0,by simp⟩ ?_
 rintro q a m1 ⟨k,hk,rfl,hm1⟩
 simp
 refine bbind_dec (fun hkl=>?_) fun hkl=>?_
 ·have hkl:k<l.length:=by omega
  have hw:=step64 hkl hn
  obtain ⟨q,rfl⟩: ∃q',q=q'+1:=⟨q-1,by omega⟩
  obtain ⟨b1,o1,c1,g1,g2,_,_,g3⟩:=(hs.mono hm1).atC hkl
  obtain ⟨b2,o2,c2,g4,g5,_,_,g6⟩:=(ht.mono hm1).atC hkl
  have a1:=g3.all
  have a2:=g6.all
  simp[g1,g2]
  rw[store_new _ _ c1 _ _ 6 a1.1 rfl a1.2]
  have hbx:=readB_new m1 c1 39 none
  have hm12:m1<+:m1++ [.own c1 39 none]:=List.prefix_append _ _
  simp
  generalize m1++ [.own c1 39 none]=m2 at*
  simp[g4,loadE_mono hm12 g5]
  rw[store_new _ _ c2 _ _ 6 a2.1 rfl a2.2]
  have hby:=readB_new m2 c2 39 none
  have hm23:m2<+:m2++ [.own c2 39 none]:=List.prefix_append _ _
  simp
  generalize m2++ [.own c2 39 none]=m3 at*
  have r1:readN c1 0 6=some c1:=by unfold readN;rw[if_pos (by omega),List.drop_zero,List.take_of_length_le (by omega)]
  have r2:readN c2 0 6=some c2:=by unfold readN;rw[if_pos (by omega),List.drop_zero,List.take_of_length_le (by omega)]
  simp[bxW (readB_mono hm23 hbx),bxW hby,r1,r2]
  refine C_of (k62 c1 c2 l[k] m3 (g3.mono (hm12.trans hm23)) (g6.mono (hm12.trans hm23)) (hsz _ (List.getElem_mem hkl))) ?_
  rintro _ m4 ⟨rfl,hm4⟩
  simp[hw]
  exact ⟨q,by omega,k+1,by omega,by simp,hm1.trans ((hm12.trans hm23).trans hm4)⟩
 ·simp
  exact hm1
theorem k30 (s t:AVal) (l:List Md) (m:AMem) (hs:RTab m s l) (ht:RTab m t l) (hsz: ∀x∈l,smallN x) (hn:l.length<2^62):ACalls Tryz.prog 30 [s,t] m fun v m'=>v= .bool true∧m<+:m':=by
 refine w30 ?_
 simp
 refine C_of (k61 s t l m hs ht hsz hn) ?_
 rintro _ m2 ⟨rfl,hm2⟩
 simp[hm2]
end Go.Proofs.YtlniliigcnedmaaGreatDoor
namespace Go.Proofs.YtlniliigcnedmaaGreatDoor
open Go Ax
open Relation
set_option maxRecDepth 100000
theorem RR_first {l:List Md} {a b:Nat} (ha:a<l.length) (hb:b<l.length) (h:RR l a=RR l b):firstC (mdAt l a) (mdAt l b)=0:=by
 have h1:R l (1+l.length) a=R l (1+l.length) b:=by rw[Nat.add_comm];exact h
 have h2:=R_eq_cmp (d:=0) ha hb (R_eq_down ha hb l.length h1)
 unfold cmpR thenC at h2
 have h0:cmpI (R l 0 a:Nat) (R l 0 b:Nat)=0:=cmpI_zero.2 rfl
 simp[h0] at h2
 exact h2
theorem lexC_refl: ∀xs:List Int,lexC cmpI xs xs=0
 | []=>rfl
 |x::xs=>by
  have h:cmpI x x=0:=cmpI_zero.2 rfl
  simp[lexC,h,lexC_refl xs]
theorem R_eq_of {l:List Md} {a b:Nat} (ha:a<l.length) (hb:b<l.length) (hf:firstC (mdAt l a) (mdAt l b)=0) (hk: ∀r,keyOf l r a=keyOf l r b): ∀d,R l d a=R l d b
 |0=>rfl
 |d+1=>by
  have ih:=R_eq_of ha hb hf hk d
  have hc:cmpR l (R l d) d a b=0:=by
   unfold cmpR thenC
   have h0:cmpI (R l d a:Nat) (R l d b:Nat)=0:=cmpI_zero.2 (by rw[ih])
   simp only[h0]
   by_cases hd:d=0
   ·simp[hd,hf]
   ·simp[hd,hk,lexC_refl]
  have h1:=R_lt l d (b:=b) ha
  have h2:=R_lt l d (b:=a) hb
  have h3:=(cmpR_ord l (R l d) d).anti a b trivial trivial
  have h4:=(cmpR_ord l (R l d) d).anti b a trivial trivial
  omega
theorem key_same {l:List Md} {a b:Nat} (ha:a<l.length) (hb:b<l.length) (hk:(mdAt l a).kind=(mdAt l b).kind) (he:(mdAt l a).elems=(mdAt l b).elems) (r:Nat→Nat):keyOf l r a=keyOf l r b:=by
 unfold keyOf
 have hu:isU (mdAt l a)=isU (mdAt l b):=by unfold isU;rw[hk]
 rw[hu,he]
 cases isU (mdAt l b)
 ·rfl
 ·simp only[if_true]
  congr 1
  apply List.filter_congr
  intro v _
  rw[decide_eq_decide]
  exact ⟨fun ⟨j,h1,h2⟩=>⟨j,part_same ha hb hk he h1,h2⟩,fun ⟨j,h1,h2⟩=>⟨j,part_same hb ha hk.symm he.symm h1,h2⟩⟩
theorem RR_same {l:List Md} {a b:Nat} (ha:a<l.length) (hb:b<l.length) (hf:firstC (mdAt l a) (mdAt l b)=0) (he:(mdAt l a).elems=(mdAt l b).elems):RR l a=RR l b:=
 R_eq_of ha hb hf (key_same ha hb (firstC_kind hf) he) _
theorem fidx_at {p:Nat→Bool}: ∀(n i j:Nat),i≤j→j<i+n→p j=true→(∀k,i≤k→k<j→p k=false)→fidx p i n=(j:Int)
 |0,i,j,h1,h2,_,_=>by omega
 |n+1,i,j,h1,h2,h3,h4=>by
  rw[fidx]
  by_cases hij:i=j
  ·subst hij;rw[if_pos h3]
  ·rw[if_neg (by rw[h4 i (Nat.le_refl _) (by omega)];simp)]
   exact fidx_at n (i+1) j (by omega) (by omega) h3 fun k k1 k2=>h4 k (by omega) k2
theorem findI_ok {l:List Md} {x:Md} (h: ∀e∈x.elems,outB l.length e=false):findI l x=if checkI (l++ [x])≠0 then none else if fidx (fun i=>RR (l++ [x]) i==RR (l++ [x]) l.length) 0 (l.length+1)=l.length then none else some (fidx (fun i=>RR (l++ [x]) i==RR (l++ [x]) l.length) 0 (l.length+1)).toNat:=by
 unfold findI
 rw[if_neg]
 intro hm
 have:=h _ hm
 simp[outB] at this
theorem findI_last {l:List Md} {x:Md} (h: ∀e∈x.elems,outB l.length e=false) (hc:checkI (l++ [x])=0) (hn: ∀i,i<l.length→RR (l++ [x]) i≠RR (l++ [x]) l.length):findI l x=none:=by
 rw[findI_ok h,if_neg (by simp[hc]),if_pos]
 exact fidx_at _ 0 _ (by omega) (by omega) (by simp) fun k _ hk=>by simpa using hn k hk
theorem findI_some {l:List Md} {x:Md} (h: ∀e∈x.elems,outB l.length e=false) (hc:checkI (l++ [x])=0) {j:Nat} (hj:j<l.length) (he:RR (l++ [x]) j=RR (l++ [x]) l.length) (hn: ∀i,i<j→RR (l++ [x]) i≠RR (l++ [x]) l.length):findI l x=some j:=by
 have hF:=fidx_at (p:=fun i=>RR (l++ [x]) i==RR (l++ [x]) l.length) (l.length+1) 0 j (by omega) (by omega) (by simpa using he) fun k _ hk=>by simpa using hn k hk
 rw[findI_ok h,if_neg (by simp[hc]),hF,if_neg (by omega)]
 simp
end Go.Proofs.YtlniliigcnedmaaGreatDoor
namespace Go.Proofs.YtlniliigcnedmaaGreatDoor
open Go Ax
set_option maxRecDepth 100000
structure UpTo (f:Nat→Nat) (ms:List Nat) (r:Nat) (zs:List Nat):Prop where
 asc:zs.Pairwise (fun a b=>f a<f b)
 sub: ∀z∈zs,z∈ms∧f z<r
 cov: ∀y∈ms,f y<r→ ∃z∈zs,f z=f y∧z≤y
theorem UpTo.skip {f:Nat→Nat} {ms:List Nat} {r:Nat} {zs:List Nat} (h:UpTo f ms r zs) (hn: ∀y∈ms,f y≠r):UpTo f ms (r+1) zs:=
 ⟨h.asc,fun z hz=>⟨(h.sub z hz).1,by have:=(h.sub z hz).2;omega⟩,fun y hy hl=>h.cov y hy (by have:=hn y hy;omega)⟩
theorem UpTo.take {f:Nat→Nat} {ms:List Nat} {r:Nat} {zs:List Nat} (h:UpTo f ms r zs) {k:Nat} (hk:k∈ms) (hr:f k=r) (hl: ∀y∈ms,f y=r→k≤y):UpTo f ms (r+1) (zs++ [k]):=by
 refine ⟨?_,fun z hz=>?_,fun y hy hlt=>?_⟩
 ·rw[List.pairwise_append]
  refine ⟨h.asc,by simp,fun a ha b hb=>?_⟩
  simp at hb
  subst hb
  have:=(h.sub a ha).2
  omega
 ·rcases List.mem_append.1 hz with hz|hz
  ·exact ⟨(h.sub z hz).1,by have:=(h.sub z hz).2;omega⟩
  ·simp at hz;subst hz;exact ⟨hk,by omega⟩
 ·by_cases he:f y=r
  ·exact ⟨k,by simp,by omega,hl y hy he⟩
  ·obtain ⟨z,h1,h2⟩:=h.cov y hy (by omega)
   exact ⟨z,by simp[h1],h2⟩
end Go.Proofs.YtlniliigcnedmaaGreatDoor
namespace Go.Proofs.YtlniliigcnedmaaGreatDoor
open Go Ax
open Relation
set_option maxRecDepth 100000
theorem rlAt {m:AMem} {r:AVal} {l:List Md} (h:RInts m r ((Rl l (l.length+1)).map fun z:Nat=>(z:Int))) {j:Nat} (hj:j<l.length): ∃b o,(∀k,iaddrE 1 r (.int k (j:Nat))=some (.ptr b o))∧ ∀m',m<+:m'→loadE m' 1 false (.ptr b o)=some (.int .i64 (RR l j:Nat)):=by
 obtain ⟨b,o,h1,h2⟩:=h.at (i:=j) (by simp[Rl_length];omega)
 have hg:(Rl l (l.length+1))[j]? =some (RR l j):=Rl_get _ _ hj
 have hg2:(Rl l (l.length+1))[j]'(by rw[Rl_length];omega)=RR l j:=by
  have:=List.getElem?_eq_getElem (l:=Rl l (l.length+1)) (i:=j) (by rw[Rl_length];omega)
  rw[hg] at this;simpa using this.symm
 refine ⟨b,o,h1,fun m' hm'=>?_⟩
 rw[loadE_mono hm' h2]
 simp only[List.getElem_map,hg2]
end Go.Proofs.YtlniliigcnedmaaGreatDoor
namespace Go.Proofs.YtlniliigcnedmaaGreatDoor
open Go Ax
set_option maxRecDepth 100000
noncomputable def leastI (l:List Md) (p:Nat):Int:=fidx (fun i=>RR l i==RR l p) 0 l.length
end Go.Proofs.YtlniliigcnedmaaGreatDoor
namespace Go.Proofs.YtlniliigcnedmaaGreatDoor
open Go Ax
open Relation
set_option maxRecDepth 100000
structure CheckOk (l:List Md):Prop where
 len:l.length≤512
 one: ∀x∈l,oneI x l.length=0
 void:l.any (voidsB l)=false
 bad: ∀r,r<l.length→ ¬badM l r
 flex: ∀x∈l,flexOf x=true→ ∀e∈x.elems,¬FlexP l e.toNat
theorem checkOk_iff {l:List Md}:checkI l=0↔CheckOk l:=by
 constructor
 ·intro h
  unfold checkI at h
  split at h
  ·omega
  ·rename_i h1
   split at h
   ·rename_i h2;exact absurd h h2
   ·rename_i h2
    split at h
    ·omega
    ·rename_i h3
     split at h
     ·omega
     ·rename_i h4
      split at h
      ·omega
      ·rename_i h5
       refine ⟨by omega,fun x hx=>?_,by simpa using h3,fun r hr hb=>h4 ⟨r,hr,hb⟩,fun x hx hf e he hp=>h5 ⟨x,hx,hf,e,he,hp⟩⟩
       have h2:firstI (l.map (oneI · l.length))=0:=by simpa using h2
       rw[firstI_zero] at h2
       exact h2 _ (List.mem_map.2 ⟨x,hx,rfl⟩)
 ·intro h
  unfold checkI
  rw[if_neg (by have:=h.len;omega),if_neg,if_neg (by rw[h.void];simp),if_neg (fun ⟨r,hr,hb⟩=>h.bad r hr hb),if_neg (fun ⟨x,hx,hf,e,he,hp⟩=>h.flex x hx hf e he hp)]
  intro hc
  apply hc
  rw[firstI_zero]
  intro y hy
  obtain ⟨x,hx,rfl⟩:=List.mem_map.1 hy
  exact h.one x hx
theorem one_more {x:Md} {n:Nat} (h:oneI x n=0):oneI x (n+1)=0:=by
 obtain ⟨h1,h2,h3,h4⟩:=oneI_zero h
 unfold oneI
 rw[if_neg (by simp[h1]),if_neg,if_neg,if_neg (by rw[h4];simp)]
 ·simp only[List.any_eq_true,not_exists,not_and]
  intro s hs
  simp[h3 s hs]
 ·simp only[List.any_eq_true,not_exists,not_and]
  intro e he
  have:=h2 e he
  simp[outB]
  omega
theorem no_into {l:List Md} {x:Md} (hg:goodT l) (hx: ∀e∈x.elems,0≤e∧e<(l.length:Int)) {p:Md→Bool} {a:Nat}: ¬stepR (l++ [x]) p a l.length:=by
 rintro ⟨y,h1,_,h3⟩
 have hy:y∈l++ [x]:=List.mem_of_getElem? h1
 rcases List.mem_append.1 hy with h|h
 ·have:=hg y h _ h3;omega
 ·simp at h;subst h;have:=hx _ h3;omega
theorem flex_app {l:List Md} {x:Md} (hg:goodT l) {a:Nat} (ha:a<l.length) (h:FlexP (l++ [x]) a):FlexP l a:=by
 induction h with
 |flex h1 h2 h3=>
  rw[List.getElem?_append_left ha] at h1
  exact .flex h1 h2 h3
 |step h1 h2 ih=>
  obtain ⟨y,g1,g2⟩:=h1
  rw[List.getElem?_append_left ha] at g1
  have hb:=hg y (List.mem_of_getElem? g1) _ g2.2
  exact .step ⟨y,g1,g2⟩ (ih (by omega))
end Go.Proofs.YtlniliigcnedmaaGreatDoor
namespace Go.Proofs.YtlniliigcnedmaaGreatDoor
open Go Ax Go.ChangeShapes Go.WideShapes Go.ChangeAt Go.RowKit
set_option maxRecDepth 100000
theorem under22: Tryz.prog.underlying 22=some (.slice 39):=by kernel_rfl
theorem under3: Tryz.prog.underlying 3=some (.int .i64):=by kernel_rfl
theorem under4: Tryz.prog.underlying 4=some .bool:=by kernel_rfl
theorem under33: Tryz.prog.underlying 36=some (.slice 3):=by kernel_rfl
theorem under47: Tryz.prog.underlying 37=some (.slice 9):=by kernel_rfl
theorem under9: Tryz.prog.underlying 9=some .string:=by kernel_rfl
theorem laidOut:laidOutB Tryz.prog=true:=by kernel_rfl
theorem own0:ownKnob Tryz.prog.godebug=none:=by kernel_rfl
noncomputable def fs49:Array Field:=match Tryz.prog.underlying 39 with|some (.struct fs)=>fs|_=> #[]
noncomputable def modeT:ModeT Tryz.prog:=
 {tT:=22,tM:=39,tI:=36,eI:=3,tS:=37,eS:=9,k0:=3,k1:=3,k4:=3,k5:=4,fs:=fs49,
  hT:=under22,hM:=by kernel_rfl,hI:=under33,hi:=under3,hS:=under47,hs:=under9,h0:=under3,h1:=under3,h4:=under3,h5:=under4,
  cM:=by kernel_rfl,ci:=by kernel_rfl,cs:=by kernel_rfl,c0:=by kernel_rfl,c1:=by kernel_rfl,cI:=by kernel_rfl,cS:=by kernel_rfl,c4:=by kernel_rfl,c5:=by kernel_rfl,
  bi:=by kernel_rfl,bs:=by kernel_rfl,bM:=of_decide_eq_true (by kernel_rfl),sz:=by kernel_rfl,f0:=by kernel_rfl,f1:=by kernel_rfl,f2:=by kernel_rfl,f3:=by kernel_rfl,f4:=by kernel_rfl,f5:=by kernel_rfl}
def LawTII (f:FuncId):Prop:= ∀(m:AMem) (s:AVal) (l:List Md) (u v:Int),RTab m s l→l.length≤reachBytes→(∀md∈l,MdB reachBytes md)→ACalls Tryz.prog f [s,.int .i64 u,.int .i64 v] m fun r _=>r= .bool true
end Go.Proofs.YtlniliigcnedmaaGreatDoor
namespace Go.Proofs.YtlniliigcnedmaaGreatDoor
open Go Ax
open Relation
set_option maxRecDepth 100000
theorem OrdG.zero_trans {α:Type} {c:α→α→Int} {D:α→Prop} (h:OrdG c D) {a b d:α} (ha:D a) (hb:D b) (hd:D d) (h1:c a b=0) (h2:c b d=0):c a d=0:=by
 have e1:=h.trans a b d ha hb hd (by omega) (by omega)
 have e2:=h.trans d b a hd hb ha (by rw[(h.zero hb hd).1 h2];omega) (by rw[(h.zero ha hb).1 h1];omega)
 have:=h.anti a d ha hd
 have:=h.anti d a hd ha
 omega
structure Bisim (l:List Md) (E:Nat→Nat→Prop):Prop where
 lt: ∀a b,E a b→a<l.length∧b<l.length
 first: ∀a b,E a b→firstC (mdAt l a) (mdAt l b)=0
 up: ∀a b j,E a b→isU (mdAt l a)=true→IsPart l a j→ ∃j',IsPart l b j'∧E j j'
 down: ∀a b j,E a b→isU (mdAt l b)=true→IsPart l b j→ ∃j',IsPart l a j'∧E j' j
 len: ∀a b,E a b→isU (mdAt l a)=false→(mdAt l a).elems.length=(mdAt l b).elems.length
 el: ∀(a b k:Nat) (e e':Int),E a b→isU (mdAt l a)=false→(mdAt l a).elems[k]? =some e→(mdAt l b).elems[k]? =some e'→E e.toNat e'.toNat
theorem Bisim.R {l:List Md} {E:Nat→Nat→Prop} (h:Bisim l E): ∀d a b,E a b→R l d a=R l d b
 |0,_,_,_=>rfl
 |d+1,a,b,he=>by
  have ih:=h.R d
  obtain ⟨ha,hb⟩:=h.lt a b he
  have hf:=h.first a b he
  have hu:isU (mdAt l a)=isU (mdAt l b):=by unfold isU;rw[firstC_kind hf]
  have hk:keyOf l (Go.Proofs.YtlniliigcnedmaaGreatDoor.R l d) a=keyOf l (Go.Proofs.YtlniliigcnedmaaGreatDoor.R l d) b:=by
   unfold keyOf
   rw[←hu]
   cases hua:isU (mdAt l a)
   ·rw[if_neg (by simp),if_neg (by simp)]
    refine List.ext_getElem? fun k=>?_
    rw[List.getElem?_map,List.getElem?_map]
    have hl:=h.len a b he hua
    by_cases hkl:k<(mdAt l a).elems.length
    ·rw[List.getElem?_eq_getElem hkl,List.getElem?_eq_getElem (by omega)]
     simp only[Option.map_some,Option.some.injEq,Int.natCast_inj]
     exact ih _ _ (h.el a b k _ _ he hua (List.getElem?_eq_getElem hkl) (List.getElem?_eq_getElem (by omega)))
    ·rw[List.getElem?_eq_none (by omega),List.getElem?_eq_none (by omega)]
   ·rw[if_pos rfl,if_pos rfl]
    congr 1
    apply List.filter_congr
    intro v _
    rw[decide_eq_decide]
    constructor
    ·rintro ⟨j,h1,h2⟩
     obtain ⟨j',h3,h4⟩:=h.up a b j he hua h1
     exact ⟨j',h3,by rw[←ih _ _ h4];exact h2⟩
    ·rintro ⟨j,h1,h2⟩
     obtain ⟨j',h3,h4⟩:=h.down a b j he (by rw[←hu];exact hua) h1
     exact ⟨j',h3,by rw[ih _ _ h4];exact h2⟩
  have hc:cmpR l (Go.Proofs.YtlniliigcnedmaaGreatDoor.R l d) d a b=0:=by
   unfold cmpR thenC
   have h0:cmpI (Go.Proofs.YtlniliigcnedmaaGreatDoor.R l d a:Nat) (Go.Proofs.YtlniliigcnedmaaGreatDoor.R l d b:Nat)=0:=cmpI_zero.2 (by rw[ih a b he])
   simp only[h0]
   by_cases hd:d=0
   ·simp[hd,hf]
   ·simp[hd,hk,lexC_refl]
  have h1:=R_lt l d (b:=b) ha
  have h2:=R_lt l d (b:=a) hb
  have h3:=(cmpR_ord l (Go.Proofs.YtlniliigcnedmaaGreatDoor.R l d) d).anti a b trivial trivial
  have h4:=(cmpR_ord l (Go.Proofs.YtlniliigcnedmaaGreatDoor.R l d) d).anti b a trivial trivial
  omega
theorem Bisim.RR {l:List Md} {E:Nat→Nat→Prop} (h:Bisim l E) {a b:Nat} (he:E a b):RR l a=RR l b:=h.R _ a b he
theorem RR_part {l:List Md} (hg:goodT l) {a b j:Nat} (ha:a<l.length) (hb:b<l.length) (h:RR l a=RR l b) (hu:isU (mdAt l a)=true) (hj:IsPart l a j): ∃j',IsPart l b j'∧RR l j=RR l j':=by
 have hk:=RR_key hg ha hb h
 have hub:isU (mdAt l b)=true:=by unfold isU at hu ⊢;rw[←firstC_kind (RR_first ha hb h)];exact hu
 have hr: ∀a,a<l.length→RR l a<l.length:=fun a ha=>R_bound l _ ha
 have k1:=((keyOf_isKey hg hr a).un hu).2 (RR l j:Int)
 have k2:=((keyOf_isKey hg hr b).un hub).2 (RR l j:Int)
 rw[hk] at k1
 obtain ⟨j',h1,h2⟩:=k2.1 (k1.2 ⟨j,hj,rfl⟩)
 exact ⟨j',h1,by omega⟩
theorem RR_elem {l:List Md} (hg:goodT l) {a b:Nat} (ha:a<l.length) (hb:b<l.length) (h:RR l a=RR l b) (hu:isU (mdAt l a)=false):(mdAt l a).elems.length=(mdAt l b).elems.length∧ ∀(k:Nat) (e e':Int),(mdAt l a).elems[k]? =some e→(mdAt l b).elems[k]? =some e'→RR l e.toNat=RR l e'.toNat:=by
 have hk:=RR_key hg ha hb h
 have hub:isU (mdAt l b)=false:=by unfold isU at hu ⊢;rw[←firstC_kind (RR_first ha hb h)];exact hu
 have hr: ∀a,a<l.length→RR l a<l.length:=fun a ha=>R_bound l _ ha
 have k1:=(keyOf_isKey hg hr a).el hu
 have k2:=(keyOf_isKey hg hr b).el hub
 rw[hk,k2] at k1
 refine ⟨by have:=congrArg List.length k1;simpa using this.symm,fun k e e' h1 h2=>?_⟩
 have:=congrArg (·[k]?) k1
 simp only[List.getElem?_map,h1,h2,Option.map_some,Option.some.injEq,Int.natCast_inj] at this
 exact this.symm
section
variable {l:List Md} {zs:List Nat}
theorem RR_app {x:Md} (hg:goodT l) (hg':goodT (l++ [x])) {a b:Nat} (ha:a<l.length) (hb:b<l.length) (h:RR (l++ [x]) a=RR (l++ [x]) b):RR l a=RR l b:=by
 have hl:(l++ [x]).length=l.length+1:=by simp
 have hel: ∀{a k:Nat} {e:Int},a<l.length→(mdAt l a).elems[k]? =some e→e.toNat<l.length:=fun {a k e} ha h=>by
  have:=hg (mdAt l a) (by rw[mdAt_eq ha];exact List.getElem_mem ha) e (List.mem_of_getElem? h)
  omega
 refine Bisim.RR (E:=fun a b=>a<l.length∧b<l.length∧RR (l++ [x]) a=RR (l++ [x]) b) ⟨fun a b h=>⟨h.1,h.2.1⟩,fun a b h=>?_,fun a b j h hu hj=>?_,fun a b j h hu hj=>?_,fun a b h hu=>?_,fun a b k e e' h hu h1 h2=>?_⟩ ⟨ha,hb,h⟩
 ·have:=RR_first (by omega) (by omega) h.2.2
  rwa[mdAt_app h.1,mdAt_app h.2.1] at this
 ·obtain ⟨j',h1,h2⟩:=RR_part hg' (by omega) (by omega) h.2.2 (by rw[mdAt_app h.1];exact hu) ((part_old hg h.1).2 hj)
  have h1:=(part_old hg h.2.1).1 h1
  exact ⟨j',h1,hj.lt hg,h1.lt hg,h2⟩
 ·obtain ⟨j',h1,h2⟩:=RR_part hg' (by omega) (by omega) h.2.2.symm (by rw[mdAt_app h.2.1];exact hu) ((part_old hg h.2.1).2 hj)
  have h1:=(part_old hg h.1).1 h1
  exact ⟨j',h1,h1.lt hg,hj.lt hg,h2.symm⟩
 ·have:=(RR_elem hg' (by omega) (by omega) h.2.2 (by rw[mdAt_app h.1];exact hu)).1
  rwa[mdAt_app h.1,mdAt_app h.2.1] at this
 ·have:=(RR_elem hg' (by omega) (by omega) h.2.2 (by rw[mdAt_app h.1];exact hu)).2 k e e'
  rw[mdAt_app h.1,mdAt_app h.2.1] at this
  exact ⟨hel h.1 h1,hel h.2.1 h2,this h1 h2⟩
end
end Go.Proofs.YtlniliigcnedmaaGreatDoor
namespace Go.Proofs.YtlniliigcnedmaaGreatDoor
open Go Ax
open Relation
set_option maxRecDepth 100000
theorem FlexP.congr {l:List Md} (hg:goodT l) {a:Nat} (h:FlexP l a): ∀{b},a<l.length→b<l.length→RR l a=RR l b→FlexP l b:=by
 induction h with
 | @flex a x h1 h2 h3=>
  intro b ha hb he
  have hf:=RR_first ha hb he
  have hx:mdAt l a=x:=by rw[mdAt_eq ha];rw[List.getElem?_eq_getElem ha] at h1;exact Option.some.inj h1
  rw[hx] at hf
  have hk:=firstC_kind hf
  have hfl:x.flex=(mdAt l b).flex:=by
   have hz: ∀{x y:Int} {xs:List Int},firstNZ (x::xs)=0→x=0∧firstNZ xs=0:=fun {x y xs} h=>by
    rw[firstNZ_cons] at h
    split at h
    ·omega
    ·rename_i h0;exact ⟨by omega,h⟩
   unfold firstC firstL at hf
   have e1:=(hz (y:=0) hf).2
   have e2:=(hz (y:=0) e1).2
   have e3:=(hz (y:=0) e2).2
   have e4:=(hz (y:=0) e3).1
   have:=cmpI_zero.1 e4
   cases hx1:x.flex<;>cases hx2:(mdAt l b).flex<;>simp[bi,hx1,hx2] at this ⊢
  refine .flex (x:=mdAt l b) (by rw[mdAt_eq hb];exact List.getElem?_eq_getElem hb) ?_ ?_
  ·unfold rowStruct at h2 ⊢;rw[←hk];exact h2
  ·rw[←hfl];exact h3
 | @step a c h1 _ ih=>
  intro b ha hb he
  obtain ⟨x,g1,g2,g3⟩:=h1
  have hx:mdAt l a=x:=by rw[mdAt_eq ha];rw[List.getElem?_eq_getElem ha] at g1;exact Option.some.inj g1
  have hf:=RR_first ha hb he
  rw[hx] at hf
  have hk:=firstC_kind hf
  have hua:isU (mdAt l a)=false:=by
   rw[hx]
   unfold rowStruct at g2
   simp only[Bool.or_eq_true,beq_iff_eq] at g2
   simp[isU]
   omega
  obtain ⟨hl,hel⟩:=RR_elem hg ha hb he hua
  rw[hx] at hl hel
  obtain ⟨k,hk1,hk2⟩:=List.mem_iff_getElem.1 g3
  have hkb:k<(mdAt l b).elems.length:=by omega
  have hcl:c<l.length:=by have:=hg x (List.mem_of_getElem? g1) _ g3;omega
  have hmem:(mdAt l b).elems[k]∈(mdAt l b).elems:=List.getElem_mem hkb
  have hbm:=hg (mdAt l b) (by rw[mdAt_eq hb];exact List.getElem_mem hb) _ hmem
  have h5:=hel k _ _ (List.getElem?_eq_getElem hk1) (List.getElem?_eq_getElem hkb)
  rw[hk2,Int.toNat_natCast] at h5
  obtain ⟨d,hd⟩: ∃d:Nat,(mdAt l b).elems[k]=d:=⟨(mdAt l b).elems[k].toNat,by omega⟩
  rw[hd] at h5 hmem hbm
  rw[Int.toNat_natCast] at h5
  refine .step (k:=d) ⟨mdAt l b,by rw[mdAt_eq hb];exact List.getElem?_eq_getElem hb,?_,hmem⟩ (ih hcl (by omega) h5)
  unfold rowStruct at g2 ⊢;rw[←hk];exact g2
theorem RR_grow {l:List Md} {x:Md} (hg:goodT l) {a b:Nat} (ha:a<l.length) (hb:b<l.length) (h:RR l a=RR l b):RR (l++ [x]) a=RR (l++ [x]) b:=by
 have hl:(l++ [x]).length=l.length+1:=by simp
 have hel: ∀{a k:Nat} {e:Int},a<l.length→(mdAt l a).elems[k]? =some e→e.toNat<l.length:=fun {a k e} ha h=>by
  have:=hg (mdAt l a) (by rw[mdAt_eq ha];exact List.getElem_mem ha) e (List.mem_of_getElem? h)
  omega
 refine Bisim.RR (E:=fun a b=>a<l.length∧b<l.length∧RR l a=RR l b) ⟨fun a b h=>⟨by omega,by omega⟩,fun a b h=>?_,fun a b j h hu hj=>?_,fun a b j h hu hj=>?_,fun a b h hu=>?_,fun a b k e e' h hu h1 h2=>?_⟩ ⟨ha,hb,h⟩
 ·rw[mdAt_app h.1,mdAt_app h.2.1];exact RR_first h.1 h.2.1 h.2.2
 ·rw[mdAt_app h.1] at hu
  have hj':=(part_old hg h.1).1 hj
  obtain ⟨j',h1,h2⟩:=RR_part hg h.1 h.2.1 h.2.2 hu hj'
  exact ⟨j',(part_old hg h.2.1).2 h1,hj'.lt hg,h1.lt hg,h2⟩
 ·rw[mdAt_app h.2.1] at hu
  have hj':=(part_old hg h.2.1).1 hj
  obtain ⟨j',h1,h2⟩:=RR_part hg h.2.1 h.1 h.2.2.symm hu hj'
  exact ⟨j',(part_old hg h.1).2 h1,h1.lt hg,hj'.lt hg,h2.symm⟩
 ·rw[mdAt_app h.1] at hu
  rw[mdAt_app h.1,mdAt_app h.2.1]
  exact (RR_elem hg h.1 h.2.1 h.2.2 hu).1
 ·rw[mdAt_app h.1] at hu h1
  rw[mdAt_app h.2.1] at h2
  exact ⟨hel h.1 h1,hel h.2.1 h2,(RR_elem hg h.1 h.2.1 h.2.2 hu).2 k e e' h1 h2⟩
structure Left (l:List Md) (u part:Nat) (k:List Md) (q:Nat):Prop where
 ck:checkI k=0
 len:k.length≤l.length+1
 ge:l.length≤k.length
 ql:q<k.length
 rr: ∀a b,a<l.length→b<l.length→(RR k a=RR k b↔RR l a=RR l b)
 md: ∀a,a<l.length→mdAt k a=mdAt l a
 parts: ∀a j,a<l.length→(IsPart k a j↔IsPart l a j)
 nf: ¬FlexP k q
 nfp: ∀a,a<l.length→FlexP k a→FlexP l a
 up: ∀j,IsBase k q j→ ∃z∈leftI l u part,RR k j=RR k z
 dn: ∀z∈leftI l u part,∃j,IsBase k q j∧RR k j=RR k z
section
variable {l:List Md} {u part:Nat}
end
end Go.Proofs.YtlniliigcnedmaaGreatDoor
namespace Go.Proofs.YtlniliigcnedmaaGreatDoor
open Go Ax
set_option maxRecDepth 100000
theorem k17 (s:AVal) (l:List Md) (a b:Nat) (m:AMem) (hs:RTab m s l) (hsz: ∀x∈l,smallN x) (hn:T13 l) (hc:checkI l=0) (ha:a<l.length) (hb:b<l.length):
  ACalls Tryz.prog 17 [s,.int .i64 a,.int .i64 b] m fun v m'=>v= .tuple [.bool (decide (RR l a=RR l b)),.int .i64 0]∧m<+:m':=by
 refine w17 ?_
 have h60:=hn.len
 have ok:=okT_of hc
 simp[fillA,setN]
 have hA:=two_ints m a b
 have hm1:m<+:m++ [.own [.int .i64 (a:Int),.int .i64 (b:Int)] 3 none]:=List.prefix_append _ _
 generalize AVal.slice m.length 0 2 2 none=t1 at*
 generalize m++ [.own [.int .i64 (a:Int),.int .i64 (b:Int)] 3 none]=m1 at*
 refine C_of (k43 s t1 l [(a:Int),(b:Int)] m1 (hs.mono hm1) hA.ints hsz (by omega) (by simp)) ?_
 rintro _ m2 ⟨rfl,hm2⟩
 rw[rightI_two hc ha hb]
 simp
 refine C_of (k44 s l m2 (hs.mono (hm1.trans hm2)) ok.good hn.t60 hsz ok.h64) ?_
 rintro v3 m3 ⟨hm3,ds,kd,hX,hD⟩
 have hXi:=ints_of_nat hX
 obtain ⟨ba,oa,hpa,hla⟩:=ranksAt hXi (x:=a) (by rw[hD.len];exact ha)
 obtain ⟨bb,ob,hpb,hlb⟩:=ranksAt hXi (x:=b) (by rw[hD.len];exact hb)
 have hla:=hla m3 (List.prefix_refl _)
 have hlb:=hlb m3 (List.prefix_refl _)
 have heq:=hD.sameOrd.eq ha hb
 generalize ds.getD a 0=x at*
 generalize ds.getD b 0=y at*
 have hxy:((x:Int)==(y:Int))=decide (RR l a=RR l b):=by
  rw[Bool.eq_iff_iff,decide_eq_true_iff,←heq]
  simp
  omega
 simp
 refine W_drawPR (by simp[maxDst]) rfl rfl ?_
 simp[hpa,hla,hpb,hlb,hxy]
 intro m4 hm4
 exact ((hm1.trans hm2).trans hm3).trans hm4
end Go.Proofs.YtlniliigcnedmaaGreatDoor
namespace Go.Proofs.YtlniliigcnedmaaGreatDoor
open Go Ax
set_option maxRecDepth 100000
def OwS (lo:Nat) (m:AMem) (s:AVal) (l:List Md):Prop:= ∃cs,Ow lo m 6 39 s l.length cs∧ ∀(i:Nat) x,l[i]? =some x→ ∀m',Ch (fun b=>s.blk=some b) m m'→RMode m' (chunk cs i) x
theorem OwS.tab {lo:Nat} {m:AMem} {s:AVal} {l:List Md} (h:OwS lo m s l):RTab m s l:=by
 obtain ⟨cs,h1,h2⟩:=h
 exact ⟨cs,h1.sl,fun i x hx=>h2 i x hx m (.refl _ _)⟩
theorem OwS.mono {lo:Nat} {m m':AMem} {s:AVal} {l:List Md} (h:OwS lo m s l) (hm:m<+:m'):OwS lo m' s l:=by
 obtain ⟨cs,h1,h2⟩:=h
 exact ⟨cs,h1.mono hm,fun i x hx m'' hc=>h2 i x hx m'' ((Ch.of_prefix hm).trans hc)⟩
theorem OwS.blk_lo {lo:Nat} {m:AMem} {s:AVal} {l:List Md} (h:OwS lo m s l) {b:Nat} (hb:s.blk=some b):lo≤b∧b<m.length:=by
 obtain ⟨cs,h1,_⟩:=h
 exact h1.blk_lo hb
theorem OwS.push {lo:Nat} {m:AMem} {s:AVal} {l:List Md} (h:OwS lo m s l) (hlo:lo≤m.length) {c:List AVal} {x:Md} (hx: ∀m',Ch (fun b=>s.blk=some b) m m'→RMode m' c x) (hn:l.length<2^30):
  ∃s' m',appendE m 6 80 39 s 1 c=some (s',m')∧Ch (fun b=>s.blk=some b) m m'∧OwS lo m' s' (l++ [x])∧(∀b,s'.blk=some b→s.blk=some b∨m.length≤b):=by
 obtain ⟨cs,h1,h2⟩:=h
 have hcl:=(hx m (.refl _ _)).all
 have hl:=h1.sl.length
 obtain ⟨s',m',e,hch,h3,h4⟩:=h1.append hlo (k:=1) (xs:=c) (bytes:=80) (by omega) hcl.2 (by decide) (by omega)
 refine ⟨s',m',e,hch,⟨cs++c,by simpa using h3,fun i y hy m2 hc2=>?_⟩,h4⟩
 have hcc:Ch (fun b=>s.blk=some b) m m2:=by
  have a1:Ch (fun b=>s.blk=some b∨m.length≤b) m m':=hch.weaken fun b _ hb=> .inl hb
  have a2:Ch (fun b=>s.blk=some b∨m.length≤b) m' m2:=hc2.weaken fun b _ hb=>h4 b hb
  exact (a1.trans a2).weaken fun b hb h=>by rcases h with h|h;exact h;omega
 rcases push_get hy with ⟨hi,hy⟩|⟨rfl,rfl⟩
 ·rw[chunk_append hl hi];exact h2 i y hy m2 hcc
 ·rw[chunk_last hl hcl.1];exact hx m2 hcc
def shiftM (n:Nat) (x:Md):Md:={x with elems:=x.elems.map (· +(n:Int))}
def bothT (l k:List Md):List Md:=l++k.map (shiftM l.length)
set_option maxHeartbeats 8000000 in
theorem k31 (s t:AVal) (l k:List Md) (a b:Nat) (m:AMem) (hs:RTab m s l) (ht:RTab m t k) (hsl: ∀x∈l,smallN x) (hsk: ∀x∈k,smallN x) (hk40: ∀x∈k,x.elems.length<2^40∧x.names.length<2^40)
  (hcl:checkI l=0) (hck:checkI k=0) (ha:a<l.length) (hb:b<k.length) (hln:l.length≤19) (hkn:k.length≤19) (hT:T60 (bothT l k)) (hg:goodT (bothT l k)):
  ACalls Tryz.prog 31 [s,.int .i64 a,t,.int .i64 b] m fun v m'=>m<+:m'∧v= .tuple [.bool (decide (RR (bothT l k) a=RR (bothT l k) (l.length+b))),.int .i64 0]:=by
 have okl:=okT_of hcl
 have okk:=okT_of hck
 refine w31 ?_
 simp
 refine C_of (k52 s l m hs hsl (by omega)) ?_
 rintro _ m1 ⟨rfl,hm1⟩
 simp[hcl]
 refine C_of (k52 t k m1 (ht.mono hm1) hsk (by omega)) ?_
 rintro _ m2 ⟨rfl,hm2⟩
 simp[hck]
 have hm02:=hm1.trans hm2
 refine C_of (k64 s l a m2 (hs.mono hm02)) ?_
 rintro _ m2 ⟨rfl,rfl⟩
 have ha':(a:Int)<l.length:=by omega
 have hb':(b:Int)<k.length:=by omega
 simp[ha']
 refine C_of (k64 t k b m2 (ht.mono hm02)) ?_
 rintro _ m2 ⟨rfl,rfl⟩
 have hwlk:IntKind.i64.wrap ((l.length:Int)+k.length)=((l.length+k.length:Nat):Int):=by rw[wrap64 (by omega) (by omega)];omega
 obtain ⟨LK,hLK⟩: ∃LK:Nat,LK=l.length+k.length:=⟨_,rfl⟩
 rw[←hLK] at hwlk
 have h512: ¬(512:Int)<LK:=by omega
 have hsL: ∀m',m<+:m'→lenE s=some (.int .i64 l.length):=fun m' h=>(hs.mono h).len
 have hsL0:=hs.len
 have htL0:=ht.len
 simp[hb',hsL0,htL0,hwlk,h512]
 refine C_of (k23 s l m m2 hm02 hs (by omega)) ?_
 rintro v3 m3 ⟨hm3,hB⟩
 have hm03:=hm02.trans hm3
 simp[htL0]
 have hO0:OwS m2.length m3 v3 l:=by
  obtain ⟨cs,h1,h2⟩:=hB
  refine ⟨cs,h1,fun i x hx m' hc=>(h2 i x hx).mono (hc.pre hm03 fun b hb e=>?_)⟩
  have:=(h1.blk_lo e).1
  have:=hm02.length_le
  omega
 obtain ⟨J,hJ⟩: ∃J:AFrame→AMem→Prop,∀f m',J f m'↔(∃o,f.forget [0,1,3,12]=mat 92 [(0,s),(1,.int .i64 a),(3,.int .i64 b),(12,o)]∧m2<+:m'∧OwS m2.length m' o (bothT l k)):=⟨_,fun _ _=>Iff.rfl⟩
 refine W_JB J ?_ ?_
 ·obtain ⟨I,hI⟩: ∃I:Nat→AFrame→AMem→Prop,∀q f m',I q f m'↔(∃(i:Nat) (o:AVal),i+q=k.length∧f=h31_0 s (.int .i64 a) (.int .i64 b) o t (.int .i64 k.length) (.int .i64 i)∧m2<+:m'∧OwS m2.length m' o (l++(k.take i).map (shiftM l.length))):=⟨_,fun _ _ _=>Iff.rfl⟩
  refine W_loop I k.length ((hI _ _ _).2 ⟨0,v3,by simp,by simp,hm3,by simpa using hO0⟩) ?_
  clear hO0 hB
  rintro q f m4 hIn
  obtain ⟨i,o,hq,rfl,hm4,hO⟩:=(hI _ _ _).1 hIn
  clear hIn
  have hm04:=hm02.trans hm4
  simp
  refine bbind_dec (fun hil=>?_) fun hil=>?_
  rotate_left
  ·have:i=k.length:=by omega
   subst this
   rw[List.take_length] at hO
   simp
   exact (hJ _ _).2 ⟨o,by simp,hm4,hO⟩
  have hil:i<k.length:=by omega
  have hw:=step64 (k:=i) (n:=k.length) hil (by omega)
  obtain ⟨bx',ox,c,g4,g5,_,_,g6⟩:=ht.atC hil
  replace g5:=loadE_mono hm04 g5
  have hx40:=hk40 _ (List.getElem_mem hil)
  have hxg:=okk.good _ (List.getElem_mem hil)
  have hget:k[i]? =some k[i]:=List.getElem?_eq_getElem hil
  have htk:k.take (i+1)=k.take i++ [k[i]]:=by rw[List.take_add_one,hget];rfl
  generalize k[i]=x at*
  have hcl6:=g6.all
  simp[g4,g5]
  have hb0:(m4++ [ABlk.own [.int .i64 0,.int .i64 0,.nilslice,.nilslice,.int .i64 0,.bool false] 39 none])[m4.length]? =some (ABlk.own [.int .i64 0,.int .i64 0,.nilslice,.nilslice,.int .i64 0,.bool false] 39 none):=by simp
  have hm45:m4<+:m4++ [ABlk.own [.int .i64 0,.int .i64 0,.nilslice,.nilslice,.int .i64 0,.bool false] 39 none]:=List.prefix_append _ _
  obtain ⟨m6,hst6,hb6,hch6⟩:=agg_store (n:=6) hb0 hcl6.1 rfl hcl6.2
  simp[hst6]
  have hm46:m4<+:m6:=hch6.pre hm45 fun b hb e=>by omega
  obtain ⟨e,nm,rfl,he,hnm⟩:=g6
  have he1:=Sl.self he
  have hn1:=Sl.self hnm
  have hr6:=bx (own_read hb6) 2
  simp at hr6
  simp[hr6]
  refine C_of (k24 e x.elems m6 (he.mono (hm04.trans hm46)) (by omega)) ?_
  rintro e2 m7 ⟨hm7,hE⟩
  have hb7:=own_mono hb6 hm7
  have he2:=(Ow.sl hE).self
  obtain ⟨m8,hst8,hb8,hch8⟩:=fld_store (i:=2) (v:=e2) hb7 (by simp) he2.2 he2.1
  simp at hb8
  simp[hst8]
  have hE8:OwL (AVal.int .i64) m6.length m8 3 e2 x.elems:=hE.ch hch8 fun b hb e=>by have:=(hE.blk_lo hb).1;have:=hch6.len;simp at this;omega
  have hm48:m4<+:m8:=hch8.pre (hm46.trans hm7) fun b hb e=>by omega
  have hr8:=bx (own_read hb8) 2
  simp at hr8
  simp[hr8,hE8.len]
  have h46:m4.length<m6.length:=by have:=hch6.len;simp at this;omega
  obtain ⟨J1,hJ1⟩: ∃J:AFrame→AMem→Prop,∀f m',J f m'↔(f.forget [0,1,3,12,14,47,48,49]=mat 92 [(0,s),(1,.int .i64 a),(3,.int .i64 b),(12,o),(14,.ptr m4.length 0),(47,t),(48,.int .i64 k.length),(49,.int .i64 i)]∧m4<+:m'∧m'[m4.length]? =some (.own [.int .i64 x.kind,.int .i64 x.size,e2,nm,.int .i64 x.dims,.bool x.flex] 39 none)∧OwL (AVal.int .i64) m6.length m' 3 e2 (x.elems.map (· +(l.length:Int)))):=⟨_,fun _ _=>Iff.rfl⟩
  refine W_JB J1 ?_ ?_
  ·obtain ⟨I1,hI1⟩: ∃I:Nat→AFrame→AMem→Prop,∀q f m',I q f m'↔(∃(j:Nat),j+q=x.elems.length∧f=h31_1 s (.int .i64 a) (.int .i64 b) o (.ptr m4.length 0) t (.int .i64 k.length) (.int .i64 i) (.int .i64 x.elems.length) (.int .i64 j)∧m4<+:m'∧m'[m4.length]? =some (.own [.int .i64 x.kind,.int .i64 x.size,e2,nm,.int .i64 x.dims,.bool x.flex] 39 none)∧OwL (AVal.int .i64) m6.length m' 3 e2 ((x.elems.take j).map (· +(l.length:Int))++x.elems.drop j)):=⟨_,fun _ _ _=>Iff.rfl⟩
   refine W_loop I1 x.elems.length ((hI1 _ _ _).2 ⟨0,by simp,by simp,hm48,hb8,by simpa using hE8⟩) ?_
   clear hE8 hm48 hb8 hE hch8 hr8 hst8
   rintro q1 f m9 hIn
   obtain ⟨j,hq1,rfl,hm9,hb9,hE9⟩:=(hI1 _ _ _).1 hIn
   clear hIn
   simp
   refine bbind_dec (fun hjl=>?_) fun hjl=>?_
   rotate_left
   ·have:j=x.elems.length:=by omega
    subst this
    simp at hE9
    simp
    exact (hJ1 _ _).2 ⟨by simp,hm9,hb9,by simpa using hE9⟩
   have hjl:j<x.elems.length:=by omega
   have hwj:=step64 (k:=j) (n:=x.elems.length) hjl (by omega)
   have hel:=hxg _ (List.getElem_mem hjl)
   have hlen9:j<((x.elems.take j).map (· +(l.length:Int))++x.elems.drop j).length:=by simp;omega
   have hge:((x.elems.take j).map (· +(l.length:Int))++x.elems.drop j)[j]=x.elems[j]:=by
    rw[List.getElem_append_right (by simp;omega)]
    simp[List.length_take,Nat.min_eq_left (Nat.le_of_lt hjl)]
   obtain ⟨bj,oj,hbj,hpj,hlj,hstj⟩:=hE9.at hlen9
   rw[hge] at hlj
   have hwv:IntKind.i64.wrap (x.elems[j]+(l.length:Int))=x.elems[j]+(l.length:Int):=wrap64 (by omega) (by omega)
   obtain ⟨m10,hst10,hch10,hE10⟩:=hstj (x.elems[j]+(l.length:Int))
   have hr9:=bx (own_read hb9) 2
   simp at hr9
   have hbj6:=(hE9.blk_lo hbj).1
   simp[hr9,hpj,hlj,hsL0,hwv,hst10,hwj]
   refine ⟨q1-1,by omega,(hI1 _ _ _).2 ⟨j+1,by omega,by simp,hch10.pre hm9 fun b hb e=>by omega,own_ch hb9 hch10 (by omega),?_⟩⟩
   have hset:((x.elems.take j).map (· +(l.length:Int))++x.elems.drop j).set j (x.elems[j]+(l.length:Int))=(x.elems.take (j+1)).map (· +(l.length:Int))++x.elems.drop (j+1):=by
    rw[List.set_append_right _ _ (by simp;omega),List.take_add_one,List.getElem?_eq_getElem hjl,List.map_append]
    simp[List.length_take,Nat.min_eq_left (Nat.le_of_lt hjl)]
    rw[List.drop_eq_getElem_cons hjl]
    rfl
   rw[hset] at hE10
   exact hE10
  intro f m9 hJ2
  obtain ⟨hf,hm9,hb9,hE9⟩:=(hJ1 _ _).1 hJ2
  clear hJ2 hJ1
  have hO9:=hO.mono hm9
  have hb9r:=bxW (own_read hb9) 6
  simp[readN] at hb9r
  have hfill:fillA [.int .i64 0,.int .i64 0,.nilslice,.nilslice,.int .i64 0,.bool false] [(0,6,.agg [.int .i64 x.kind,.int .i64 x.size,e2,nm,.int .i64 x.dims,.bool x.flex])]=some [.int .i64 x.kind,.int .i64 x.size,e2,nm,.int .i64 x.dims,.bool x.flex]:=by
   simp[fillA,setN,he2.1,hn1.1]
  simp[hf,hb9r,hfill]
  have hsc:=lit6 m9 [.int .i64 x.kind,.int .i64 x.size,e2,nm,.int .i64 x.dims,.bool x.flex] rfl none
  have hm910:m9<+:m9++ [ABlk.own [.int .i64 x.kind,.int .i64 x.size,e2,nm,.int .i64 x.dims,.bool x.flex] 39 none]:=List.prefix_append _ _
  have hob: ∀b,o.blk=some b→m2.length≤b∧b<m4.length:=fun b hb=>hO.blk_lo hb
  generalize m9++ [ABlk.own [.int .i64 x.kind,.int .i64 x.size,e2,nm,.int .i64 x.dims,.bool x.flex] 39 none]=m10 at*
  obtain ⟨o',m11,happ,hch11,hO11,_⟩:=(hO9.mono hm910).push (c:= [.int .i64 x.kind,.int .i64 x.size,e2,nm,.int .i64 x.dims,.bool x.flex]) (x:=shiftM l.length x) (by have:=(hm4.trans (hm9.trans hm910)).length_le;omega) (fun m' hc=>by
   refine ⟨e2,nm,rfl,?_,?_⟩
   ·exact ((hE9.mono hm910).ch hc fun b hb e=>by have:=(hE9.blk_lo hb).1;have:=hob b e;omega).ints
   ·exact hnm.mono (hc.pre (hm04.trans (hm9.trans hm910)) fun b hb e=>by have:=hob b e;have:=hm02.length_le;omega)) (by simp;omega)
  simp[hsc,happ,hw]
  refine ⟨q-1,by omega,(hI _ _ _).2 ⟨i+1,o',by omega,by simp,hch11.pre (hm4.trans (hm9.trans hm910)) fun b hb e=>by have:=hob b e;omega,?_⟩⟩
  rw[htk,List.map_append,←List.append_assoc]
  exact hO11
 intro f m4 hJ2
 obtain ⟨o,hf,hm4,hO⟩:=(hJ _ _).1 hJ2
 clear hJ2 hJ
 simp[hf]
 have hbl:(bothT l k).length=l.length+k.length:=by simp[bothT]
 refine C_of (k44 o (bothT l k) m4 hO.tab hg hT (fun x hx=>?_) (fun x hx=>?_)) ?_
 ·rcases List.mem_append.1 hx with h|h
  ·exact hsl x h
  ·obtain ⟨y,hy,rfl⟩:=List.mem_map.1 h
   have:=hsk y hy
   exact ⟨by simpa[shiftM] using this.1,this.2.1,this.2.2⟩
 ·rcases List.mem_append.1 hx with h|h
  ·exact okl.h64 x h
  ·obtain ⟨y,hy,rfl⟩:=List.mem_map.1 h
   have:=okk.h64 y hy
   simpa[shiftM] using this
 rintro v5 m5 ⟨hm5,ds,kd,hX,hD⟩
 have hwb:IntKind.i64.wrap ((l.length:Int)+b)=((l.length+b:Nat):Int):=by rw[wrap64 (by omega) (by omega)];omega
 obtain ⟨lb,hlb⟩: ∃lb:Nat,lb=l.length+b:=⟨_,rfl⟩
 rw[←hlb] at hwb ⊢
 obtain ⟨ba,oa,_,hpa,hla,_⟩:=hX.at (i:=a) (by rw[hD.len];omega)
 obtain ⟨bb,ob,_,hpb,hlb',_⟩:=hX.at (i:=lb) (by rw[hD.len];omega)
 have hsame:=(dense_same hD).eq (a:=a) (b:=lb) (by omega) (by omega)
 simp only[List.getD_eq_getElem?_getD,List.getElem?_eq_getElem (show a<ds.length by rw[hD.len];omega),List.getElem?_eq_getElem (show lb<ds.length by rw[hD.len];omega),Option.getD_some] at hsame
 simp[natI] at hla hlb'
 simp
 refine W_drawPR (by simp[maxDst]) rfl rfl ?_
 simp[hpa,hla,hsL0,hwb,hpb,hlb']
 intro m'' hm''
 refine ⟨hm02.trans (hm4.trans (hm5.trans hm'')),?_⟩
 rw[Bool.eq_iff_iff,decide_eq_true_iff,←hsame]
 simp
 omega
end Go.Proofs.YtlniliigcnedmaaGreatDoor
namespace Go.Proofs.YtlniliigcnedmaaGreatDoor
open Go Ax
open Relation
set_option maxRecDepth 100000
structure PutT (l:List Md) (zs:List Nat) (k:List Md) (q:Nat):Prop where
 ck:checkI k=0
 len:k.length≤l.length+1
 ge:l.length≤k.length
 ql:q<k.length
 rr: ∀a b,a<l.length→b<l.length→(RR k a=RR k b↔RR l a=RR l b)
 md: ∀a,a<l.length→mdAt k a=mdAt l a
 parts: ∀a j,a<l.length→(IsPart k a j↔IsPart l a j)
 dn: ∀z∈zs,∃j,IsBase k q j∧RR k j=RR k z
section
variable {k:List Md}
end
end Go.Proofs.YtlniliigcnedmaaGreatDoor
namespace Go.Proofs.YtlniliigcnedmaaGreatDoor
open Go Ax
open Relation
structure Sub (l:List Md) (f:Nat→Nat) (k:List Md):Prop where
 lt: ∀a,a<k.length→f a<l.length
 md: ∀a x,k[a]? =some x→l[f a]? =some {x with elems:=x.elems.map fun e=>((f e.toNat:Nat):Int)}
section
variable {l k:List Md} {f:Nat→Nat}
theorem step_lt {l:List Md} (hg:goodT l) {p:Md→Bool} {x y:Nat} (h:stepR l p x y):x<l.length∧y<l.length:=by
 obtain ⟨z,g1,_,g3⟩:=h
 have:=hg z (List.mem_of_getElem? g1) _ g3
 exact ⟨(List.getElem?_eq_some_iff.1 g1).1,by omega⟩
theorem Sub.at (h:Sub l f k) {a:Nat} (ha:a<k.length):mdAt l (f a)={mdAt k a with elems:=(mdAt k a).elems.map fun e=>((f e.toNat:Nat):Int)}:=by
 have:=h.md a k[a] (List.getElem?_eq_getElem ha)
 rw[mdAt_eq ha]
 unfold mdAt
 rw[this]
 rfl
theorem Sub.step (h:Sub l f k) (hg:goodT k) {a b:Nat} (ha:a<k.length):stepR l isU (f a) b↔ ∃c:Nat,b=f c∧stepR k isU a c:=by
 have hx:k[a]? =some k[a]:=List.getElem?_eq_getElem ha
 have hy:=h.md a _ hx
 constructor
 ·rintro ⟨x,h1,h2,h3⟩
  rw[hy] at h1
  simp only[Option.some.injEq] at h1
  subst h1
  obtain ⟨d,hd,he⟩:=List.mem_map.1 h3
  have:=hg k[a] (List.getElem_mem ha) d hd
  exact ⟨d.toNat,by omega,k[a],hx,h2,by rw[show ((d.toNat:Nat):Int)=d by omega];exact hd⟩
 ·rintro ⟨c,rfl,y,h1,h2,h3⟩
  rw[hx] at h1
  simp only[Option.some.injEq] at h1
  subst h1
  exact ⟨_,hy,h2,List.mem_map.2 ⟨c,h3,by simp⟩⟩
theorem Sub.part (h:Sub l f k) (hg:goodT k) {a j:Nat} (ha:a<k.length):IsPart l (f a) j↔ ∃c:Nat,j=f c∧IsPart k a c:=by
 have h1: ∀{b},TransGen (stepR l isU) (f a) b→ ∃c:Nat,b=f c∧c<k.length∧TransGen (stepR k isU) a c:=fun hh=>by
  induction hh with
  |single h'=>obtain ⟨c,g1,g2⟩:=(h.step hg ha).1 h';exact ⟨c,g1,(step_lt hg g2).2,.single g2⟩
  |tail _ h' ih=>
   obtain ⟨c,rfl,g0,g2⟩:=ih
   obtain ⟨d,g3,g4⟩:=(h.step hg g0).1 h'
   exact ⟨d,g3,(step_lt hg g4).2,.tail g2 g4⟩
 have h2: ∀{c},TransGen (stepR k isU) a c→TransGen (stepR l isU) (f a) (f c)∧c<k.length:=fun hh=>by
  induction hh with
  |single h'=>exact ⟨.single ((h.step hg ha).2 ⟨_,rfl,h'⟩),(step_lt hg h').2⟩
  |tail _ h' ih=>exact ⟨.tail ih.1 ((h.step hg ih.2).2 ⟨_,rfl,h'⟩),(step_lt hg h').2⟩
 constructor
 ·rintro ⟨g1,g2⟩
  obtain ⟨c,rfl,hc,g3⟩:=h1 g1
  exact ⟨c,rfl,g3,fun y hy=>by have:=g2 _ (h.md c y hy);exact this⟩
 ·rintro ⟨c,rfl,g1,g2⟩
  obtain ⟨g3,hc⟩:=h2 g1
  refine ⟨g3,fun y hy=>?_⟩
  have:=h.md c k[c] (List.getElem?_eq_getElem hc)
  rw[hy] at this
  simp only[Option.some.injEq] at this
  subst this
  exact g2 k[c] (List.getElem?_eq_getElem hc)
theorem bothL:(bothT l k).length=l.length+k.length:=by simp[bothT]
theorem bothHi {a:Nat}:(bothT l k)[l.length+a]? =(k[a]?).map (shiftM l.length):=by
 unfold bothT
 rw[List.getElem?_append_right (by omega),Nat.add_sub_cancel_left,List.getElem?_map]
theorem bothGood (hgl:goodT l) (hg:goodT k):goodT (bothT l k):=fun x hx e he=>by
 rw[bothL]
 rcases List.mem_append.1 hx with h|h
 ·have:=hgl x h e he;omega
 ·obtain ⟨y,hy,rfl⟩:=List.mem_map.1 h
  obtain ⟨d,hd,rfl⟩:=List.mem_map.1 he
  have:=hg y hy d hd
  omega
theorem mapE_id {n:Nat} {x:Md} (h: ∀e∈x.elems,0≤e∧e<n):{x with elems:=x.elems.map fun e=>((e.toNat:Nat):Int)}=x:=by
 have:x.elems.map (fun e=>((e.toNat:Nat):Int))=x.elems:=by
  conv=>rhs;rw[←List.map_id x.elems]
  exact List.map_congr_left fun e he=>by have:=h e he;show ((e.toNat:Nat):Int)=e;omega
 rw[this]
theorem Sub.app (hgl:goodT l) (r:List Md):Sub (l++r) (fun a=>a) l:=⟨fun a ha=>by simp;omega,fun a x hx=>by
 have ha:=(List.getElem?_eq_some_iff.1 hx).1
 rw[List.getElem?_append_left ha,hx,mapE_id (n:=l.length) (hgl x (List.mem_of_getElem? hx))]⟩
theorem Sub.lo (hgl:goodT l):Sub (bothT l k) (fun a=>a) l:=Sub.app hgl _
theorem Sub.hi (hg:goodT k):Sub (bothT l k) (fun a=>l.length+a) k:=⟨fun a ha=>by rw[bothL];omega,fun a x hx=>by
 rw[bothHi,hx]
 simp only[Option.map_some,shiftM,Option.some.injEq]
 congr 1
 exact List.map_congr_left fun e he=>by have:=hg x (List.mem_of_getElem? hx) e he;omega⟩
theorem bothT60 (hl:T13 l) (hk:T13 k) (hgl:goodT l) (hg:goodT k):T60 (bothT l k):=by
 have hll:=hl.len
 have hkl:=hk.len
 refine ⟨by rw[bothL];omega,fun _ x O h1 h2=>?_⟩
 rcases Nat.lt_or_ge x l.length with hx|hx
 ·exact hl.few hgl x O h1 fun j hj=>by
   obtain ⟨c,rfl,hc⟩:=((Sub.lo hgl).part hgl hx).1 (h2 j hj)
   exact hc
 ·obtain ⟨a,rfl⟩: ∃a,x=l.length+a:=⟨x-l.length,by omega⟩
  rcases Nat.lt_or_ge a k.length with ha|ha
  ·have h3: ∀j∈O,l.length≤j∧IsPart k a (j-l.length):=fun j hj=>by
    obtain ⟨c,rfl,hc⟩:=((Sub.hi hg).part hg ha).1 (h2 j hj)
    exact ⟨by omega,by rw[Nat.add_sub_cancel_left];exact hc⟩
   have h4:=hk.few hg a (O.map (· -l.length)) (by
    rw[List.nodup_iff_pairwise_ne,List.pairwise_map]
    refine List.Pairwise.imp_of_mem (fun {x y} hx hy hne e=>hne ?_) (List.nodup_iff_pairwise_ne.1 h1)
    have:=(h3 x hx).1
    have:=(h3 y hy).1
    omega) fun j hj=>by
     obtain ⟨y,hy,rfl⟩:=List.mem_map.1 hj
     exact (h3 y hy).2
   simpa using h4
  ·cases O with
   |nil=>simp
   |cons o O=>
    have:=part_in (h2 o (List.mem_cons_self ..))
    rw[bothL] at this
    omega
end
end Go.Proofs.YtlniliigcnedmaaGreatDoor
namespace Go.Proofs.YtlniliigcnedmaaGreatDoor
open Go Ax
open Relation
def withE (x:Md) (f:Nat→Nat):Md:={x with elems:=x.elems.map fun e=>((f e.toNat:Nat):Int)}
section
variable {l k:List Md} {f:Nat→Nat}
theorem Sub.mdE (h:Sub l f k) {a:Nat} {x:Md} (hx:k[a]? =some x):l[f a]? =some (withE x f):=h.md a x hx
theorem Sub.stepP (h:Sub l f k) (hg:goodT k) {p:Md→Bool} (hp: ∀x,p (withE x f)=p x) {a b:Nat} (ha:a<k.length):stepR l p (f a) b↔ ∃c:Nat,b=f c∧stepR k p a c:=by
 have hx:k[a]? =some k[a]:=List.getElem?_eq_getElem ha
 have hy:=h.mdE hx
 constructor
 ·rintro ⟨x,h1,h2,h3⟩
  rw[hy] at h1
  simp only[Option.some.injEq] at h1
  subst h1
  obtain ⟨d,hd,he⟩:=List.mem_map.1 h3
  have:=hg k[a] (List.getElem_mem ha) d hd
  exact ⟨d.toNat,by omega,k[a],hx,by rw[←hp];exact h2,by rw[show ((d.toNat:Nat):Int)=d by omega];exact hd⟩
 ·rintro ⟨c,rfl,y,h1,h2,h3⟩
  rw[hx] at h1
  simp only[Option.some.injEq] at h1
  subst h1
  exact ⟨_,hy,by rw[hp];exact h2,List.mem_map.2 ⟨c,h3,by simp⟩⟩
theorem Sub.tg (h:Sub l f k) (hg:goodT k) {p:Md→Bool} (hp: ∀x,p (withE x f)=p x) {a b:Nat} (ha:a<k.length) (ht:TransGen (stepR l p) (f a) b): ∃c:Nat,b=f c∧c<k.length∧TransGen (stepR k p) a c:=by
 induction ht with
 |single h'=>obtain ⟨c,g1,g2⟩:=(h.stepP hg hp ha).1 h';exact ⟨c,g1,(step_lt hg g2).2,.single g2⟩
 |tail _ h' ih=>
  obtain ⟨c,rfl,g0,g2⟩:=ih
  obtain ⟨d,g3,g4⟩:=(h.stepP hg hp g0).1 h'
  exact ⟨d,g3,(step_lt hg g4).2,.tail g2 g4⟩
theorem Sub.flexP (h:Sub l f k) (hg:goodT k) {b:Nat} (hf:FlexP l b): ∀{a},a<k.length→b=f a→FlexP k a:=by
 induction hf with
 |flex h1 h2 h3=>
  intro a ha e
  subst e
  have hx:k[a]? =some k[a]:=List.getElem?_eq_getElem ha
  rw[h.mdE hx] at h1
  simp only[Option.some.injEq] at h1
  subst h1
  exact .flex hx h2 h3
 |step h1 _ ih=>
  intro a ha e
  subst e
  obtain ⟨c,g1,g2⟩:=(h.stepP hg (p:=rowStruct) (fun _=>rfl) ha).1 h1
  exact .step g2 (ih (step_lt hg g2).2 g1)
theorem Sub.one (h:Sub l f k) {x:Md} (hx:oneI x k.length=0):oneI (withE x f) l.length=0:=by
 obtain ⟨h1,h2,h3,h4⟩:=oneI_zero hx
 have hs:shapeI (withE x f)=shapeI x:=by
  unfold shapeI shaped dimsOk sizeOk least most nNames withE
  simp only[List.length_map]
  rfl
 unfold oneI
 rw[hs,if_neg (by simpa using h1),if_neg,if_neg,if_neg]
 ·show ¬twiceB x.names=true
  rw[h4];simp
 ·show ¬(x.names.any fun s=> !wordB 97 122 s)=true
  rw[Bool.not_eq_true,List.any_eq_false]
  intro s hs
  simp[h3 s hs]
 ·rw[Bool.not_eq_true,List.any_eq_false]
  intro e he
  obtain ⟨d,hd,rfl⟩:=List.mem_map.1 he
  have:=h2 d hd
  have:=h.lt d.toNat (by omega)
  simp[outB]
  omega
theorem Sub.void (h:Sub l f k) {x:Md} (hxg: ∀e∈x.elems,0≤e∧e<(k.length:Int)) (hv: ¬voidsB k x=true): ¬voidsB l (withE x f)=true:=by
 have hve: ∀e∈x.elems,voidE l ((f e.toNat:Nat):Int)=voidE k e:=fun e he=>by
  have:=hxg e he
  have hx:k[e.toNat]? =some (k[e.toNat]'(by omega)):=List.getElem?_eq_getElem (by omega)
  unfold voidE
  rw[Int.toNat_natCast,h.mdE hx,hx]
  rfl
 intro hv2
 apply hv
 unfold voidsB at hv2 ⊢
 have e1:(withE x f).kind=x.kind:=rfl
 have e2:(withE x f).elems=x.elems.map fun e=>((f e.toNat:Nat):Int):=rfl
 rw[e1,e2] at hv2
 split at hv2
 ·cases hv2
 ·rename_i h12
  rw[if_neg h12]
  split at hv2
  ·rename_i h13
   rw[if_pos h13]
   rw[List.any_eq_true] at hv2 ⊢
   obtain ⟨e,he,hh⟩:=hv2
   rw[←List.map_dropLast] at he
   obtain ⟨d,hd,rfl⟩:=List.mem_map.1 he
   exact ⟨d,hd,by rw[←hve d (List.dropLast_subset _ hd)];exact hh⟩
  ·rename_i h13
   rw[if_neg h13]
   rw[List.any_eq_true] at hv2 ⊢
   obtain ⟨e,he,hh⟩:=hv2
   obtain ⟨d,hd,rfl⟩:=List.mem_map.1 he
   exact ⟨d,hd,by rw[←hve d hd];exact hh⟩
end
theorem check_cover {l:List Md} (hn:l.length≤512) (h: ∀i,i<l.length→ ∃(k:List Md) (f:Nat→Nat) (a:Nat),Sub l f k∧checkI k=0∧(∀a b,a<k.length→b<k.length→f a=f b→a=b)∧a<k.length∧i=f a):checkI l=0:=by
 have hy1: ∀(f:Nat→Nat) (x:Md),(!yinB (withE x f))= !yinB x:=fun _ _=>rfl
 have hy2: ∀(f:Nat→Nat) (x:Md),(!yangB (withE x f))= !yangB x:=fun f x=>by simp[yangB,withE]
 refine checkOk_iff.2 ⟨hn,fun y hy=>?_,?_,fun r hr hb=>?_,fun y hy hf' e he hp=>?_⟩
 ·obtain ⟨i,hi,rfl⟩:=List.mem_iff_getElem.1 hy
  obtain ⟨k,f,a,hS,hc,_,ha,rfl⟩:=h i hi
  have:=hS.mdE (List.getElem?_eq_getElem ha)
  rw[List.getElem?_eq_getElem hi] at this
  simp only[Option.some.injEq] at this
  rw[this]
  exact hS.one ((checkOk_iff.1 hc).one _ (List.getElem_mem ha))
 ·rw[List.any_eq_false]
  intro y hy
  obtain ⟨i,hi,rfl⟩:=List.mem_iff_getElem.1 hy
  obtain ⟨k,f,a,hS,hc,_,ha,rfl⟩:=h i hi
  have:=hS.mdE (List.getElem?_eq_getElem ha)
  rw[List.getElem?_eq_getElem hi] at this
  simp only[Option.some.injEq] at this
  rw[this]
  exact hS.void ((okT_of hc).good _ (List.getElem_mem ha)) (by have:=List.any_eq_false.1 (checkOk_iff.1 hc).void _ (List.getElem_mem ha);simpa using this)
 ·obtain ⟨k,f,a,hS,hc,hin,ha,rfl⟩:=h r hr
  have hg:=(okT_of hc).good
  rcases hb with hb|hb
  ·obtain ⟨c,h1,h2,h3⟩:=hS.tg hg (hy1 f) ha hb
   have:=hin _ _ ha h2 h1
   subst this
   exact (checkOk_iff.1 hc).bad a ha (.inl h3)
  ·obtain ⟨c,h1,h2,h3⟩:=hS.tg hg (hy2 f) ha hb
   have:=hin _ _ ha h2 h1
   subst this
   exact (checkOk_iff.1 hc).bad a ha (.inr h3)
 ·obtain ⟨i,hi,rfl⟩:=List.mem_iff_getElem.1 hy
  obtain ⟨k,f,a,hS,hc,_,ha,rfl⟩:=h i hi
  have hg:=(okT_of hc).good
  have:=hS.mdE (List.getElem?_eq_getElem ha)
  rw[List.getElem?_eq_getElem hi] at this
  simp only[Option.some.injEq] at this
  rw[this] at he hf'
  obtain ⟨d,hd,rfl⟩:=List.mem_map.1 he
  have hd2:=hg _ (List.getElem_mem ha) d hd
  refine (checkOk_iff.1 hc).flex _ (List.getElem_mem ha) hf' d hd ?_
  exact hS.flexP hg hp (by omega) (by simp)
theorem check_both {l k:List Md} (hl:checkI l=0) (hk:checkI k=0) (hn:l.length+k.length≤512):checkI (bothT l k)=0:=by
 refine check_cover (by rw[bothL];exact hn) fun i hi=>?_
 rw[bothL] at hi
 rcases Nat.lt_or_ge i l.length with h|h
 ·exact ⟨l,fun a=>a,i,Sub.lo (okT_of hl).good,hl,fun _ _ _ _ e=>e,h,rfl⟩
 ·exact ⟨k,fun a=>l.length+a,i-l.length,Sub.hi (okT_of hk).good,hk,fun _ _ _ _ e=>Nat.add_left_cancel e,by omega,(Nat.add_sub_cancel' h).symm⟩
end Go.Proofs.YtlniliigcnedmaaGreatDoor
namespace Go.Proofs.YtlniliigcnedmaaGreatDoor
open Go Ax
set_option maxRecDepth 100000
theorem w3 {args m R} (h:W Tryz.prog (.seq (.reg [qb 4 false]) (.kill [0,1] (.seq (.seq (.reg [qc 9 13 [],⟨some 10,.P (.un .not (.t 9)),none⟩]) (.kill [0,1,10] (.cond (.t 10) (.seq (.reg [qb 4 false]) .ret) .skip))) (.kill [0,1] (.seq (.seq (.reg [qv 11 0,qc 12 14 [(.t 11),(qz 12)],⟨some 13,.P (.un .not (.t 12)),none⟩]) (.kill [0,1,13] (.cond (.t 13) (.seq (.reg [qb 4 true]) .ret) .skip))) (.kill [0,1] (.seq (.reg [qv 15 0,qv 16 1,qc 17 15 [(.t 15),(.t 16)],qv 14 17,qx 18 14 0,qx 19 14 1,qv 5 18,qv 6 19]) (.kill [0,1,5,6] (.seq (.reg [qv 21 0,qv 22 1,qc 23 16 [(.t 21),(.t 22)],qv 20 23,qx 24 20 0,qx 25 20 1,qv 7 24,qv 8 25]) (.kill [5,6,7,8] (.seq (.reg [qv 26 5,qv 27 7,qo 28 .eql 26 27,qv 29 28,⟨some 30,.P (.mov (.t 6)),(some (29,true))⟩,⟨some 31,.P (.mov (.t 8)),(some (29,true))⟩,⟨some 32,.P (.bin .eql (.t 30) (.t 31)),(some (29,true))⟩,⟨some 33,.P (.pick (.t 29) (.t 32) (.c (.bool false))),none⟩,qv 4 33]) .ret))))))))))) (E [(.tmp 4)] R .mk) .mk (mat 34 (sArgs 0 args)) m) (hl:Nat.ble args.length 34=true:=by rfl):ACalls Tryz.prog 3 args m R:=walk mix (by kernel_rfl) (Nat.le_of_ble_eq_true hl) h
theorem w4 {args m R} (h:W Tryz.prog (.seq (.reg [qb 6 false]) (.kill [0,1,2] (.seq (.seq (.reg [qc 15 13 [],⟨some 16,.P (.un .not (.t 15)),none⟩]) (.kill [0,1,2,16] (.cond (.t 16) (.seq (.reg [qb 6 false]) .ret) .skip))) (.kill [0,1,2] (.seq (.seq (.reg [qv 17 0,qc 18 14 [(.t 17),(qz 12)],⟨some 19,.P (.un .not (.t 18)),none⟩]) (.kill [0,1,2,19] (.cond (.t 19) (.seq (.reg [qb 6 true]) .ret) .skip))) (.kill [0,1,2] (.seq (.reg [qv 21 0,qv 22 1,qv 23 2,qc 24 17 [(.t 21),(.t 22),(.t 23)],qv 20 24,qx 25 20 0,qx 26 20 1,qv 7 25,qv 8 26]) (.kill [0,1,2,7,8] (.seq (.reg [qv 28 0,qv 29 1,qv 30 2,qc 31 18 [(.t 28),(.t 29),(.t 30)],qv 27 31,qx 32 27 0,qx 33 27 1,qv 9 32,qv 10 33]) (.kill [0,1,2,7,8,9,10] (.seq (.reg [qv 35 0,qv 36 1,qv 37 2,qc 38 19 [(.t 35),(.t 36),(.t 37)],qv 34 38,qx 39 34 0,qx 40 34 1,qv 11 39,qv 12 40]) (.kill [0,1,2,7,8,9,10,11,12] (.seq (.reg [qv 42 0,qv 43 1,qv 44 2,qc 45 20 [(.t 42),(.t 43),(.t 44)],qv 41 45,qx 46 41 0,qx 47 41 1,qv 13 46,qv 14 47]) (.kill [7,8,9,10,11,12,13,14] (.seq (.reg [qv 48 7,qv 49 9,⟨some 50,.P (.eqB false (.t 48) (.t 49)),none⟩,qv 51 50,⟨some 52,.P (.mov (.t 8)),(some (51,true))⟩,⟨some 53,.P (.mov (.t 10)),(some (51,true))⟩,⟨some 54,.P (.bin .eql (.t 52) (.t 53)),(some (51,true))⟩,⟨some 55,.P (.pick (.t 51) (.t 54) (.c (.bool false))),none⟩,qv 56 55,⟨some 57,.P (.mov (.t 11)),(some (56,true))⟩,⟨some 58,.P (.mov (.t 13)),(some (56,true))⟩,⟨some 59,.P (.eqB false (.t 57) (.t 58)),(some (56,true))⟩,⟨some 60,.P (.pick (.t 56) (.t 59) (.c (.bool false))),none⟩,qv 61 60,⟨some 62,.P (.mov (.t 12)),(some (61,true))⟩,⟨some 63,.P (.mov (.t 14)),(some (61,true))⟩,⟨some 64,.P (.bin .eql (.t 62) (.t 63)),(some (61,true))⟩,⟨some 65,.P (.pick (.t 61) (.t 64) (.c (.bool false))),none⟩,qv 6 65]) .ret))))))))))))))) (E [(.tmp 6)] R .mk) .mk (mat 66 (sArgs 0 args)) m) (hl:Nat.ble args.length 66=true:=by rfl):ACalls Tryz.prog 4 args m R:=walk mix (by kernel_rfl) (Nat.le_of_ble_eq_true hl) h
theorem w8 {args m R} (h:W Tryz.prog (.seq (.reg [qb 2 false]) (.kill [0] (.seq (.seq (.reg [qc 9 13 [],⟨some 10,.P (.un .not (.t 9)),none⟩]) (.kill [0,10] (.cond (.t 10) (.seq (.reg [qb 2 false]) .ret) .skip))) (.kill [0] (.seq (.seq (.reg [qv 11 0,qc 12 14 [(.t 11),(qz 12)],⟨some 13,.P (.un .not (.t 12)),none⟩]) (.kill [0,13] (.cond (.t 13) (.seq (.reg [qb 2 true]) .ret) .skip))) (.kill [0] (.seq (.reg [qv 15 0,qc 16 28 [(.t 15)],qv 14 16,qx 17 14 0,qx 18 14 1,qx 19 14 2,qv 3 17,qv 4 18,qv 5 19]) (.kill [0,3,4,5] (.seq (.reg [qv 21 0,qc 22 29 [(.t 21)],qv 20 22,qx 23 20 0,qx 24 20 1,qx 25 20 2,qv 6 23,qv 7 24,qv 8 25]) (.kill [3,4,5,6,7,8] (.seq (.reg [qv 26 3,qv 27 6,qc 28 30 [(.t 26),(.t 27)],qv 29 28,⟨some 30,.P (.mov (.t 4)),(some (29,true))⟩,⟨some 31,.P (.mov (.t 7)),(some (29,true))⟩,⟨some 32,.C (.c (.func (.func 27) [] [])) [(.t 30),(.t 31)],(some (29,true))⟩,⟨some 33,.P (.pick (.t 29) (.t 32) (.c (.bool false))),none⟩,qv 34 33,⟨some 35,.P (.mov (.t 5)),(some (34,true))⟩,⟨some 36,.P (.mov (.t 8)),(some (34,true))⟩,⟨some 37,.P (.bin .eql (.t 35) (.t 36)),(some (34,true))⟩,⟨some 38,.P (.pick (.t 34) (.t 37) (.c (.bool false))),none⟩,qv 2 38]) .ret))))))))))) (E [(.tmp 2)] R .mk) .mk (mat 39 (sArgs 0 args)) m) (hl:Nat.ble args.length 39=true:=by rfl):ACalls Tryz.prog 8 args m R:=walk mix (by kernel_rfl) (Nat.le_of_ble_eq_true hl) h
theorem w9 {args m R} (h:W Tryz.prog (.seq (.reg [⟨some 3,.A (.box 49 (.t 0)),none⟩,qb 6 false]) (.kill [1,2,3] (.seq (.seq (.reg [qc 11 13 [],⟨some 12,.P (.un .not (.t 11)),none⟩]) (.kill [1,2,3,12] (.cond (.t 12) (.seq (.reg [qb 6 false]) .ret) .skip))) (.kill [1,2,3] (.seq (.seq (.reg [⟨some 13,.P (.faddr 0 (.t 3)),none⟩,ql 14 13,qc 15 14 [(.t 14),(qz 10)],⟨some 16,.P (.un .not (.t 15)),none⟩,qv 17 16,⟨some 18,.P (.faddr 1 (.t 3)),(some (17,false))⟩,⟨some 19,.R (.load 1 false (.t 18)),(some (17,false))⟩,⟨some 20,.C (.c (.func (.func 14) [] [])) [(.t 19),(qz 10)],(some (17,false))⟩,⟨some 21,.P (.un .not (.t 20)),(some (17,false))⟩,⟨some 22,.P (.pick (.t 17) (.c (.bool true)) (.t 21)),none⟩]) (.kill [1,2,3,22] (.cond (.t 22) (.seq (.reg [qb 6 true]) .ret) .skip))) (.kill [1,2,3] (.seq (.reg [⟨some 24,.P (.faddr 0 (.t 3)),none⟩,ql 25 24,qv 26 1,⟨some 27,.P (.faddr 1 (.t 3)),none⟩,ql 28 27,qv 29 2,qc 30 31 [(.t 25),(.t 26),(.t 28),(.t 29)],qv 23 30,qx 31 23 0,qx 32 23 1,qv 7 31,qv 8 32]) (.kill [1,2,3,7,8] (.seq (.reg [⟨some 34,.P (.faddr 0 (.t 3)),none⟩,ql 35 34,qv 36 1,⟨some 37,.P (.faddr 1 (.t 3)),none⟩,ql 38 37,qv 39 2,qc 40 32 [(.t 35),(.t 36),(.t 38),(.t 39)],qv 33 40,qx 41 33 0,qx 42 33 1,qv 9 41,qv 10 42]) (.kill [7,8,9,10] (.seq (.reg [qv 43 7,qv 44 9,⟨some 45,.P (.eqB false (.t 43) (.t 44)),none⟩,qv 46 45,⟨some 47,.P (.mov (.t 8)),(some (46,true))⟩,⟨some 48,.P (.mov (.t 10)),(some (46,true))⟩,⟨some 49,.P (.bin .eql (.t 47) (.t 48)),(some (46,true))⟩,⟨some 50,.P (.pick (.t 46) (.t 49) (.c (.bool false))),none⟩,qv 6 50]) .ret))))))))))) (E [(.tmp 6)] R .mk) .mk (mat 51 (sArgs 0 args)) m) (hl:Nat.ble args.length 51=true:=by rfl):ACalls Tryz.prog 9 args m R:=walk mix (by kernel_rfl) (Nat.le_of_ble_eq_true hl) h
theorem w13 {args m R} (h:W Tryz.prog (.seq (.reg [qb 0 false]) (.kill [] (.seq (.reg [⟨some 9,.A (.bslice 3 2 [(.int .i64 0)] [(0,(1,(qz 1))),(1,(1,(qz 2)))]),none⟩,⟨some 10,.A (.bslice 9 2 [(.str ⟨#[]⟩)] [(0,(1,(.c (.str ⟨#[118]⟩)))),(1,(1,(.c (.str ⟨#[110,101,120,116]⟩))))]),none⟩,⟨some 11,.P (.build [(.int .i64 0),(.int .i64 0),.nilslice,.nilslice,(.int .i64 0),(.bool false)] [(0,(1,(qz 11))),(2,(1,(.t 9))),(3,(1,(.t 10)))]),none⟩,⟨some 12,.P (.build [(.int .i64 0),(.int .i64 0),.nilslice,.nilslice,(.int .i64 0),(.bool false)] [(0,(1,(qz 3)))]),none⟩,⟨some 13,.A (.bslice 3 1 [(.int .i64 0)] [(0,(1,(qz 3)))]),none⟩,⟨some 14,.P (.build [(.int .i64 0),(.int .i64 0),.nilslice,.nilslice,(.int .i64 0),(.bool false)] [(0,(1,(qz 9))),(2,(1,(.t 13)))]),none⟩,⟨some 15,.A (.bslice 3 2 [(.int .i64 0)] [(0,(1,(qz 1))),(1,(1,(qz 4)))]),none⟩,⟨some 16,.A (.bslice 9 2 [(.str ⟨#[]⟩)] [(0,(1,(.c (.str ⟨#[118]⟩)))),(1,(1,(.c (.str ⟨#[110,101,120,116]⟩))))]),none⟩,⟨some 17,.P (.build [(.int .i64 0),(.int .i64 0),.nilslice,.nilslice,(.int .i64 0),(.bool false)] [(0,(1,(qz 11))),(2,(1,(.t 15))),(3,(1,(.t 16)))]),none⟩,⟨some 18,.A (.bslice 3 1 [(.int .i64 0)] [(0,(1,(qz 0)))]),none⟩,⟨some 19,.P (.build [(.int .i64 0),(.int .i64 0),.nilslice,.nilslice,(.int .i64 0),(.bool false)] [(0,(1,(qz 9))),(2,(1,(.t 18)))]),none⟩,⟨some 20,.A (.bslice 39 5 [(.int .i64 0),(.int .i64 0),.nilslice,.nilslice,(.int .i64 0),(.bool false)] [(0,(6,(.t 11))),(6,(6,(.t 12))),(12,(6,(.t 14))),(18,(6,(.t 17))),(24,(6,(.t 19)))]),none⟩,qv 1 20]) (.kill [1] (.seq (.reg [qv 22 1,qc 23 15 [(.t 22),(qz 2)],qv 21 23,qx 24 21 0,qx 25 21 1,qv 2 24,qv 3 25]) (.kill [1,2,3] (.seq (.reg [qv 27 1,qc 28 17 [(.t 27),(qz 0),(qz 3)],qv 26 28,qx 29 26 0,qx 30 26 1,qv 4 29,qv 5 30]) (.kill [1,2,3,4,5] (.seq (.reg [qv 32 1,qc 33 28 [(.t 32)],qv 31 33,qx 34 31 0,qx 35 31 1,qx 36 31 2,qv 6 34,qv 7 35,qv 8 36]) (.kill [2,3,4,5,6,7,8] (.seq (.reg [qv 37 2,⟨some 38,.P (.bin .eql (.t 37) (.c (.str ⟨#[82,69,70,32,83,84,82,85,67,84,40,73,78,84,32,118,44,32,35,48,32,110,101,120,116,41]⟩))),none⟩,qv 39 38,⟨some 40,.P (.mov (.t 3)),(some (39,true))⟩,⟨some 41,.P (.mov (.t 5)),(some (39,true))⟩,⟨some 42,.P (.bin .add (.t 40) (.t 41)),(some (39,true))⟩,⟨some 43,.P (.mov (.t 8)),(some (39,true))⟩,⟨some 44,.P (.bin .add (.t 42) (.t 43)),(some (39,true))⟩,⟨some 45,.P (.bin .eql (.t 44) (qz 0)),(some (39,true))⟩,⟨some 46,.P (.pick (.t 39) (.t 45) (.c (.bool false))),none⟩,qv 47 46,⟨some 48,.P (.mov (.t 4)),(some (47,true))⟩,⟨some 49,.P (.pick (.t 47) (.t 48) (.c (.bool false))),none⟩,qv 50 49,⟨some 51,.P (.mov (.t 6)),(some (50,true))⟩,⟨some 52,.P (.len (.t 51)),(some (50,true))⟩,⟨some 53,.P (.bin .eql (.t 52) (qz 3)),(some (50,true))⟩,⟨some 54,.P (.pick (.t 50) (.t 53) (.c (.bool false))),none⟩,qv 55 54,⟨some 56,.P (.mov (.t 7)),(some (55,true))⟩,⟨some 57,.A (.bslice 3 5 [(.int .i64 0)] [(0,(1,(qz 2))),(1,(1,(qz 0))),(2,(1,(qz 1))),(3,(1,(qz 2))),(4,(1,(qz 1)))]),(some (55,true))⟩,⟨some 58,.C (.c (.func (.func 27) [] [])) [(.t 56),(.t 57)],(some (55,true))⟩,⟨some 59,.P (.pick (.t 55) (.t 58) (.c (.bool false))),none⟩,qv 0 59]) .ret))))))))))) (E [(.tmp 0)] R .mk) .mk (mat 60 (sArgs 0 args)) m) (hl:Nat.ble args.length 60=true:=by rfl):ACalls Tryz.prog 13 args m R:=walk mix (by kernel_rfl) (Nat.le_of_ble_eq_true hl) h
theorem w15 {args m R} (h:W Tryz.prog (.seq (.reg [⟨some 4,.P (.mov (.c (.str ⟨#[]⟩))),none⟩,qi 5 0]) (.kill [0,1] (.seq (.seq (.reg [qv 8 0,qv 9 1,⟨some 10,.A (.bslice 3 1 [(.int .i64 0)] [(0,(1,(.t 9)))]),none⟩,qc 11 43 [(.t 8),(.t 10)],qv 6 11]) (.kill [0,1,6] (.seq (.reg [qv 12 6,qk 13 .neq 12 0]) (.kill [0,1,6,13] (.cond (.t 13) (.seq (.reg [qv 14 6,⟨some 4,.P (.mov (.c (.str ⟨#[]⟩))),none⟩,qv 5 14]) .ret) .skip))))) (.kill [0,1] (.seq (.reg [qv 15 0,qv 16 0,qc 17 44 [(.t 16)],⟨some 18,.W .mkmap,none⟩,⟨some 19,.P (.build [.nilptr,.nilslice,.nilslice,.nilslice,.nilmap] [(2,(1,(.t 15))),(3,(1,(.t 17))),(4,(1,(.t 18)))]),none⟩,⟨some 20,.A (.box 71 (.t 19)),none⟩,qv 7 20]) (.kill [1,7] (.seq (.reg [qv 21 7,qv 22 1,qc 23 45 [(.t 21),(.t 22)]]) (.kill [7] (.seq (.reg [qv 24 7,⟨some 25,.P (.nilck (.t 24)),none⟩,⟨some 26,.P (.faddr 0 (.t 25)),none⟩,qc 27 46 [(.t 26)],qv 4 27,qi 5 0]) .ret))))))))) (E [(.tmp 4),(.tmp 5)] R .mk) .mk (mat 28 (sArgs 0 args)) m) (hl:Nat.ble args.length 28=true:=by rfl):ACalls Tryz.prog 15 args m R:=walk mix (by kernel_rfl) (Nat.le_of_ble_eq_true hl) h
theorem w20 {args m R} (h:W Tryz.prog (.seq (.reg [qb 6 false,qi 7 0]) (.kill [0,1,2] (.seq (.seq (.reg [qv 10 0,qv 11 1,qv 12 2,⟨some 13,.A (.bslice 3 2 [(.int .i64 0)] [(0,(1,(.t 11))),(1,(1,(.t 12)))]),none⟩,qc 14 47 [(.t 10),(.t 13)],qv 8 14]) (.kill [0,1,2,8] (.seq (.reg [qv 15 8,qk 16 .neq 15 0]) (.kill [0,1,2,8,16] (.cond (.t 16) (.seq (.reg [qv 17 8,qb 6 false,qv 7 17]) .ret) .skip))))) (.kill [0,1,2] (.seq (.reg [qv 18 0,qc 19 48 [(.t 18)],qv 9 19]) (.kill [1,2,9] (.seq (.draw true [qv 20 9,qv 21 1,qa 22 1 20 21,ql 23 22,qv 24 9,qv 25 2,qa 26 1 24 25,ql 27 26,qo 28 .lss 23 27,qv 6 28,qi 7 0] [[],[],[],[],[],[],[],[],[],[],[]] [[],[],[],[],[],[],[],[],[],[],[]] [0,1,2,3,4,5,6,7,8,9,10]) .ret))))))) (E [(.tmp 6),(.tmp 7)] R .mk) .mk (mat 29 (sArgs 0 args)) m) (hl:Nat.ble args.length 29=true:=by rfl):ACalls Tryz.prog 20 args m R:=walk mix (by kernel_rfl) (Nat.le_of_ble_eq_true hl) h
end Go.Proofs.YtlniliigcnedmaaGreatDoor
namespace Go.Proofs.YtlniliigcnedmaaGreatDoor
open Go Ax
set_option maxRecDepth 100000
theorem w29 {args m R} (h:W Tryz.prog (.seq (.reg [⟨some 2,.P (.mov (.c .nilslice)),none⟩,⟨some 3,.P (.mov (.c .nilslice)),none⟩,qi 4 0]) (.kill [0] (.seq (.seq (.reg [qv 16 0,qc 17 59 [(.t 16)],qv 5 17]) (.kill [0,5] (.seq (.reg [qv 18 5,qk 19 .neq 18 0]) (.kill [0,5,19] (.cond (.t 19) (.seq (.reg [qv 20 5,⟨some 2,.P (.mov (.c .nilslice)),none⟩,⟨some 3,.P (.mov (.c .nilslice)),none⟩,qv 4 20]) .ret) .skip))))) (.kill [0] (.seq (.reg [qv 21 0,qc 22 48 [(.t 21)],qv 6 22]) (.kill [0,6] (.seq (.reg [qv 23 0,qn 24 23,⟨some 25,.A (.mkslice 3 8 [(.int .i64 0)] (.t 24) (.t 24)),none⟩,qv 7 25]) (.kill [0,6,7] (.seq (.seq (.reg [qi 8 0]) (.block 0 (.kill [0,6,7,8] (.loop (.fin [0,6,7,8] (.seq (.seq (.reg [qv 26 8,qv 27 0,qn 28 27,qo 29 .lss 26 28]) (.kill [0,6,7,8,29] (.cond (.t 29) .skip (.exit 0)))) (.kill [0,6,7,8] (.seq (.block 1 (.seq (.reg [⟨some 9,.P (.mov (.c .nilslice)),none⟩]) (.seq (.seq (.reg [qi 10 0]) (.block 2 (.kill [0,6,7,8,9,10] (.loop (.fin [0,6,7,8,9,10] (.seq (.seq (.reg [qv 32 10,qv 33 0,qn 34 33,qo 35 .lss 32 34]) (.kill [0,6,7,8,9,10,35] (.cond (.t 35) .skip (.exit 2)))) (.kill [0,6,7,8,9,10] (.seq (.block 3 (.seq (.draw true [qv 38 6,qv 39 10,qa 40 1 38 39,ql 41 40,qv 42 6,qv 43 8,qa 44 1 42 43,ql 45 44,qo 46 .lss 41 45] [[],[],[],[],[],[],[],[],[]] [[],[],[],[],[],[],[],[],[]] [0,1,2,3,4,5,6,7,8]) (.kill [0,6,7,8,9,10,46] (.cond (.t 46) (.reg [qv 47 9,qv 48 10,⟨some 49,.A (.bslice 3 1 [(.int .i64 0)] [(0,(1,(.t 48)))]),none⟩,⟨some 50,.W (.append 1 8 3 false (.t 47) (.t 49)),none⟩,qv 9 50]) .skip)))) (.kill [0,6,7,8,9,10] (.reg [qv 36 10,qk 37 .add 36 1,qv 10 37])))))))))) (.kill [0,6,7,8,9] (.reg [qv 51 7,qv 52 8,qv 53 9,qv 54 6,qc 55 55 [(.t 53),(.t 54)],qn 56 55,qa 57 1 51 52,⟨none,.W (.store 1 (.t 57) (.t 56)),none⟩]))))) (.kill [0,6,7,8] (.reg [qv 30 8,qk 31 .add 30 1,qv 8 31])))))))))) (.kill [0,6,7] (.seq (.reg [⟨some 11,.P (.mov (.c .nilslice)),none⟩]) (.seq (.seq (.reg [qi 12 0]) (.block 4 (.kill [0,6,7,11,12] (.loop (.fin [0,6,7,11,12] (.seq (.seq (.reg [qv 58 12,qv 59 0,qn 60 59,qo 61 .lss 58 60]) (.kill [0,6,7,11,12,61] (.cond (.t 61) .skip (.exit 4)))) (.kill [0,6,7,11,12] (.seq (.block 5 (.seq (.reg [qi 13 0]) (.block 6 (.kill [0,6,7,11,12,13] (.loop (.fin [0,6,7,11,12,13] (.seq (.seq (.reg [qv 64 13,qv 65 0,qn 66 65,qo 67 .lss 64 66]) (.kill [0,6,7,11,12,13,67] (.cond (.t 67) .skip (.exit 6)))) (.kill [0,6,7,11,12,13] (.seq (.block 7 (.seq (.seq (.reg [qv 70 7,qv 71 13,qa 72 1 70 71,ql 73 72,qv 74 12,qo 75 .neq 73 74]) (.kill [0,6,7,11,12,13,75] (.cond (.t 75) (.exit 7) .skip))) (.kill [0,6,7,11,12,13] (.seq (.reg [qv 76 0,qv 77 13,qa 78 6 76 77,⟨some 79,.R (.load 6 true (.t 78)),none⟩,qc 80 60 [(.t 79)],⟨some 14,.A (.alloc 39 [(.int .i64 0),(.int .i64 0),.nilslice,.nilslice,(.int .i64 0),(.bool false)]),none⟩,⟨none,.W (.store 6 (.t 14) (.t 80)),none⟩]) (.kill [0,6,7,11,12,13,14] (.seq (.seq (.reg [⟨some 81,.P (.faddr 0 (.t 14)),none⟩,ql 82 81,qk 83 .eql 82 12]) (.kill [0,6,7,11,12,13,14,83] (.cond (.t 83) (.seq (.reg [qv 84 0,qv 85 13,qc 86 56 [(.t 84),(.t 85)],qv 87 6,qc 88 55 [(.t 86),(.t 87)],⟨some 89,.P (.faddr 2 (.t 14)),none⟩,⟨none,.W (.store 1 (.t 89) (.t 88)),none⟩]) (.kill [0,6,7,11,12,14] (.seq (.reg [⟨some 90,.P (.faddr 2 (.t 14)),none⟩,ql 91 90,qn 92 91,qk 93 .lss 92 2]) (.kill [0,6,7,11,12,14,93] (.cond (.t 93) (.seq (.reg [⟨some 2,.P (.mov (.c .nilslice)),none⟩,⟨some 3,.P (.mov (.c .nilslice)),none⟩,qi 4 14]) .ret) .skip))))) .skip))) (.kill [0,6,7,11,12,14] (.seq (.seq (.reg [qi 15 0]) (.block 8 (.kill [0,6,7,11,12,14,15] (.loop (.fin [0,6,7,11,12,14,15] (.seq (.seq (.reg [qv 94 15,⟨some 95,.P (.faddr 2 (.t 14)),none⟩,ql 96 95,qn 97 96,qo 98 .lss 94 97]) (.kill [0,6,7,11,12,14,15,98] (.cond (.t 98) .skip (.exit 8)))) (.kill [0,6,7,11,12,14,15] (.seq (.block 9 (.draw true [⟨some 101,.P (.faddr 2 (.t 14)),none⟩,ql 102 101,qv 103 15,qv 104 7,⟨some 105,.P (.faddr 2 (.t 14)),none⟩,ql 106 105,qv 107 15,qa 108 1 106 107,ql 109 108,qa 110 1 104 109,ql 111 110,qa 112 1 102 103,⟨none,.W (.store 1 (.t 112) (.t 111)),none⟩] [[],[],[],[],[],[],[],[],[],[],[],[],[]] [[],[],[],[],[],[],[],[],[],[],[],[],[]] [0,1,2,3,4,5,6,7,8,9,10,11,12])) (.kill [0,6,7,11,12,14,15] (.reg [qv 99 15,qk 100 .add 99 1,qv 15 100])))))))))) (.kill [0,6,7,11,12,14] (.seq (.reg [qv 113 11,⟨some 114,.R (.load 6 true (.t 14)),none⟩,⟨some 115,.A (.bslice 39 1 [(.int .i64 0),(.int .i64 0),.nilslice,.nilslice,(.int .i64 0),(.bool false)] [(0,(6,(.t 114)))]),none⟩,⟨some 116,.W (.append 6 80 39 false (.t 113) (.t 115)),none⟩,qv 11 116]) (.exit 6))))))))))) (.kill [0,6,7,11,12,13] (.reg [qv 68 13,qk 69 .add 68 1,qv 13 69]))))))))))) (.kill [0,6,7,11,12] (.reg [qv 62 12,qk 63 .add 62 1,qv 12 63])))))))))) (.kill [7,11] (.seq (.reg [qv 117 11,qv 118 7,qv 2 117,qv 3 118,qi 4 0]) .ret)))))))))))))) (E [(.tmp 2),(.tmp 3),(.tmp 4)] R .mk) .mk (mat 119 (sArgs 0 args)) m) (hl:Nat.ble args.length 119=true:=by rfl):ACalls Tryz.prog 29 args m R:=walk mix (by kernel_rfl) (Nat.le_of_ble_eq_true hl) h
abbrev h29_0 (t0 t6 t7 t8:AVal):AFrame:=mat 119 [(0,t0),(6,t6),(7,t7),(8,t8)]
abbrev h29_1 (t0 t6 t7 t8 t9 t10:AVal):AFrame:=mat 119 [(0,t0),(6,t6),(7,t7),(8,t8),(9,t9),(10,t10)]
abbrev h29_2 (t0 t6 t7 t11 t12:AVal):AFrame:=mat 119 [(0,t0),(6,t6),(7,t7),(11,t11),(12,t12)]
abbrev h29_3 (t0 t6 t7 t11 t12 t13:AVal):AFrame:=mat 119 [(0,t0),(6,t6),(7,t7),(11,t11),(12,t12),(13,t13)]
abbrev h29_4 (t0 t6 t7 t11 t12 t14 t15:AVal):AFrame:=mat 119 [(0,t0),(6,t6),(7,t7),(11,t11),(12,t12),(14,t14),(15,t15)]
theorem w32 {args m R} (h:W Tryz.prog (.seq (.reg [qb 8 false,qi 9 0]) (.kill [0,1,2,3] (.seq (.seq (.reg [qv 12 0,qc 13 59 [(.t 12)],qv 10 13]) (.kill [0,1,2,3,10] (.seq (.reg [qv 14 10,qk 15 .neq 14 0]) (.kill [0,1,2,3,10,15] (.cond (.t 15) (.seq (.reg [qv 16 10,qb 8 false,qv 9 16]) .ret) .skip))))) (.kill [0,1,2,3] (.seq (.seq (.reg [qv 17 2,qc 18 59 [(.t 17)],qv 11 18]) (.kill [0,1,2,3,11] (.seq (.reg [qv 19 11,qk 20 .neq 19 0]) (.kill [0,1,2,3,11,20] (.cond (.t 20) (.seq (.reg [qv 21 11,qb 8 false,qv 9 21]) .ret) .skip))))) (.kill [0,1,2,3] (.seq (.seq (.reg [qv 22 0,qv 23 1,qc 24 65 [(.t 22),(.t 23)],⟨some 25,.P (.un .not (.t 24)),none⟩,qv 26 25,⟨some 27,.P (.mov (.t 2)),(some (26,false))⟩,⟨some 28,.P (.mov (.t 3)),(some (26,false))⟩,⟨some 29,.C (.c (.func (.func 65) [] [])) [(.t 27),(.t 28)],(some (26,false))⟩,⟨some 30,.P (.un .not (.t 29)),(some (26,false))⟩,⟨some 31,.P (.pick (.t 26) (.c (.bool true)) (.t 30)),none⟩]) (.kill [0,1,2,3,31] (.cond (.t 31) (.seq (.reg [qb 8 false,qi 9 11]) .ret) .skip))) (.kill [0,1,2,3] (.seq (.seq (.reg [qv 32 0,qn 33 32,qv 34 2,qn 35 34,qo 36 .add 33 35,qk 37 .gtr 36 512]) (.kill [0,1,2,3,37] (.cond (.t 37) (.seq (.reg [qb 8 false,qi 9 3]) .ret) .skip))) (.kill [0,1,2,3] (.seq (.reg [qv 38 0,qv 39 2,qc 40 66 [(.t 38),(.t 39)],qv 41 1,qv 42 3,qv 43 0,qn 44 43,qo 45 .add 42 44,qc 46 18 [(.t 40),(.t 41),(.t 45)],qx 47 46 0,qx 48 46 1,qv 8 47,qv 9 48]) .ret))))))))))) (E [(.tmp 8),(.tmp 9)] R .mk) .mk (mat 49 (sArgs 0 args)) m) (hl:Nat.ble args.length 49=true:=by rfl):ACalls Tryz.prog 32 args m R:=walk mix (by kernel_rfl) (Nat.le_of_ble_eq_true hl) h
theorem w45 {args m R} (h:W Tryz.prog (.seq (.reg [qv 8 0,⟨some 9,.P (.nilck (.t 8)),none⟩,⟨some 10,.P (.faddr 2 (.t 9)),none⟩,ql 11 10,qv 12 1,qa 13 6 11 12,⟨some 14,.R (.load 6 true (.t 13)),none⟩,⟨some 4,.A (.alloc 39 [(.int .i64 0),(.int .i64 0),.nilslice,.nilslice,(.int .i64 0),(.bool false)]),none⟩,⟨none,.W (.store 6 (.t 4) (.t 14)),none⟩]) (.kill [0,1,4] (.seq (.seq (.reg [⟨some 15,.P (.faddr 0 (.t 4)),none⟩,ql 16 15,qk 17 .lss 16 9]) (.kill [0,1,4,17] (.cond (.t 17) (.seq (.draw2 true [qv 18 0,⟨some 19,.P (.nilck (.t 18)),none⟩,⟨some 20,.P (.faddr 0 (.t 19)),none⟩,⟨some 21,.W .mkmap,none⟩,⟨none,.W (.mapset (.t 21) (.c (.int .i64 (-1))) (.c (.str ⟨#[83,72,79,82,84,32]⟩))),none⟩,⟨none,.W (.mapset (.t 21) (qz 1) (.c (.str ⟨#[76,79,78,71,32]⟩))),none⟩,qv 22 21,⟨some 23,.P (.faddr 1 (.t 4)),none⟩,ql 24 23,⟨some 25,.R (.lookup (.str ⟨#[]⟩) false (.t 22) (.t 24)),none⟩,⟨some 26,.P (.faddr 0 (.t 4)),none⟩,ql 27 26,⟨some 28,.P (.iaddrA 9 1 (.c (.gptr 0 0)) (.t 27)),none⟩,ql 29 28,qo 30 .add 25 29,qc 31 88 [(.t 20),(.t 30)]] [[],[],[],[],[],[],[],[],[],[],[],[],[],[],[],[]] [[],[],[],[8,11,13],[8,11,13],[8,11,13],[],[],[],[],[],[],[],[],[],[]] [0,1,2,7,8,10,11,12,13,3,4,5,6,9,14,15] [0,1,2,7,8,10,11,12,13,3,5,4,6,9,14,15]) .ret) .skip))) (.kill [0,1,4] (.seq (.seq (.draw true [qv 33 0,⟨some 34,.P (.nilck (.t 33)),none⟩,⟨some 35,.P (.faddr 4 (.t 34)),none⟩,ql 36 35,qv 37 0,⟨some 38,.P (.nilck (.t 37)),none⟩,⟨some 39,.P (.faddr 3 (.t 38)),none⟩,ql 40 39,qv 41 1,qa 42 1 40 41,ql 43 42,⟨some 44,.R (.lookup (.int .i64 0) true (.t 36) (.t 43)),none⟩,qv 32 44,qx 45 32 0,qx 46 32 1,qv 5 45,qv 6 46] [[],[],[],[],[],[],[],[],[],[],[],[],[],[],[],[],[]] [[],[],[],[],[],[],[],[],[],[],[],[],[],[],[],[],[]] [0,1,2,3,4,5,6,7,8,9,10,11,12,13,14,15,16]) (.kill [0,1,4,5,6] (.seq (.reg [qv 47 6]) (.kill [0,1,4,5,47] (.cond (.t 47) (.seq (.draw true [qv 48 0,⟨some 49,.P (.nilck (.t 48)),none⟩,⟨some 50,.P (.faddr 0 (.t 49)),none⟩,qv 51 5,qc 52 89 [(.t 51)],⟨some 53,.P (.bin .add (.c (.str ⟨#[35]⟩)) (.t 52)),none⟩,qc 54 88 [(.t 50),(.t 53)]] [[],[],[],[],[],[4],[4]] [[],[],[],[],[],[],[]] [0,1,2,3,4,5,6]) .ret) .skip))))) (.kill [0,1,4] (.seq (.draw true [qv 55 0,⟨some 56,.P (.nilck (.t 55)),none⟩,⟨some 57,.P (.faddr 4 (.t 56)),none⟩,ql 58 57,qv 59 0,⟨some 60,.P (.nilck (.t 59)),none⟩,⟨some 61,.P (.faddr 3 (.t 60)),none⟩,ql 62 61,qv 63 1,qa 64 1 62 63,ql 65 64,qv 66 0,⟨some 67,.P (.nilck (.t 66)),none⟩,⟨some 68,.P (.faddr 4 (.t 67)),none⟩,ql 69 68,⟨some 70,.R (.rk .mlen (.t 69)),none⟩,⟨none,.W (.mapset (.t 58) (.t 65) (.t 70)),none⟩] [[],[],[],[],[],[],[],[],[],[],[],[],[],[],[],[],[]] [[],[],[],[],[],[],[],[],[],[],[],[],[],[],[],[],[]] [0,1,2,3,4,5,6,7,8,9,10,11,12,13,14,15,16]) (.kill [0,1,4] (.seq (.seq (.reg [⟨some 71,.P (.faddr 0 (.t 4)),none⟩,ql 72 71]) (.kill [0,1,4,72] (.block 0 (.seq (.reg [qk 74 .eql 72 9,qv 73 74]) (.kill [0,1,4,72,73] (.cond (.t 73) (.reg [qv 75 0,⟨some 76,.P (.nilck (.t 75)),none⟩,⟨some 77,.P (.faddr 0 (.t 76)),none⟩,⟨some 78,.C (.c (.func (.func 88) [] [])) [(.t 77),(.c (.str ⟨#[82,69,70,32]⟩))],none⟩]) (.seq (.reg [qk 80 .eql 72 10,qv 79 80]) (.kill [0,1,4,72,79] (.cond (.t 79) (.seq (.seq (.reg [⟨some 81,.P (.faddr 5 (.t 4)),none⟩,ql 82 81]) (.kill [0,4,82] (.cond (.t 82) (.reg [qv 83 0,⟨some 84,.P (.nilck (.t 83)),none⟩,⟨some 85,.P (.faddr 0 (.t 84)),none⟩,⟨some 86,.C (.c (.func (.func 88) [] [])) [(.t 85),(.c (.str ⟨#[70,76,69,88,32]⟩))],none⟩]) .skip))) (.kill [0,4] (.draw true [qv 87 0,⟨some 88,.P (.nilck (.t 87)),none⟩,⟨some 89,.P (.faddr 0 (.t 88)),none⟩,⟨some 90,.P (.faddr 4 (.t 4)),none⟩,ql 91 90,qk 92 .sub 91 1,⟨some 93,.C (.c (.func (.func 69) [] [])) [(.c (.str ⟨#[44]⟩)),(.t 92)],none⟩,⟨some 94,.P (.bin .add (.c (.str ⟨#[91]⟩)) (.t 93)),none⟩,⟨some 95,.P (.bin .add (.t 94) (.c (.str ⟨#[93]⟩))),none⟩,qc 96 88 [(.t 89),(.t 95)]] [[],[],[],[],[],[],[],[6],[6],[6]] [[],[],[],[],[],[],[],[],[],[]] [0,1,2,3,4,5,6,7,8,9]))) (.seq (.reg [qk 98 .eql 72 11,qv 97 98]) (.kill [0,1,4,72,97] (.cond (.t 97) (.seq (.reg [qv 99 0,⟨some 100,.P (.nilck (.t 99)),none⟩,⟨some 101,.P (.faddr 0 (.t 100)),none⟩,⟨some 102,.C (.c (.func (.func 88) [] [])) [(.t 101),(.c (.str ⟨#[83,84,82,85,67,84]⟩))],none⟩]) (.kill [0,4] (.seq (.reg [qv 103 0,⟨some 104,.P (.faddr 2 (.t 4)),none⟩,ql 105 104,⟨some 106,.P (.faddr 3 (.t 4)),none⟩,ql 107 106,qc 108 90 [(.t 103),(.t 105),(.t 107)]]) .ret))) (.seq (.reg [qk 110 .eql 72 12,qv 109 110]) (.kill [0,1,4,72,109] (.cond (.t 109) (.seq (.reg [qv 111 0,⟨some 112,.P (.nilck (.t 111)),none⟩,⟨some 113,.P (.faddr 0 (.t 112)),none⟩,⟨some 114,.C (.c (.func (.func 88) [] [])) [(.t 113),(.c (.str ⟨#[85,78,73,79,78]⟩))],none⟩]) (.kill [0,1] (.seq (.draw true [qv 115 0,qv 116 0,⟨some 117,.P (.nilck (.t 116)),none⟩,⟨some 118,.P (.faddr 2 (.t 117)),none⟩,ql 119 118,qv 120 1,qv 121 0,⟨some 122,.P (.nilck (.t 121)),none⟩,⟨some 123,.P (.faddr 3 (.t 122)),none⟩,ql 124 123,qc 125 54 [(.t 119),(.t 120),(.t 124)],qc 126 90 [(.t 115),(.t 125),(.c .nilslice)]] [[],[],[],[],[],[],[],[],[],[],[],[10]] [[],[],[],[],[],[],[],[],[],[],[],[]] [0,1,2,3,4,5,6,7,8,9,10,11]) .ret))) (.seq (.reg [qk 128 .eql 72 13,qv 127 128]) (.kill [0,4,127] (.cond (.t 127) (.seq (.reg [qv 129 0,⟨some 130,.P (.nilck (.t 129)),none⟩,⟨some 131,.P (.faddr 0 (.t 130)),none⟩,⟨some 132,.C (.c (.func (.func 88) [] [])) [(.t 131),(.c (.str ⟨#[80,82,79,67]⟩))],none⟩]) (.kill [0,4] (.seq (.seq (.reg [⟨some 133,.P (.faddr 2 (.t 4)),none⟩,ql 134 133,qn 135 134,qk 136 .sub 135 1,qv 7 136]) (.kill [0,4,7] (.seq (.reg [qv 137 7,qk 138 .gtr 137 0]) (.kill [0,4,7,138] (.cond (.t 138) (.reg [qv 139 0,⟨some 140,.P (.faddr 2 (.t 4)),none⟩,ql 141 140,qv 142 7,⟨some 143,.P (.slice 1 (.t 141) none (some (.t 142)) none),none⟩,qc 144 90 [(.t 139),(.t 143),(.c .nilslice)]]) .skip))))) (.kill [0,4] (.reg [qv 145 0,⟨some 146,.P (.nilck (.t 145)),none⟩,⟨some 147,.P (.faddr 0 (.t 146)),none⟩,⟨some 148,.C (.c (.func (.func 88) [] [])) [(.t 147),(.c (.str ⟨#[32]⟩))],none⟩]))))) .skip)))))))))))))))))) (.kill [0,4] (.reg [qv 149 0,⟨some 150,.P (.faddr 2 (.t 4)),none⟩,ql 151 150,⟨some 152,.P (.faddr 2 (.t 4)),none⟩,ql 153 152,qn 154 153,qk 155 .sub 154 1,qa 156 1 151 155,ql 157 156,qc 158 45 [(.t 149),(.t 157)]]))))))))))) (E [] R .mk) .mk (mat 159 (sArgs 0 args)) m) (hl:Nat.ble args.length 159=true:=by rfl):ACalls Tryz.prog 45 args m R:=walk mix (by kernel_rfl) (Nat.le_of_ble_eq_true hl) h
theorem w46 {args m R} (h:W Tryz.prog (.seq (.reg [⟨some 2,.P (.mov (.c (.str ⟨#[]⟩))),none⟩]) (.kill [0] (.seq (.draw true [qv 3 0,⟨some 4,.P (.nilck (.t 3)),none⟩,⟨some 5,.P (.faddr 1 (.t 4)),none⟩,ql 6 5,⟨some 7,.P (.sdata (.t 6)),none⟩,qv 8 0,⟨some 9,.P (.nilck (.t 8)),none⟩,⟨some 10,.P (.faddr 1 (.t 9)),none⟩,ql 11 10,qn 12 11,⟨some 13,.W (.ustr 5 (.t 7) (.t 12)),none⟩,qv 2 13] [[],[],[],[],[],[],[],[],[],[],[],[]] [[],[],[],[],[],[],[],[],[],[],[],[]] [0,1,2,3,4,5,6,7,8,9,10,11]) .ret))) (E [(.tmp 2)] R .mk) .mk (mat 14 (sArgs 0 args)) m) (hl:Nat.ble args.length 14=true:=by rfl):ACalls Tryz.prog 46 args m R:=walk mix (by kernel_rfl) (Nat.le_of_ble_eq_true hl) h
theorem w66 {args m R} (h:W Tryz.prog (.seq (.reg [⟨some 4,.P (.mov (.c .nilslice)),none⟩]) (.kill [0,1] (.seq (.reg [qv 9 0,qc 10 76 [(.t 9)],qv 5 10]) (.kill [0,1,5] (.seq (.seq (.reg [qi 6 0]) (.block 0 (.kill [0,1,5,6] (.loop (.fin [0,1,5,6] (.seq (.seq (.reg [qv 11 6,qv 12 1,qn 13 12,qo 14 .lss 11 13]) (.kill [0,1,5,6,14] (.cond (.t 14) .skip (.exit 0)))) (.kill [0,1,5,6] (.seq (.block 1 (.seq (.reg [qv 17 1,qv 18 6,qa 19 6 17 18,⟨some 20,.R (.load 6 true (.t 19)),none⟩,qc 21 60 [(.t 20)],⟨some 7,.A (.alloc 39 [(.int .i64 0),(.int .i64 0),.nilslice,.nilslice,(.int .i64 0),(.bool false)]),none⟩,⟨none,.W (.store 6 (.t 7) (.t 21)),none⟩]) (.kill [0,1,5,6,7] (.seq (.seq (.reg [qi 8 0]) (.block 2 (.kill [0,1,5,6,7,8] (.loop (.fin [0,1,5,6,7,8] (.seq (.seq (.reg [qv 22 8,⟨some 23,.P (.faddr 2 (.t 7)),none⟩,ql 24 23,qn 25 24,qo 26 .lss 22 25]) (.kill [0,1,5,6,7,8,26] (.cond (.t 26) .skip (.exit 2)))) (.kill [0,1,5,6,7,8] (.seq (.block 3 (.reg [⟨some 29,.P (.faddr 2 (.t 7)),none⟩,ql 30 29,qv 31 8,qa 32 1 30 31,ql 33 32,qv 34 0,qn 35 34,qo 36 .add 33 35,qa 37 1 30 31,⟨none,.W (.store 1 (.t 37) (.t 36)),none⟩])) (.kill [0,1,5,6,7,8] (.reg [qv 27 8,qk 28 .add 27 1,qv 8 28])))))))))) (.kill [0,1,5,6,7] (.reg [qv 38 5,⟨some 39,.R (.load 6 true (.t 7)),none⟩,⟨some 40,.A (.bslice 39 1 [(.int .i64 0),(.int .i64 0),.nilslice,.nilslice,(.int .i64 0),(.bool false)] [(0,(6,(.t 39)))]),none⟩,⟨some 41,.W (.append 6 80 39 false (.t 38) (.t 40)),none⟩,qv 5 41])))))) (.kill [0,1,5,6] (.reg [qv 15 6,qk 16 .add 15 1,qv 6 16])))))))))) (.kill [5] (.seq (.reg [qv 42 5,qv 4 42]) .ret))))))) (E [(.tmp 4)] R .mk) .mk (mat 43 (sArgs 0 args)) m) (hl:Nat.ble args.length 43=true:=by rfl):ACalls Tryz.prog 66 args m R:=walk mix (by kernel_rfl) (Nat.le_of_ble_eq_true hl) h
abbrev h66_0 (t0 t1 t5 t6:AVal):AFrame:=mat 43 [(0,t0),(1,t1),(5,t5),(6,t6)]
abbrev h66_1 (t0 t1 t5 t6 t7 t8:AVal):AFrame:=mat 43 [(0,t0),(1,t1),(5,t5),(6,t6),(7,t7),(8,t8)]
theorem w88 {args m R} (h:W Tryz.prog (.seq (.reg [qi 4 0,⟨some 5,.P (.mov (.c .niliface)),none⟩]) (.kill [0,1] (.seq (.reg [qv 6 0,qc 7 120 [(.t 6)]]) (.kill [0,1] (.seq (.reg [qv 8 0,qv 9 0,⟨some 10,.P (.nilck (.t 9)),none⟩,⟨some 11,.P (.faddr 1 (.t 10)),none⟩,ql 12 11,qv 13 1,⟨some 14,.W (.append 1 1 5 true (.t 12) (.t 13)),none⟩,⟨some 15,.P (.nilck (.t 8)),none⟩,⟨some 16,.P (.faddr 1 (.t 15)),none⟩,⟨none,.W (.store 1 (.t 16) (.t 14)),none⟩]) (.kill [1] (.seq (.reg [qv 17 1,⟨some 18,.P (.lenS (.t 17)),none⟩,qv 4 18,⟨some 5,.P (.mov (.c .niliface)),none⟩]) .ret))))))) (E [(.tmp 4),(.tmp 5)] R .mk) .mk (mat 19 (sArgs 0 args)) m) (hl:Nat.ble args.length 19=true:=by rfl):ACalls Tryz.prog 88 args m R:=walk mix (by kernel_rfl) (Nat.le_of_ble_eq_true hl) h
theorem w89 {args m R} (h:W Tryz.prog (.seq (.reg [⟨some 2,.P (.mov (.c (.str ⟨#[]⟩))),none⟩]) (.kill [0] (.seq (.reg [qv 3 0,qc 4 121 [(.t 3)],qv 2 4]) .ret))) (E [(.tmp 2)] R .mk) .mk (mat 5 (sArgs 0 args)) m) (hl:Nat.ble args.length 5=true:=by rfl):ACalls Tryz.prog 89 args m R:=walk mix (by kernel_rfl) (Nat.le_of_ble_eq_true hl) h
theorem w90 {args m R} (h:W Tryz.prog (.seq (.reg [qv 8 0,⟨some 9,.P (.nilck (.t 8)),none⟩,⟨some 10,.P (.faddr 0 (.t 9)),none⟩,⟨some 11,.C (.c (.func (.func 88) [] [])) [(.t 10),(.c (.str ⟨#[40]⟩))],none⟩]) (.kill [0,1,2] (.seq (.seq (.reg [qv 12 1,qn 13 12,qi 14 0]) (.kill [0,2,12,13,14] (.block 0 (.kill [0,2,12,13,14] (.loop (.fin [0,2,12,13,14] (.seq (.reg [qo 15 .lss 14 13]) (.seq (.cond (.t 15) .skip (.exit 0)) (.kill [0,2,12,13,14] (.seq (.block 1 (.seq (.reg [qv 16 14,qa 17 1 12 14,ql 18 17,qv 6 16,qv 7 18]) (.kill [0,2,6,7,12,13,14] (.seq (.seq (.reg [qv 19 6,qk 20 .gtr 19 0]) (.kill [0,2,6,7,12,13,14,20] (.cond (.t 20) (.reg [qv 21 0,⟨some 22,.P (.nilck (.t 21)),none⟩,⟨some 23,.P (.faddr 0 (.t 22)),none⟩,⟨some 24,.C (.c (.func (.func 88) [] [])) [(.t 23),(.c (.str ⟨#[44,32]⟩))],none⟩]) .skip))) (.kill [0,2,6,7,12,13,14] (.seq (.reg [qv 25 0,qv 26 7,qc 27 45 [(.t 25),(.t 26)]]) (.kill [0,2,6,12,13,14] (.seq (.reg [qv 28 2,⟨some 29,.P (.eqN .slice true (.t 28)),none⟩]) (.kill [0,2,6,12,13,14,29] (.cond (.t 29) (.draw true [qv 30 0,⟨some 31,.P (.nilck (.t 30)),none⟩,⟨some 32,.P (.faddr 0 (.t 31)),none⟩,qv 33 2,qv 34 6,qa 35 1 33 34,ql 36 35,⟨some 37,.P (.bin .add (.c (.str ⟨#[32]⟩)) (.t 36)),none⟩,qc 38 88 [(.t 32),(.t 37)]] [[],[],[],[],[],[],[],[],[]] [[],[],[],[],[],[],[],[],[]] [0,1,2,3,4,5,6,7,8]) .skip)))))))))) (.kill [0,2,12,13,14] (.reg [qk 39 .add 14 1,qv 14 39])))))))))))) (.kill [0] (.reg [qv 40 0,⟨some 41,.P (.nilck (.t 40)),none⟩,⟨some 42,.P (.faddr 0 (.t 41)),none⟩,⟨some 43,.C (.c (.func (.func 88) [] [])) [(.t 42),(.c (.str ⟨#[41]⟩))],none⟩]))))) (E [] R .mk) .mk (mat 44 (sArgs 0 args)) m) (hl:Nat.ble args.length 44=true:=by rfl):ACalls Tryz.prog 90 args m R:=walk mix (by kernel_rfl) (Nat.le_of_ble_eq_true hl) h
abbrev h90_0 (t0 t2 t12 t13 t14:AVal):AFrame:=mat 44 [(0,t0),(2,t2),(12,t12),(13,t13),(14,t14)]
end Go.Proofs.YtlniliigcnedmaaGreatDoor
namespace Go.Proofs.YtlniliigcnedmaaGreatDoor
open Go Ax
set_option maxRecDepth 100000
theorem w120 {args m R} (h:W Tryz.prog (.seq (.reg [qv 2 0,⟨some 3,.P (.nilck (.t 2)),none⟩,⟨some 4,.P (.faddr 0 (.t 3)),none⟩,ql 5 4,⟨some 6,.P (.eqN .ptr false (.t 5)),none⟩]) (.kill [0,6] (.cond (.t 6) (.reg [qv 7 0,qv 8 0,⟨some 9,.R (.rk .p2u (.t 8)),none⟩,qv 10 9,⟨some 11,.R (.rk (.u2p [(69,2),(70,5),(71,5)]) (.t 10)),none⟩,⟨some 12,.P (.nilck (.t 7)),none⟩,⟨some 13,.P (.faddr 0 (.t 12)),none⟩,⟨none,.W (.store 1 (.t 13) (.t 11)),none⟩]) (.seq (.reg [qv 14 0,⟨some 15,.P (.nilck (.t 14)),none⟩,⟨some 16,.P (.faddr 0 (.t 15)),none⟩,ql 17 16,qv 18 0,⟨some 19,.P (.eqP true (.t 17) (.t 18)),none⟩]) (.kill [19] (.cond (.t 19) .bad .skip)))))) (E [] R .mk) .mk (mat 20 (sArgs 0 args)) m) (hl:Nat.ble args.length 20=true:=by rfl):ACalls Tryz.prog 120 args m R:=walk mix (by kernel_rfl) (Nat.le_of_ble_eq_true hl) h
theorem w121 {args m R} (h:W Tryz.prog (.seq (.reg [⟨some 2,.P (.mov (.c (.str ⟨#[]⟩))),none⟩]) (.kill [0] (.seq (.reg [qv 3 0,qc 4 167 [(.t 3),(qz 10)],qv 2 4]) .ret))) (E [(.tmp 2)] R .mk) .mk (mat 5 (sArgs 0 args)) m) (hl:Nat.ble args.length 5=true:=by rfl):ACalls Tryz.prog 121 args m R:=walk mix (by kernel_rfl) (Nat.le_of_ble_eq_true hl) h
end Go.Proofs.YtlniliigcnedmaaGreatDoor
namespace Go.Proofs.YtlniliigcnedmaaGreatDoor
open Go Ax
set_option maxRecDepth 100000
def u8A (b:UInt8):AVal:= .int .u8 b.toNat
instance:Cell u8A:=⟨fun _=>rfl,fun _=>rfl⟩
def nilckE:AVal→Option AVal
 | .ptr b o=>some (.ptr b o)
 | .func (.func f) fs cs=>some (.func (.func f) fs cs)
 |_=>none
@[simp] theorem ev_nilck {a:AFrame} (x:Arg):POp.ev a (.nilck x)=nilckE (a.ev x):=rfl
@[simp] theorem nilckE_ptr (b o:Nat):nilckE (.ptr b o)=some (.ptr b o):=rfl
@[simp] theorem ev_appendS {a:AFrame} {m:AMem} (n by_:Nat) (ty:TypeId) (s x:Arg):WOp.ev a m (.append n by_ ty true s x)=(match a.ev x with
 | .str t=>appendE m n by_ ty (a.ev s) t.size (bytesOf t)
 |_=>none):=rfl
theorem Ax.OwL.own {α:Type} {f:α→AVal} {lo:Nat} {m:AMem} {ty:TypeId} {s:AVal} {xs:List α} (h:OwL f lo m ty s xs) {b:Nat} (hb:s.blk=some b): ∃bl g,m[b]? =some (.own bl ty g):=by
 rcases h with ⟨rfl,_⟩|⟨b',o,cap,gr,bl,gr',rfl,_,h1,_⟩
 ·cases hb
 ·simp only[AVal.blk,Option.some.injEq] at hb
  subst hb
  exact ⟨bl,gr',h1⟩
def Wr (b:Nat) (bf:AVal) (m:AMem) (bf':AVal) (m':AMem):Prop:=Ch (fun c=>c=b∨bf.blk=some c) m m'∧ ∀c,bf'.blk=some c→bf.blk=some c∨m.length≤c
theorem k120 (b:Nat) (ad bf x y z:AVal) (m:AMem) (hb:m[b]? =some (.own [ad,bf,x,y,z] 71 none)) (had:ad= .nilptr∨ad= .ptr b 0):
  ACalls Tryz.prog 120 [.ptr b 0] m fun _ m'=>m'[b]? =some (.own [.ptr b 0,bf,x,y,z] 71 none)∧Ch (fun c=>c=b) m m':=by
 refine w120 ?_
 rcases had with rfl|rfl
 ·simp[bx (own_read hb),p2uE,u2pE,hb]
  obtain ⟨m1,hst,hb1,hch⟩:=fld_store (i:=0) (v:= .ptr b 0) hb (by simp) rfl rfl
  simp[hst]
  exact ⟨by simpa using hb1,hch⟩
 ·simp[bx (own_read hb)]
  exact ⟨hb,.refl _ _⟩
theorem k88 (b lo:Nat) (ad bf x y z:AVal) (bs:List UInt8) (t:ByteArray) (m:AMem) (hb:m[b]? =some (.own [ad,bf,x,y,z] 71 none)) (had:ad= .nilptr∨ad= .ptr b 0) (hlo:lo≤m.length) (hO:OwL u8A lo m 5 bf bs) (hsz:bs.length+t.size≤140737488355328):
  ACalls Tryz.prog 88 [.ptr b 0,.str t] m fun _ m'=> ∃bf',m'[b]? =some (.own [.ptr b 0,bf',x,y,z] 71 none)∧OwL u8A lo m' 5 bf' (bs++t.data.toList)∧Wr b bf m bf' m':=by
 refine w88 ?_
 simp
 have hne:bf.blk≠some b:=fun e=>by
  obtain ⟨bl,g,hbl⟩: ∃bl g,m[b]? =some (.own bl 5 g):=hO.own e
  rw[hb] at hbl
  simp at hbl
 refine C_of (k120 b ad bf x y z m hb had) ?_
 rintro _ m1 ⟨hb1,hch1⟩
 have hO1:=hO.ch hch1 fun c hc e=>hne (e▸hc)
 obtain ⟨bf',m2,happ,hch2,hO2,hbl⟩:=hO1.append (by have:=hch1.len;omega) (by_:=1) (by decide) t.data.toList (by have:t.data.toList.length=t.size:=rfl;omega)
 have happ':appendE m1 1 1 5 bf t.size (bytesOf t)=some (bf',m2):=happ
 have hb2:=own_ch hb1 hch2 fun e=>hne e
 have hself:=(Ow.sl hO2).self
 obtain ⟨m3,hst,hb3,hch3⟩:=fld_store (i:=1) (v:=bf') hb2 (by simp) hself.2 hself.1
 simp[bx (own_read hb1),happ',hst]
 have hne':bf'.blk≠some b:=fun e=>by
  obtain ⟨bl,g,hbl⟩: ∃bl g,m2[b]? =some (.own bl 5 g):=hO2.own e
  rw[hb2] at hbl
  simp at hbl
 refine ⟨bf',by simpa using hb3,hO2.ch hch3 fun c hc e=>hne' (e▸hc),((hch1.weaken fun c _ h=> .inl h).trans (hch2.weaken fun c _ h=> .inr h)).trans (hch3.weaken fun c _ h=> .inl h),fun c hc=>?_⟩
 rcases hbl c hc with h|h
 ·exact .inl h
 ·exact .inr (by have:=hch1.len;omega)
end Go.Proofs.YtlniliigcnedmaaGreatDoor
namespace Go.Proofs.YtlniliigcnedmaaGreatDoor
open Go Ax
def digB:Nat→Nat→List UInt8
 |0,_=> []
 |f+1,n=>if n<10 then [(48+n).toUInt8] else digB f (n / 10)++ [(48+n%10).toUInt8]
def sizeT (x:Md):List UInt8:=if x.size=1 then [76,79,78,71,32] else if x.size= -1 then [83,72,79,82,84,32] else []
def kindT (k:Int):List UInt8:=
 if k=0 then [86,79,73,68] else if k=1 then [66,79,79,76] else if k=2 then [67,72,65,82] else if k=3 then [73,78,84] else if k=4 then [82,69,65,76]
 else if k=5 then [66,73,84,83] else if k=6 then [70,73,76,69] else if k=7 then [83,69,77,65] else [70,79,82,77,65,84]
def plainT (x:Md):List UInt8:=sizeT x++kindT x.kind
noncomputable def numOf (l:List Md) (s:List Nat) (m:Nat):Option Nat:=s.findIdx? fun z=>RR l z==RR l m
def txL (g:List Nat→Nat→List UInt8×List Nat):Bool→List Nat→List (Nat×List UInt8)→List UInt8×List Nat
 |_,s,[]=>([],s)
 |f,s,(z,nm)::zs=>((if f then [] else [44,32])++((g s z).1++(nm++(txL g false (g s z).2 zs).1)),(txL g false (g s z).2 zs).2)
def bare (zs:List Nat):List (Nat×List UInt8):=zs.map fun z=>(z,[])
def named (zs:List Nat) (ns:List ByteArray):List (Nat×List UInt8):=zs.zipWith (fun z (n:ByteArray)=>(z,32::n.data.toList)) ns
def eN (x:Md):List Nat:=x.elems.map Int.toNat
noncomputable def bodyT (l:List Md) (g:List Nat→Nat→List UInt8×List Nat) (s:List Nat) (m:Nat):List UInt8×List Nat:=
 if (mdAt l m).kind=9 then ([82,69,70,32]++(g s ((eN (mdAt l m)).getD 0 0)).1,(g s ((eN (mdAt l m)).getD 0 0)).2)
 else if (mdAt l m).kind=10 then ((if (mdAt l m).flex then [70,76,69,88,32] else [])++([91]++(List.replicate ((mdAt l m).dims-1).toNat 44++([93]++(g s ((eN (mdAt l m)).getD 0 0)).1))),(g s ((eN (mdAt l m)).getD 0 0)).2)
 else if (mdAt l m).kind=11 then ([83,84,82,85,67,84,40]++((txL g true s (named (eN (mdAt l m)) (mdAt l m).names)).1++ [41]),(txL g true s (named (eN (mdAt l m)) (mdAt l m).names)).2)
 else if (mdAt l m).kind=12 then ([85,78,73,79,78,40]++((txL g true s (bare (basesOf l m))).1++ [41]),(txL g true s (bare (basesOf l m))).2)
 else if 1<(mdAt l m).elems.length then
  ([80,82,79,67,40]++((txL g true s (bare ((eN (mdAt l m)).take ((mdAt l m).elems.length-1)))).1++([41,32]++(g (txL g true s (bare ((eN (mdAt l m)).take ((mdAt l m).elems.length-1)))).2 ((eN (mdAt l m)).getD ((mdAt l m).elems.length-1) 0)).1)),
   (g (txL g true s (bare ((eN (mdAt l m)).take ((mdAt l m).elems.length-1)))).2 ((eN (mdAt l m)).getD ((mdAt l m).elems.length-1) 0)).2)
 else ([80,82,79,67,32]++(g s ((eN (mdAt l m)).getD 0 0)).1,(g s ((eN (mdAt l m)).getD 0 0)).2)
noncomputable def txM (l:List Md):Nat→List Nat→Nat→List UInt8×List Nat
 |0,s,_=>([],s)
 |f+1,s,m=>if (mdAt l m).kind<9 then (plainT (mdAt l m),s) else
  match numOf l s m with
  |some n=>(35::digB 20 n,s)
  |none=>bodyT l (txM l f) (s++ [m]) m
structure Seen (l:List Md) (s:List Nat):Prop where
 lt: ∀z∈s,z<l.length
 ne:s.Pairwise fun a b=>RR l a≠RR l b
theorem Seen.nil {l:List Md}:Seen l []:=⟨by simp,.nil⟩
theorem Seen.len {l:List Md} {s:List Nat} (h:Seen l s):s.length≤l.length:=nodup_le _ _ (h.ne.imp fun hn e=>hn (congrArg _ e)) h.lt
theorem numOf_none {l:List Md} {s:List Nat} {m:Nat}:numOf l s m=none↔ ∀z∈s,RR l z≠RR l m:=by
 unfold numOf
 rw[List.findIdx?_eq_none_iff]
 simp
theorem Seen.add {l:List Md} {s:List Nat} {m:Nat} (h:Seen l s) (hm:m<l.length) (hn:numOf l s m=none):Seen l (s++ [m]):=by
 refine ⟨fun z hz=>?_,?_⟩
 ·rcases List.mem_append.1 hz with h1|h1
  ·exact h.lt z h1
  ·rw[List.mem_singleton.1 h1];exact hm
 ·rw[List.pairwise_append]
  exact ⟨h.ne,by simp,fun a ha b hb=>by rw[List.mem_singleton.1 hb];exact numOf_none.1 hn a ha⟩
theorem numOf_lt {l:List Md} {s:List Nat} {m n:Nat} (h:numOf l s m=some n):n<s.length:=by
 unfold numOf at h
 rw[List.findIdx?_eq_some_iff_findIdx_eq] at h
 exact h.1
structure TxT (l:List Md):Prop where
 good:goodT l
 len:l.length≤60
 els: ∀x∈l,x.elems.length≤64
 nms: ∀x∈l,∀n∈x.names,n.size≤40
 dims: ∀x∈l,x.dims≤3
structure Grow (l:List Md) (B:Nat) (s:List Nat) (r:List UInt8×List Nat):Prop where
 seen:Seen l r.2
 pre:s<+:r.2
 len:r.1.length+8000*s.length≤B+8000*r.2.length
theorem digB_len: ∀(f n:Nat),(digB f n).length≤f
 |0,_=>by simp[digB]
 |f+1,n=>by
  unfold digB
  split
  ·simp
  ·have:=digB_len f (n / 10)
   simp;omega
theorem plainT_len (x:Md):(plainT x).length≤12:=by
 unfold plainT sizeT kindT
 rw[List.length_append]
 repeat' split
 all_goals decide
theorem txL_grow {l:List Md} {g:List Nat→Nat→List UInt8×List Nat} (hg: ∀s z,Seen l s→z<l.length→Grow l 21 s (g s z)): ∀(zs:List (Nat×List UInt8)) (f:Bool) (s:List Nat),Seen l s→(∀p∈zs,p.1<l.length∧p.2.length≤41)→Grow l (64*zs.length) s (txL g f s zs)
 | [],f,s,h,_=>⟨h,List.prefix_refl _,by simp[txL]⟩
 |(z,nm)::zs,f,s,h,hz=>by
  have h1:=hg s z h (hz _ (List.mem_cons_self ..)).1
  have h2:=(hz _ (List.mem_cons_self ..)).2
  have h3:=txL_grow hg zs false _ h1.seen fun p hp=>hz p (List.mem_cons_of_mem _ hp)
  refine ⟨h3.seen,h1.pre.trans h3.pre,?_⟩
  have e1:=h1.len
  have e3:=h3.len
  have e4:(if f then [] else [44,32]:List UInt8).length≤2:=by cases f<;>simp
  simp only[txL,List.length_append,List.length_cons] at*
  omega
theorem named_mem {zs:List Nat} {ns:List ByteArray} {p:Nat×List UInt8} (h:p∈named zs ns):p.1∈zs∧ ∃n∈ns,p.2=32::n.data.toList:=by
 unfold named at h
 rw[List.mem_iff_getElem?] at h
 obtain ⟨i,hi⟩:=h
 rw[List.getElem?_zipWith] at hi
 cases h1:zs[i]? with
 |none=>rw[h1] at hi;simp at hi
 |some z=>cases h2:ns[i]? with
  |none=>rw[h1,h2] at hi;simp at hi
  |some n=>
   rw[h1,h2] at hi
   simp only[Option.some.injEq] at hi
   subst hi
   exact ⟨List.mem_of_getElem? h1,n,List.mem_of_getElem? h2,rfl⟩
theorem mdAt_mem {l:List Md} {m:Nat} (h:m<l.length):mdAt l m∈l:=by rw[mdAt_eq h];exact List.getElem_mem h
theorem eN_lt {l:List Md} (hg:goodT l) {m:Nat} (h:m<l.length) {z:Nat} (hz:z∈eN (mdAt l m)):z<l.length:=by
 obtain ⟨e,he,rfl⟩:=List.mem_map.1 hz
 have:=hg _ (mdAt_mem h) e he
 omega
theorem eN_len (x:Md):(eN x).length=x.elems.length:=by simp[eN]
theorem eN_getD {l:List Md} (hg:goodT l) {m k:Nat} (h:m<l.length) (hk:k<(mdAt l m).elems.length):(eN (mdAt l m)).getD k 0<l.length:=by
 have hk':k<(eN (mdAt l m)).length:=by rw[eN_len];exact hk
 rw[List.getD_eq_getElem?_getD,List.getElem?_eq_getElem hk',Option.getD_some]
 exact eN_lt hg h (List.getElem_mem hk')
theorem mem_take {α:Type} {x:α} {n:Nat} {xs:List α} (h:x∈xs.take n):x∈xs:=(List.take_sublist _ _).subset h
theorem bare_ok {l:List Md} {zs:List Nat} (h: ∀z∈zs,z<l.length): ∀p∈bare zs,p.1<l.length∧p.2.length≤41:=by
 intro p hp
 obtain ⟨z,hz,rfl⟩:=List.mem_map.1 hp
 exact ⟨h z hz,by simp⟩
theorem bases_lt {l:List Md} (hg:goodT l) {m:Nat} (h:m<l.length): ∀z∈basesOf l m,z<l.length:=(basesEx hg h).lt hg h
theorem bodyT_grow {l:List Md} (ht:TxT l) {g:List Nat→Nat→List UInt8×List Nat} (hg: ∀s z,Seen l s→z<l.length→Grow l 21 s (g s z)) {s:List Nat} {m:Nat} (hs:Seen l s) (hm:m<l.length) (h1:9≤(mdAt l m).kind) (he:(mdAt l m).kind≠12→0<(mdAt l m).elems.length):
  Grow l 7000 s (bodyT l g s m):=by
 have hmm:=mdAt_mem hm
 have hel:=ht.els _ hmm
 have hd:=ht.dims _ hmm
 have one:(mdAt l m).kind≠12→Grow l 21 s (g s ((eN (mdAt l m)).getD 0 0)):=fun h=>hg _ _ hs (eN_getD ht.good hm (he h))
 unfold bodyT
 split
 ·rename_i h
  have:=one (by omega)
  exact ⟨this.seen,this.pre,by have:=this.len;simp only[List.length_append,List.length_cons,List.length_nil] at*;omega⟩
 split
 ·rename_i h
  have:=one (by omega)
  refine ⟨this.seen,this.pre,?_⟩
  have e1:=this.len
  have e2:(if (mdAt l m).flex then [70,76,69,88,32] else []:List UInt8).length≤5:=by split<;>simp
  simp only[List.length_append,List.length_cons,List.length_nil,List.length_replicate] at*
  omega
 split
 ·have:=txL_grow hg (named (eN (mdAt l m)) (mdAt l m).names) true s hs fun p hp=>by
   obtain ⟨h1,n,h2,h3⟩:=named_mem hp
   exact ⟨eN_lt ht.good hm h1,by rw[h3];have:=ht.nms _ hmm n h2;simp only[List.length_cons,Array.length_toList];show n.size+1≤41;omega⟩
  refine ⟨this.seen,this.pre,?_⟩
  have e1:=this.len
  have e2:(named (eN (mdAt l m)) (mdAt l m).names).length≤64:=by simp only[named,List.length_zipWith,eN_len];omega
  simp only[List.length_append,List.length_cons,List.length_nil] at*
  omega
 split
 ·have:=txL_grow hg (bare (basesOf l m)) true s hs (bare_ok (bases_lt ht.good hm))
  refine ⟨this.seen,this.pre,?_⟩
  have e1:=this.len
  have e2:(bare (basesOf l m)).length≤60:=by
   have:=(basesEx ht.good hm).length ht.good hm
   have:=ht.len
   simp only[bare,List.length_map];omega
  simp only[List.length_append,List.length_cons,List.length_nil] at*
  omega
 split
 ·have h2:=txL_grow hg (bare ((eN (mdAt l m)).take ((mdAt l m).elems.length-1))) true s hs (bare_ok fun z hz=>eN_lt ht.good hm (mem_take hz))
  have h3:=hg _ ((eN (mdAt l m)).getD ((mdAt l m).elems.length-1) 0) h2.seen (eN_getD ht.good hm (by omega))
  refine ⟨h3.seen,h2.pre.trans h3.pre,?_⟩
  have e1:=h2.len
  have e3:=h3.len
  have e2:(bare ((eN (mdAt l m)).take ((mdAt l m).elems.length-1))).length≤64:=by simp only[bare,List.length_map,List.length_take,eN_len];omega
  simp only[List.length_append,List.length_cons,List.length_nil] at*
  omega
 ·have:=one (by assumption)
  exact ⟨this.seen,this.pre,by have:=this.len;simp only[List.length_append,List.length_cons,List.length_nil] at*;omega⟩
def Full (l:List Md):Prop:= ∀x∈l,9≤x.kind→0<x.elems.length
theorem txM_grow {l:List Md} (ht:TxT l) (hf:Full l): ∀(f:Nat) (s:List Nat) (m:Nat),Seen l s→m<l.length→Grow l 21 s (txM l f s m)
 |0,s,m,hs,_=>⟨hs,List.prefix_refl _,by simp[txM]⟩
 |f+1,s,m,hs,hm=>by
  unfold txM
  split
  ·exact ⟨hs,List.prefix_refl _,by have:=plainT_len (mdAt l m);show (plainT (mdAt l m)).length+8000*s.length≤21+8000*s.length;omega⟩
  ·rename_i h9
   cases hn:numOf l s m with
   |some n=>exact ⟨hs,List.prefix_refl _,by have:=digB_len 20 n;show (35::digB 20 n).length+8000*s.length≤21+8000*s.length;simp only[List.length_cons];omega⟩
   |none=>
    have:=bodyT_grow ht (txM_grow ht hf f) (hs.add hm hn) hm (by omega) (fun _=>hf _ (mdAt_mem hm) (by omega))
    refine ⟨this.seen,(List.prefix_append _ _).trans this.pre,?_⟩
    have e1:=this.len
    simp only[List.length_append,List.length_cons,List.length_nil] at*
    omega
noncomputable def textT (l:List Md) (m:Nat):List UInt8:=(txM l (l.length+1) [] m).1
end Go.Proofs.YtlniliigcnedmaaGreatDoor
namespace Go.Proofs
open Go.Shelf
def Tryz.lays105_ren:Go.Shelf.Ren:=⟨fun|105=>69|212=>111|99=>112|165=>110|166=>88|170=>113|169=>46|263=>142|264=>143|206=>144|240=>120|241=>141|276=>166|277=>180|n=>n,fun|9=>9|3=>3|4=>4|20=>20|0=>0|46=>128|109=>129|5=>5|72=>69|76=>108|51=>146|146=>147|53=>149|148=>150|70=>66|37=>67|75=>107|127=>113|164=>167|80=>73|n=>n,fun|n=>n⟩
theorem Tryz.lays105:Go.Proofs.Lays.n105 Tryz.prog Tryz.lays105_ren:={
 mixed:=by kernel_rfl
 f99:=Tryz.func112.trans (congrArg some (by kernel_rfl))
 f105:=Tryz.func69.trans (congrArg some (by kernel_rfl))
 f165:=Tryz.func110.trans (congrArg some (by kernel_rfl))
 f166:=Tryz.func88.trans (congrArg some (by kernel_rfl))
 f169:=Tryz.func46.trans (congrArg some (by kernel_rfl))
 f170:=Tryz.func113.trans (congrArg some (by kernel_rfl))
 f206:=Tryz.func144.trans (congrArg some (by kernel_rfl))
 f212:=Tryz.func111.trans (congrArg some (by kernel_rfl))
 f240:=Tryz.func120.trans (congrArg some (by kernel_rfl))
 f241:=Tryz.func141.trans (congrArg some (by kernel_rfl))
 f263:=Tryz.func142.trans (congrArg some (by kernel_rfl))
 f264:=Tryz.func143.trans (congrArg some (by kernel_rfl))
 f276:=Tryz.func166.trans (congrArg some (by kernel_rfl))
 f277:=Tryz.func180.trans (congrArg some (by kernel_rfl))
 t0:=Tryz.underlying0
 a0:=Tryz.isAgg0
 z0:=Tryz.sizeOf0
 v0:=Tryz.zeroValue0
 t3:=Tryz.underlying3
 a3:=Tryz.isAgg3
 z3:=Tryz.sizeOf3
 v3:=Tryz.zeroValue3
 t4:=Tryz.underlying4
 a4:=Tryz.isAgg4
 z4:=Tryz.sizeOf4
 v4:=Tryz.zeroValue4
 t5:=Tryz.underlying5
 a5:=Tryz.isAgg5
 z5:=Tryz.sizeOf5
 v5:=Tryz.zeroValue5
 t9:=Tryz.underlying9
 a9:=Tryz.isAgg9
 z9:=Tryz.sizeOf9
 v9:=Tryz.zeroValue9
 t20:=Tryz.underlying20
 a20:=Tryz.isAgg20
 z20:=Tryz.sizeOf20
 v20:=Tryz.zeroValue20
 t37:=Tryz.underlying67
 a37:=Tryz.isAgg67
 z37:=Tryz.sizeOf67
 v37:=Tryz.zeroValue67
 t46:=Tryz.underlying128
 a46:=Tryz.isAgg128
 z46:=Tryz.sizeOf128
 v46:=Tryz.zeroValue128
 t51:=Tryz.underlying146
 a51:=Tryz.isAgg146
 z51:=Tryz.sizeOf146
 v51:=Tryz.zeroValue146
 t53:=Tryz.underlying149
 a53:=Tryz.isAgg149
 z53:=Tryz.sizeOf149
 v53:=Tryz.zeroValue149
 t70:=Tryz.underlying66
 a70:=Tryz.isAgg66
 z70:=Tryz.sizeOf66
 v70:=Tryz.zeroValue66
 t72:=Tryz.underlying69
 a72:=Tryz.isAgg69
 z72:=Tryz.sizeOf69
 v72:=Tryz.zeroValue69
 t75:=Tryz.underlying107
 a75:=Tryz.isAgg107
 z75:=Tryz.sizeOf107
 v75:=Tryz.zeroValue107
 t76:=Tryz.underlying108
 a76:=Tryz.isAgg108
 z76:=Tryz.sizeOf108
 v76:=Tryz.zeroValue108
 t109:=Tryz.underlying129
 a109:=Tryz.isAgg129
 z109:=Tryz.sizeOf129
 v109:=Tryz.zeroValue129
 t127:=Tryz.underlying113
 a127:=Tryz.isAgg113
 z127:=Tryz.sizeOf113
 v127:=Tryz.zeroValue113
 t146:=Tryz.underlying147
 a146:=Tryz.isAgg147
 z146:=Tryz.sizeOf147
 v146:=Tryz.zeroValue147
 t148:=Tryz.underlying150
 a148:=Tryz.isAgg150
 z148:=Tryz.sizeOf150
 v148:=Tryz.zeroValue150
 t164:=Tryz.underlying167
 a164:=Tryz.isAgg167
 z164:=Tryz.sizeOf167
 v164:=Tryz.zeroValue167}
theorem Tryz.Builder_Extra_105:Builder.Extra Tryz.prog Tryz.lays105_ren:={
 sizeBuilder:=by kernel_rfl
 liesBuilder:=by kernel_rfl
 t5:=Tryz.underlying5
 a5:=Tryz.isAgg5
 z5:=Tryz.sizeOf5
 v5:=Tryz.zeroValue5
 infoByte:=by kernel_rfl
 cellsByte:=by kernel_rfl
 sizeByte:=by kernel_rfl
 neB5:=by decide}
open Go.RowKit Go.Lib in
theorem Tryz.strings_Repeat (s:ByteArray) (c:Nat) (w:World) (hc:c≤9223372036854775807) (hlen:s.size*c≤140737488355328):
  Calls Tryz.prog 69 #[.string s,.int .i64 c] w fun e w'=>e= .returned (.string ⟨(Lib.repeatL s.data.toList c).toArray⟩)∧Below w.heap.size w w':=Any.strings_Repeat Tryz.lays105 Tryz.Builder_Extra_105 s c w hc hlen
end Go.Proofs
namespace Go.Proofs.YtlniliigcnedmaaGreatDoor
open Go Ax
set_option maxRecDepth 100000
theorem w167 {args m R} (h:W Tryz.prog (.seq (.reg [⟨some 4,.P (.mov (.c (.str ⟨#[]⟩))),none⟩]) (.kill [0,1] (.seq (.seq (.reg [qv 10 1,qk 11 .eql 10 10]) (.kill [0,1,11] (.cond (.t 11) (.seq (.seq (.reg [qv 12 0,⟨some 13,.P (.bin .leq (qz 0) (.t 12)),none⟩,qv 14 13,⟨some 15,.P (.mov (.t 0)),(some (14,true))⟩,⟨some 16,.P (.bin .lss (.t 15) (qz 100)),(some (14,true))⟩,⟨some 17,.P (.pick (.t 14) (.t 16) (.c (.bool false))),none⟩]) (.kill [0,17] (.cond (.t 17) (.seq (.reg [qv 18 0,qc 19 190 [(.t 18)],qv 4 19]) .ret) .skip))) (.kill [0] (.seq (.reg [⟨some 5,.A (.alloc 187 [(.int .u8 0),(.int .u8 0),(.int .u8 0),(.int .u8 0),(.int .u8 0),(.int .u8 0),(.int .u8 0),(.int .u8 0),(.int .u8 0),(.int .u8 0),(.int .u8 0),(.int .u8 0),(.int .u8 0),(.int .u8 0),(.int .u8 0),(.int .u8 0),(.int .u8 0),(.int .u8 0),(.int .u8 0),(.int .u8 0),(.int .u8 0),(.int .u8 0),(.int .u8 0),(.int .u8 0)]),none⟩]) (.seq (.reg [qv 20 0,⟨some 21,.P (.i2i .u64 (.t 20)),none⟩,qv 6 21]) (.kill [0,5,6] (.seq (.seq (.reg [qv 22 0,qk 23 .lss 22 0]) (.kill [0,5,6,23] (.cond (.t 23) (.reg [qv 24 6,⟨some 25,.P (.un .neg (.t 24)),none⟩,qv 6 25]) .skip))) (.kill [0,5,6] (.seq (.reg [qv 26 6,qc 27 191 [(.t 26)],qv 7 27]) (.kill [0,5,6,7] (.seq (.reg [qv 28 7,⟨some 29,.P (.bin .add (qz 1) (.t 28)),none⟩,⟨some 30,.P (.sliceA 24 1 (.t 5) (some (qz 1)) (some (.t 29))),none⟩,qv 31 6,qc 32 192 [(.t 30),(.t 31)]]) (.kill [0,5,7] (.seq (.seq (.reg [qv 33 0,qk 34 .lss 33 0]) (.kill [5,7,34] (.cond (.t 34) (.seq (.reg [⟨some 35,.P (.iaddrA 24 1 (.t 5) (qz 0)),none⟩,⟨none,.W (.store 1 (.t 35) (.c (.int .u8 45))),none⟩]) (.kill [5,7] (.seq (.reg [qv 36 7,⟨some 37,.P (.bin .add (qz 1) (.t 36)),none⟩,⟨some 38,.P (.sliceA 24 1 (.t 5) none (some (.t 37))),none⟩,⟨some 39,.R (.rk .b2s (.t 38)),none⟩,qv 4 39]) .ret))) .skip))) (.kill [5,7] (.seq (.reg [qv 40 7,⟨some 41,.P (.bin .add (qz 1) (.t 40)),none⟩,⟨some 42,.P (.sliceA 24 1 (.t 5) (some (qz 1)) (some (.t 41))),none⟩,⟨some 43,.R (.rk .b2s (.t 42)),none⟩,qv 4 43]) .ret)))))))))))))) .skip))) (.kill [0,1] (.seq (.reg [qv 45 0,⟨some 46,.P (.i2i .u64 (.t 45)),none⟩,qv 47 1,qv 48 0,qk 49 .lss 48 0,qc 50 193 [(.c .nilslice),(.t 46),(.t 47),(.t 49),(.c (.bool false))],qv 44 50,qx 51 44 0,qx 52 44 1,qv 8 51,qv 9 52]) (.kill [9] (.seq (.reg [qv 53 9,qv 4 53]) .ret))))))) (E [(.tmp 4)] R .mk) .mk (mat 54 (sArgs 0 args)) m) (hl:Nat.ble args.length 54=true:=by rfl):ACalls Tryz.prog 167 args m R:=walk mix (by kernel_rfl) (Nat.le_of_ble_eq_true hl) h
theorem w190 {args m R} (h:W Tryz.prog (.seq (.reg [⟨some 2,.P (.mov (.c (.str ⟨#[]⟩))),none⟩]) (.kill [0] (.seq (.seq (.reg [qv 3 0,qk 4 .lss 3 10]) (.kill [0,4] (.cond (.t 4) (.seq (.reg [qv 5 0,qv 6 0,qk 7 .add 6 1,⟨some 8,.P (.sliceS (.c (.str ⟨#[48,49,50,51,52,53,54,55,56,57,97,98,99,100,101,102,103,104,105,106,107,108,109,110,111,112,113,114,115,116,117,118,119,120,121,122]⟩)) (some (.t 5)) (some (.t 7))),none⟩,qv 2 8]) .ret) .skip))) (.kill [0] (.seq (.reg [qv 9 0,qk 10 .mul 9 2,qv 11 0,qk 12 .mul 11 2,qk 13 .add 12 2,⟨some 14,.P (.sliceS (.c (.str ⟨#[48,48,48,49,48,50,48,51,48,52,48,53,48,54,48,55,48,56,48,57,49,48,49,49,49,50,49,51,49,52,49,53,49,54,49,55,49,56,49,57,50,48,50,49,50,50,50,51,50,52,50,53,50,54,50,55,50,56,50,57,51,48,51,49,51,50,51,51,51,52,51,53,51,54,51,55,51,56,51,57,52,48,52,49,52,50,52,51,52,52,52,53,52,54,52,55,52,56,52,57,53,48,53,49,53,50,53,51,53,52,53,53,53,54,53,55,53,56,53,57,54,48,54,49,54,50,54,51,54,52,54,53,54,54,54,55,54,56,54,57,55,48,55,49,55,50,55,51,55,52,55,53,55,54,55,55,55,56,55,57,56,48,56,49,56,50,56,51,56,52,56,53,56,54,56,55,56,56,56,57,57,48,57,49,57,50,57,51,57,52,57,53,57,54,57,55,57,56,57,57]⟩)) (some (.t 10)) (some (.t 13))),none⟩,qv 2 14]) .ret))))) (E [(.tmp 2)] R .mk) .mk (mat 15 (sArgs 0 args)) m) (hl:Nat.ble args.length 15=true:=by rfl):ACalls Tryz.prog 190 args m R:=walk mix (by kernel_rfl) (Nat.le_of_ble_eq_true hl) h
end Go.Proofs.YtlniliigcnedmaaGreatDoor
namespace Go.Proofs.YtlniliigcnedmaaGreatDoor
open Go Ax Go.RowKit
set_option maxRecDepth 100000
theorem Ax.Sim.below {ρ:List RB} {m:AMem} {w w':World} (h:Sim ρ m w) (hb:Below w.heap.size w w'):Sim ρ m w'∧Evol ρ m w ρ m w':=
 ⟨⟨h.len,fun b blk a h1 h2=>(h.ok b blk a h1 h2).heapA (hb.block _ (h.bound b a h2)),h.sep,fun b a ha=>Nat.lt_of_lt_of_le (h.bound b a ha) hb.size⟩,⟨List.prefix_refl _,hb.os,hb.tape,hb.output,hb.size,fun r hr _=>hb.block r hr,fun r hr=> .inr hr⟩⟩
theorem Ax.ACalls.of_below {P:Program} {f:FuncId} {args:List AVal} {m:AMem} {x:AVal} (hc:Callable P f) {v:Value} (hx:VR [] x v) (h: ∀(w:World) (args':Array Value) (ρ:List RB),VRs ρ args args'.toList→Calls P f args' w fun e w'=>e= .returned v∧Below w.heap.size w w'):ACalls P f args m fun y m'=>y=x∧m'=m:=
 ⟨hc,fun ρ w args' hs _ hv=>(h w args' ρ hv).mono fun _ _ ⟨he,hb⟩=>⟨v,x,m,ρ,he,⟨rfl,rfl⟩,VR.mono List.nil_prefix x v hx,hs.below hb⟩⟩
theorem repeatL_one: ∀c:Nat,Lib.repeatL [44] c=List.replicate c 44
 |0=>rfl
 |c+1=>by rw[Lib.repeatL,repeatL_one c];rfl
theorem k69 (c:Nat) (hc:c≤1000) (m:AMem):ACalls Tryz.prog 69 [.str ⟨#[44]⟩,.int .i64 c] m fun v m'=>v= .str ⟨(List.replicate c 44).toArray⟩∧m'=m:=by
 refine ACalls.of_below (v:= .string ⟨(List.replicate c 44).toArray⟩) ⟨_,Tryz.func69,by kernel_rfl,by kernel_rfl⟩ (by simp[VR]) fun w args' ρ hv=>?_
 simp only[VRs,VR] at hv
 obtain ⟨_,_,e1,rfl,_,_,rfl,rfl,rfl⟩:=hv
 obtain rfl:args'= #[.string ⟨#[44]⟩,.int .i64 c]:=by rw[←Array.toList_inj];simpa using e1
 have h:= Tryz.strings_Repeat ⟨#[44]⟩ c w (by omega) (by show 1*c≤_;omega)
 rw[show (⟨#[44]⟩:ByteArray).data.toList= [44] from rfl,repeatL_one] at h
 exact h
theorem small_lo: ∀n<10,(⟨#[48,49,50,51,52,53,54,55,56,57,97,98,99,100,101,102,103,104,105,106,107,108,109,110,111,112,113,114,115,116,117,118,119,120,121,122]⟩:ByteArray).extract n (n+1)=⟨(digB 20 n).toArray⟩:=by decide
theorem small_hi: ∀n<100,10≤n→(⟨#[48,48,48,49,48,50,48,51,48,52,48,53,48,54,48,55,48,56,48,57,49,48,49,49,49,50,49,51,49,52,49,53,49,54,49,55,49,56,49,57,50,48,50,49,50,50,50,51,50,52,50,53,50,54,50,55,50,56,50,57,51,48,51,49,51,50,51,51,51,52,51,53,51,54,51,55,51,56,51,57,52,48,52,49,52,50,52,51,52,52,52,53,52,54,52,55,52,56,52,57,53,48,53,49,53,50,53,51,53,52,53,53,53,54,53,55,53,56,53,57,54,48,54,49,54,50,54,51,54,52,54,53,54,54,54,55,54,56,54,57,55,48,55,49,55,50,55,51,55,52,55,53,55,54,55,55,55,56,55,57,56,48,56,49,56,50,56,51,56,52,56,53,56,54,56,55,56,56,56,57,57,48,57,49,57,50,57,51,57,52,57,53,57,54,57,55,57,56,57,57]⟩:ByteArray).extract (2*n) (2*n+2)=⟨(digB 20 n).toArray⟩:=by decide
theorem sliceS_ev {a:AFrame} {x lo hi:Arg} {s:ByteArray} {l h:Nat} (hx:a.ev x= .str s) (hl:a.ev lo= .int .i64 (l:Nat)) (hh:a.ev hi= .int .i64 (h:Nat)) (h1:l≤h) (h2:h≤s.size):POp.ev a (.sliceS x (some lo) (some hi))=some (.str (s.extract l h)):=by
 simp[POp.ev,bnd,hx,hl,hh,h1,h2]
theorem k190 (n:Nat) (hn:n<100) (m:AMem):ACalls Tryz.prog 190 [.int .i64 n] m fun v m'=>v= .str ⟨(digB 20 n).toArray⟩∧m'=m:=by
 refine w190 ?_
 have hw:IntKind.i64.wrap ((n:Int)+1)=((n+1:Nat):Int):=wrap64 (by omega) (by omega)
 have hw2:IntKind.i64.wrap ((n:Int)*2)=((2*n:Nat):Int):=by rw[wrap64 (by omega) (by omega)];omega
 have hw3:IntKind.i64.wrap (((2*n:Nat):Int)+2)=((2*n+2:Nat):Int):=wrap64 (by omega) (by omega)
 by_cases h:n<10
 ·have h':(n:Int)<10:=by omega
  simp[h',-Int.natCast_add]
  rw[sliceS_ev (l:=n) (h:=n+1) rfl (by simp) (by simp[hw,-Int.natCast_add]) (by omega) (by show n+1≤36;omega),small_lo n h]
  simp
 ·have h': ¬(n:Int)<10:=by omega
  simp[h']
  rw[sliceS_ev (l:=2*n) (h:=2*n+2) rfl (by simp[hw2,-Int.natCast_mul]) (by simp[hw2,hw3,-Int.natCast_mul,-Int.natCast_add]) (by omega) (by show 2*n+2≤200;omega),small_hi n hn (by omega)]
  simp
theorem k89 (n:Nat) (hn:n<100) (m:AMem):ACalls Tryz.prog 89 [.int .i64 n] m fun v m'=>v= .str ⟨(digB 20 n).toArray⟩∧m'=m:=by
 refine w89 ?_
 simp
 refine C_of (R:=fun v m'=>v= .str ⟨(digB 20 n).toArray⟩∧m'=m) ?_ ?_
 ·refine w121 ?_
  simp
  refine C_of (R:=fun v m'=>v= .str ⟨(digB 20 n).toArray⟩∧m'=m) ?_ ?_
  ·refine w167 ?_
   have h1:(n:Int)<100:=by omega
   simp[h1]
   refine C_of (k190 n hn m) ?_
   rintro _ m' ⟨rfl,rfl⟩
   simp
  ·rintro _ m' ⟨rfl,rfl⟩
   simp
 ·rintro _ m' ⟨rfl,rfl⟩
  simp
end Go.Proofs.YtlniliigcnedmaaGreatDoor
namespace Go.Proofs.YtlniliigcnedmaaGreatDoor
open Go Ax
theorem ba_app (a b:List UInt8):(⟨a.toArray⟩:ByteArray)++⟨b.toArray⟩=⟨(a++b).toArray⟩:=by
 apply ByteArray.ext
 simp
theorem ba_size (a:List UInt8):(⟨a.toArray⟩:ByteArray).size=a.length:=by simp[ByteArray.size]
theorem ba_eta (s:ByteArray):(⟨s.data.toList.toArray⟩:ByteArray)=s:=by cases s;simp
def numE (ds s:List Nat):List (Int×AVal):=s.zipIdx.map fun p=>(((ds.getD p.1 0:Nat):Int),natI p.2)
def SameEq (l:List Md) (ds:List Nat):Prop:= ∀a b,a<l.length→b<l.length→(ds.getD a 0=ds.getD b 0↔RR l a=RR l b)
theorem find_aux {l:List Md} {ds:List Nat} (h:SameEq l ds) {m:Nat} (hm:m<l.length): ∀(s:List Nat) (k:Nat),(∀z∈s,z<l.length)→
  findE ((s.zipIdx k).map fun p=>(((ds.getD p.1 0:Nat):Int),natI p.2)) ((ds.getD m 0:Nat):Int)=(s.findIdx? fun z=>RR l z==RR l m).map fun i=>natI (i+k)
 | [],k,_=>rfl
 |z::s,k,hs=>by
  have hz:=h z m (hs z (List.mem_cons_self ..)) hm
  have ih:=find_aux h hm s (k+1) fun y hy=>hs y (List.mem_cons_of_mem _ hy)
  simp only[List.zipIdx_cons,List.map_cons,findE,List.findIdx?_cons]
  by_cases he:RR l z=RR l m
  ·rw[if_pos (by rw[hz.2 he]),if_pos (by simpa using he)]
   simp
  ·rw[if_neg (fun e=>he (hz.1 (by omega))),if_neg (by simpa using he),ih,Option.map_map]
   congr 1
   funext i
   simp only[Function.comp]
   rw[show i+(k+1)=i+1+k by omega]
theorem find_num {l:List Md} {ds s:List Nat} (h:SameEq l ds) (hs:Seen l s) {m:Nat} (hm:m<l.length):findE (numE ds s) ((ds.getD m 0:Nat):Int)=(numOf l s m).map natI:=by
 have:=find_aux h hm s 0 hs.lt
 simpa[numE,numOf] using this
theorem set_none: ∀(es:List (Int×AVal)) (k:Int) (v:AVal),findE es k=none→setE es k v=es++ [(k,v)]
 | [],_,_,_=>rfl
 |(k',x)::es,k,v,h=>by
  simp only[findE] at h
  split at h
  ·cases h
  ·rename_i hk
   simp only[setE,if_neg hk,set_none es k v h,List.cons_append]
theorem numE_add (ds s:List Nat) (m:Nat):numE ds (s++ [m])=numE ds s++ [(((ds.getD m 0:Nat):Int),natI s.length)]:=by
 simp[numE,List.zipIdx_append]
theorem numE_len (ds s:List Nat):(numE ds s).length=s.length:=by simp[numE]
theorem DenseOf.sameEq {l:List Md} {ds:List Nat} {k:Nat} (h:SameOrd l.length (fun a=>ds.getD a 0) (RR l)):SameEq l ds:=fun a b ha hb=>by
 have h1:=h a b ha hb
 have h2:=h b a hb ha
 simp only at h1 h2
 omega
end Go.Proofs.YtlniliigcnedmaaGreatDoor
namespace Go.Proofs.YtlniliigcnedmaaGreatDoor
open Go Ax
set_option maxRecDepth 100000
structure WS (m0:AMem) (b mb:Nat) (sT rk:AVal) (ds:List Nat) (m:AMem) (bf:AVal) (bs:List UInt8) (s:List Nat):Prop where
 blk: ∃ad,m[b]? =some (.own [ad,bf,sT,rk,.map mb] 71 none)∧(ad= .nilptr∨ad= .ptr b 0)
 map:m[mb]? =some (.mp (numE ds s))
 buf:OwL u8A m0.length m 5 bf bs
 pre:m0<+:m
 lo:m0.length≤b∧m0.length≤mb
def WC (b mb:Nat) (bf:AVal) (m:AMem) (bf':AVal) (m':AMem):Prop:=Ch (fun c=>c=b∨c=mb∨bf.blk=some c) m m'∧ ∀c,bf'.blk=some c→bf.blk=some c∨m.length≤c
theorem WC.refl (b mb:Nat) (bf:AVal) (m:AMem):WC b mb bf m bf m:=⟨.refl _ _,fun _ h=> .inl h⟩
theorem WC.trans {b mb:Nat} {bf bf1 bf2:AVal} {m m1 m2:AMem} (h:WC b mb bf m bf1 m1) (k:WC b mb bf1 m1 bf2 m2):WC b mb bf m bf2 m2:=by
 refine ⟨h.1.andThen k.1 fun c hc e=>?_,fun c e=>?_⟩
 ·rcases e with e|e|e
  ·exact .inl e
  ·exact .inr (.inl e)
  ·rcases h.2 c e with e|e
   ·exact .inr (.inr e)
   ·omega
 ·rcases k.2 c e with e|e
  ·exact h.2 c e
  ·exact .inr (by have:=h.1.len;omega)
theorem WC.of_prefix {b mb:Nat} {bf:AVal} {m m':AMem} (h:m<+:m'):WC b mb bf m bf m':=⟨.of_prefix h,fun _ h=> .inl h⟩
theorem WC.of_Wr {b mb:Nat} {bf bf':AVal} {m m':AMem} (h:Wr b bf m bf' m'):WC b mb bf m bf' m':=⟨h.1.weaken fun c _ e=>e.elim .inl fun e=> .inr (.inr e),h.2⟩
section
variable {m0:AMem} {b mb:Nat} {sT rk:AVal} {ds:List Nat} {m m':AMem} {bf bf':AVal} {bs:List UInt8} {s:List Nat}
theorem WS.mono (h:WS m0 b mb sT rk ds m bf bs s) (hm:m<+:m'):WS m0 b mb sT rk ds m' bf bs s:=by
 obtain ⟨ad,h1,h2⟩:=h.blk
 exact ⟨⟨ad,own_mono h1 hm,h2⟩,own_mono h.map hm,h.buf.mono hm,h.pre.trans hm,h.lo⟩
theorem WS.ne (h:WS m0 b mb sT rk ds m bf bs s):b≠mb∧bf.blk≠some b∧bf.blk≠some mb:=by
 obtain ⟨ad,h1,_⟩:=h.blk
 refine ⟨fun e=>?_,fun e=>?_,fun e=>?_⟩
 ·have:=h.map;rw[←e,h1] at this;simp at this
 ·obtain ⟨bl,g,h3⟩:=h.buf.own e;rw[h1] at h3;simp at h3
 ·obtain ⟨bl,g,h3⟩:=h.buf.own e;have:=h.map;rw[h3] at this;simp at this
theorem WS.lt (h:WS m0 b mb sT rk ds m bf bs s):b<m.length∧mb<m.length:=by
 obtain ⟨ad,h1,_⟩:=h.blk
 exact ⟨(List.getElem?_eq_some_iff.1 h1).1,(List.getElem?_eq_some_iff.1 h.map).1⟩
theorem WC.pre0 (hc:WC b mb bf m bf' m') (h:WS m0 b mb sT rk ds m bf bs s):m0<+:m':=hc.1.pre h.pre fun c hc e=>by
 rcases e with e|e|e
 ·have:=h.lo.1;omega
 ·have:=h.lo.2;omega
 ·have:=(h.buf.blk_lo e).1;omega
theorem WS.write (h:WS m0 b mb sT rk ds m bf bs s) (t:List UInt8) (hsz:bs.length+t.length≤1099511627776):
  ACalls Tryz.prog 88 [.ptr b 0,.str ⟨t.toArray⟩] m fun _ m'=> ∃bf',WS m0 b mb sT rk ds m' bf' (bs++t) s∧WC b mb bf m bf' m':=by
 obtain ⟨ad,h1,h2⟩:=h.blk
 refine (k88 b m0.length ad bf sT rk (.map mb) bs ⟨t.toArray⟩ m h1 h2 h.pre.length_le h.buf (by rw[ba_size];omega)).mono ?_
 rintro _ m' ⟨bf',g1,g2,g3⟩
 have hc:WC b mb bf m bf' m':= .of_Wr g3
 have hn:=h.ne
 exact ⟨bf',⟨⟨_,g1,.inr rfl⟩,own_ch h.map g3.1 (fun e=>by rcases e with e|e;exact hn.1 e.symm;exact hn.2.2 e),g2,hc.pre0 h,h.lo⟩,hc⟩
end
end Go.Proofs.YtlniliigcnedmaaGreatDoor
namespace Go.Proofs.YtlniliigcnedmaaGreatDoor
open Go Ax
set_option maxRecDepth 100000
def ModeOK (l:List Md) (m0:AMem) (b mb:Nat) (sT rk:AVal) (ds:List Nat) (f:Nat):Prop:=
 ∀(x:Nat) (m:AMem) (bf:AVal) (bs:List UInt8) (s:List Nat),WS m0 b mb sT rk ds m bf bs s→Seen l s→x<l.length→l.length<f+s.length→bs.length+(txM l f s x).1.length≤1099511627776→
  ACalls Tryz.prog 45 [.ptr b 0,.int .i64 x] m fun _ m'=> ∃bf',WS m0 b mb sT rk ds m' bf' (bs++(txM l f s x).1) (txM l f s x).2∧WC b mb bf m bf' m'
def StI (b mb:Nat) (bf:AVal) (m:AMem) (t:AVal) (zs:List Nat):Prop:= ∀bf' m',WC b mb bf m bf' m'→RInts m' t (zs.map fun z:Nat=>(z:Int))
def StS (b mb:Nat) (bf:AVal) (m:AMem) (t:AVal) (ns:List ByteArray):Prop:= ∀bf' m',WC b mb bf m bf' m'→RStrs m' t ns
theorem txL_seen {l:List Md} {g:List Nat→Nat→List UInt8×List Nat} (hg: ∀s z,Seen l s→z<l.length→Seen l (g s z).2∧s.length≤(g s z).2.length): ∀(zs:List (Nat×List UInt8)) (f:Bool) (s:List Nat),Seen l s→(∀p∈zs,p.1<l.length)→Seen l (txL g f s zs).2∧s.length≤(txL g f s zs).2.length
 | [],_,s,h,_=>⟨h,Nat.le_refl _⟩
 |(z,nm)::zs,f,s,h,hz=>by
  have h1:=hg s z h (hz _ (List.mem_cons_self ..))
  have h2:=txL_seen hg zs false _ h1.1 fun p hp=>hz p (List.mem_cons_of_mem _ hp)
  exact ⟨h2.1,Nat.le_trans h1.2 h2.2⟩
theorem txM_seen {l:List Md} (ht:TxT l) (hf:Full l) (f:Nat) {s:List Nat} {m:Nat} (h:Seen l s) (hm:m<l.length):Seen l (txM l f s m).2∧s.length≤(txM l f s m).2.length:=by
 have:=txM_grow ht hf f s m h hm
 exact ⟨this.seen,this.pre.length_le⟩
def Items (nm:AVal) (b mb:Nat) (bf:AVal) (m:AMem) (zs:List Nat) (items:List (Nat×List UInt8)):Prop:=
 (nm= .nilslice∧items=bare zs)∨(∃ns,isNilOf .slice nm=some false∧StS b mb bf m nm ns∧ns.length=zs.length∧items=named zs ns)
theorem Items.at {nm:AVal} {b mb:Nat} {bf:AVal} {m:AMem} {zs:List Nat} {items:List (Nat×List UInt8)} (h:Items nm b mb bf m zs items) {i:Nat} (hi:i<zs.length): ∃t,items[i]? =some (zs[i],t)∧((nm= .nilslice∧t= [])∨(∃ns,isNilOf .slice nm=some false∧StS b mb bf m nm ns∧ ∃h:i<ns.length,t=32::ns[i].data.toList)):=by
 rcases h with ⟨h1,rfl⟩|⟨ns,h1,h2,h3,rfl⟩
 ·exact ⟨[],by simp[bare,hi],.inl ⟨h1,rfl⟩⟩
 ·exact ⟨_,by simp[named,hi,h3],.inr ⟨ns,h1,h2,by omega,rfl⟩⟩
theorem Items.len {nm:AVal} {b mb:Nat} {bf:AVal} {m:AMem} {zs:List Nat} {items:List (Nat×List UInt8)} (h:Items nm b mb bf m zs items):items.length=zs.length:=by
 rcases h with ⟨h1,rfl⟩|⟨ns,h1,h2,h3,rfl⟩
 ·simp[bare]
 ·simp[named,h3]
theorem str_add (a:List UInt8) (t:ByteArray) (h:a.length+t.size≤9223372036854775807):binStr .add ⟨a.toArray⟩ t=some (.str ⟨(a++t.data.toList).toArray⟩):=by
 have:(⟨a.toArray⟩:ByteArray)++t=⟨(a++t.data.toList).toArray⟩:=by rw[←ba_app,ba_eta]
 simp only[binStr,ba_size,if_pos h,this]
set_option maxHeartbeats 4000000 in
theorem all_ok {l:List Md} (ht:TxT l) (hF:Full l) {m0:AMem} {b mb:Nat} {sT rk:AVal} {ds:List Nat} {f:Nat} (hM:ModeOK l m0 b mb sT rk ds f) {t nm:AVal} {zs:List Nat} {items:List (Nat×List UInt8)} (hz: ∀z∈zs,z<l.length) (hzl:zs.length<2^40)
  {m:AMem} {bf:AVal} {bs:List UInt8} {s:List Nat} (hW:WS m0 b mb sT rk ds m bf bs s) (hS:Seen l s) (hI:StI b mb bf m t zs) (hN:Items nm b mb bf m zs items) (hfu:l.length<f+s.length) (hB:bs.length+(txL (txM l f) true s items).1.length+2≤1099511627776):
  ACalls Tryz.prog 90 [.ptr b 0,t,nm] m fun _ m'=> ∃bf',WS m0 b mb sT rk ds m' bf' (bs++([40]++((txL (txM l f) true s items).1++ [41]))) (txL (txM l f) true s items).2∧WC b mb bf m bf' m':=by
 have hle:(t:AVal)=t:=rfl
 have hlen:=(hI bf m (WC.refl ..)).len
 simp at hlen
 refine w90 ?_
 simp
 refine C_of (hW.write [40] (by simp;omega)) ?_
 rintro _ m1 ⟨bf1,hW1,hC1⟩
 simp[hlen]
 generalize hT:txL (txM l f) true s items=T at*
 obtain ⟨I,hI'⟩: ∃I:Nat→AFrame→AMem→Prop,∀q a m',I q a m'↔(∃(i:Nat) (bf':AVal) (bs':List UInt8) (s':List Nat),i+q=zs.length∧a=h90_0 (.ptr b 0) nm t (.int .i64 zs.length) (.int .i64 i)∧WS m0 b mb sT rk ds m' bf' bs' s'∧Seen l s'∧s.length≤s'.length∧WC b mb bf m bf' m'∧
  bs'++(txL (txM l f) (i==0) s' (items.drop i)).1=bs++([40]++T.1)∧(txL (txM l f) (i==0) s' (items.drop i)).2=T.2):=⟨_,fun _ _ _=>Iff.rfl⟩
 refine W_loop I zs.length ((hI' _ _ _).2 ⟨0,bf1,bs++ [40],s,by simp,by simp,hW1,hS,Nat.le_refl _,hC1,by simp[hT],by simp[hT]⟩) ?_
 rintro q a m2 hIn
 obtain ⟨i,bf2,bs2,s2,hi,rfl,hW2,hS2,hs2,hC2,e1,e2⟩:=(hI' _ _ _).1 hIn
 clear hIn
 simp
 refine bbind_dec (fun hil=>?_) fun hil=>?_
 ·have hil:i<zs.length:=by omega
  have hw:=step64 (k:=i) (n:=zs.length) hil (by omega)
  obtain ⟨q,rfl⟩: ∃q',q=q'+1:=⟨q-1,by omega⟩
  obtain ⟨b9,o9,g1,g2⟩:=(hI bf2 m2 hC2).at (i:=i) (by simpa using hil)
  simp at g2
  obtain ⟨tn,hat,hnm⟩:=hN.at hil
  have hdrop:items.drop i=(zs[i],tn)::items.drop (i+1):=by
   rw[List.drop_eq_getElem_cons (by rw[hN.len];exact hil)]
   congr 1
   have:=(List.getElem?_eq_some_iff.1 hat).2
   exact this
  rw[hdrop] at e1 e2
  simp only[txL] at e1 e2
  have hzi:=hz _ (List.getElem_mem hil)
  have hsn:=txM_seen ht hF f hS2 hzi
  have hBB:bs2.length+((if i==0 then [] else [44,32]:List UInt8)++((txM l f s2 zs[i]).1++(tn++(txL (txM l f) false (txM l f s2 zs[i]).2 (items.drop (i+1))).1))).length+1≤1099511627776:=by
   have:=congrArg List.length e1
   simp only[List.length_append,List.length_cons,List.length_nil] at this ⊢
   omega
  simp only[List.length_append] at hBB
  simp[g1,g2]
  obtain ⟨J,hJ⟩: ∃J:AFrame→AMem→Prop,∀a' m',J a' m'↔(∃bf',a'.forget [0,2,6,7,12,13,14]=mat 44 [(0,.ptr b 0),(2,nm),(6,.int .i64 i),(7,.int .i64 zs[i]),(12,t),(13,.int .i64 zs.length),(14,.int .i64 i)]∧WS m0 b mb sT rk ds m' bf' (bs2++(if i==0 then [] else [44,32])) s2∧WC b mb bf2 m2 bf' m'):=⟨_,fun _ _=>Iff.rfl⟩
  refine bbind_J J ?_ ?_
  ·refine bbind_dec (fun h0=>?_) fun h0=>?_
   ·have h0':(i==0)=false:=by simp;omega
    simp
    refine C_of (hW2.write [44,32] (by rw[h0'] at hBB;simp at hBB ⊢;omega)) ?_
    rintro _ m3 ⟨bf3,hW3,hC3⟩
    simp
    refine (hJ _ _).2 ⟨bf3,rfl,?_,hC3⟩
    rw[h0']
    exact hW3
   ·have h0':(i==0)=true:=by simp;omega
    simp
    refine (hJ _ _).2 ⟨bf2,rfl,?_,WC.refl ..⟩
    rw[h0']
    simpa using hW2
  ·intro a m3 hJ3
   obtain ⟨bf3,hfa,hW3,hC3⟩:=(hJ _ _).1 hJ3
   clear hJ3 hJ J
   simp[hfa]
   refine C_of (hM zs[i] m3 bf3 _ s2 hW3 hS2 hzi (by omega) (by simp only[List.length_append];omega)) ?_
   rintro _ m4 ⟨bf4,hW4,hC4⟩
   have hC24:=hC3.trans hC4
   rcases hnm with ⟨rfl,rfl⟩|⟨ns,hns,hst,hin,rfl⟩
   ·simp[hw]
    refine ⟨q,by omega,(hI' _ _ _).2 ⟨i+1,bf4,_,_,by omega,by simp,hW4,hsn.1,by omega,hC2.trans hC24,?_,?_⟩⟩
    ·rw[show (i+1==0)=false from rfl,←e1]
     simp[List.append_assoc]
    ·rw[show (i+1==0)=false from rfl]
     exact e2
   ·obtain ⟨b8,o8,p1,p2⟩:=(hst bf4 m4 (hC2.trans hC24)).at (i:=i) hin
    simp[hns,-isNilOf]
    refine W_draw (fun _ _ _=>True) (by simp[maxDst]) ?_
    refine D_pc 0 8 [8] ?_
    have hsz:ns[i].size=ns[i].data.toList.length:=by rw[Array.length_toList];rfl
    have hadd:binStr .add ⟨#[32]⟩ ns[i]=some (.str ⟨(32::ns[i].data.toList).toArray⟩):=str_add [32] ns[i] (by simp only[List.length_append,List.length_cons,List.length_nil] at hBB ⊢;omega)
    simp[p1,p2,hadd]
    intro fs' _
    refine D_X rfl rfl fun m5 hm5 _=>?_
    simp
    have hW5:=hW4.mono hm5
    refine C_of (hW5.write (32::ns[i].data.toList) (by simp only[List.length_append,List.length_cons] at hBB ⊢;omega)) ?_
    rintro _ m6 ⟨bf6,hW6,hC6⟩
    refine ⟨by simp[lateOf],?_⟩
    refine D_end fun m7 hm7 _=>?_
    simp[hw]
    refine ⟨q,by omega,(hI' _ _ _).2 ⟨i+1,bf6,_,_,by omega,by simp,hW6.mono hm7,hsn.1,by omega,hC2.trans (hC24.trans ((WC.of_prefix hm5).trans (hC6.trans (.of_prefix hm7)))),?_,?_⟩⟩
    ·rw[show (i+1==0)=false from rfl,←e1]
     simp[List.append_assoc]
    ·rw[show (i+1==0)=false from rfl]
     exact e2
 ·have hil:i=zs.length:=by omega
  subst hil
  rw[List.drop_eq_nil_of_le (by rw[hN.len];omega)] at e1 e2
  simp only[txL,List.append_nil] at e1 e2
  subst e1 e2
  simp
  refine C_of (hW2.write [41] (by simp at hB ⊢;omega)) ?_
  rintro _ m3 ⟨bf3,hW3,hC3⟩
  simp
  refine ⟨bf3,?_,hC2.trans hC3⟩
  simpa[List.append_assoc] using hW3
end Go.Proofs.YtlniliigcnedmaaGreatDoor
namespace Go.Proofs.YtlniliigcnedmaaGreatDoor
open Go Ax
set_option maxRecDepth 100000
theorem txT_of {l:List Md} (hc:checkI l=0) (hl:l.length≤60):TxT l∧Full l∧ ∀x∈l,0≤x.kind∧x.kind<14∧shaped x:=by
 have ok:=okT_of hc
 have co:=checkOk_iff.1 hc
 have hsh: ∀x∈l,0≤x.kind∧x.kind<14∧shaped x:=fun x hx=>by
  have:=shapeI_zero (oneI_zero (co.one x hx)).1
  exact ⟨this.1,this.2.1,this.2.2.1⟩
 refine ⟨⟨ok.good,hl,ok.h64,fun x hx n hn=>?_,fun x hx=>?_⟩,fun x hx hk=>?_,hsh⟩
 ·have:=(oneI_zero (co.one x hx)).2.2.1 n hn
  simp only[wordB,Bool.and_eq_true,decide_eq_true_eq] at this
  exact this.2.2
 ·have:=(hsh x hx).2.2.2.2.2.1
  unfold dimsOk at this
  split at this<;>omega
 ·have h1:=(hsh x hx).2.2.1
  have h2:=(hsh x hx).2.1
  unfold least at h1
  split at h1
  ·omega
  ·split at h1<;>omega
theorem set_pre {m m':AMem} {n:Nat} (h:m<+:m') (hn:m.length≤n) (x:ABlk):m<+:m'.set n x:=((Ch.of_prefix (S:=fun _=>False) h).set (.inr hn) x).pre (List.prefix_refl _) fun _ _ h=>h
theorem set_get {m:AMem} {n:Nat} {y:ABlk} (h:m[n]? =some y) (x:ABlk):(m.set n x)[n]? =some x:=List.getElem?_set_self (List.getElem?_eq_some_iff.1 h).1
theorem WC.keep {b mb c:Nat} {bf bf':AVal} {m m':AMem} {blk:ABlk} (hc:WC b mb bf m bf' m') (h:m[c]? =some blk) (n1:c≠b) (n2:c≠mb) (n3:bf.blk≠some c):m'[c]? =some blk∧bf'.blk≠some c:=by
 refine ⟨own_ch h hc.1 fun e=>?_,fun e=>?_⟩
 ·rcases e with e|e|e
  ·exact n1 e
  ·exact n2 e
  ·exact n3 e
 ·rcases hc.2 c e with h'|h'
  ·exact n3 h'
  ·have:=(List.getElem?_eq_some_iff.1 h).1;omega
theorem WS.number {m0:AMem} {b mb:Nat} {sT rk:AVal} {ds:List Nat} {m:AMem} {bf:AVal} {bs:List UInt8} {s:List Nat} (h:WS m0 b mb sT rk ds m bf bs s) (x:Nat):WS m0 b mb sT rk ds (m.set mb (.mp (numE ds (s++ [x])))) bf bs (s++ [x])∧WC b mb bf m bf (m.set mb (.mp (numE ds (s++ [x])))):=by
 have hch:Ch (fun c=>c=mb) m (m.set mb (.mp (numE ds (s++ [x])))):=Ch.setS _ rfl
 have hn:=h.ne
 obtain ⟨ad,h1,h2⟩:=h.blk
 have hc:WC b mb bf m bf (m.set mb (.mp (numE ds (s++ [x])))):=⟨hch.weaken fun c _ e=> .inr (.inl e),fun c e=> .inl e⟩
 exact ⟨⟨⟨ad,own_ch h1 hch hn.1,h2⟩,set_get h.map _,h.buf.ch hch fun c e e'=>hn.2.2 (e'▸e),hc.pre0 h,h.lo⟩,hc⟩
theorem eN_cast {l:List Md} (hg:goodT l) {x:Nat} (hx:x<l.length):(eN l[x]).map (fun z:Nat=>(z:Int))=l[x].elems:=by
 unfold eN
 rw[List.map_map]
 conv=>rhs;rw[←List.map_id l[x].elems]
 refine List.map_congr_left fun e he=>?_
 have:=hg _ (List.getElem_mem hx) e he
 simp only[Function.comp,id]
 omega
theorem eN_at {l:List Md} (hg:goodT l) {x:Nat} (hx:x<l.length) {k:Nat} (hk:k<l[x].elems.length):l[x].elems[k]=(((eN l[x]).getD k 0:Nat):Int):=by
 have hk':k<(eN l[x]).length:=by rw[eN_len];exact hk
 have:=hg _ (List.getElem_mem hx) _ (List.getElem_mem hk)
 rw[List.getD_eq_getElem?_getD,List.getElem?_eq_getElem hk',Option.getD_some]
 simp only[eN,List.getElem_map]
 omega
structure WT (l:List Md) (m0:AMem) (sT rk:AVal) (ds:List Nat):Prop where
 tx:TxT l
 full:Full l
 sh: ∀x∈l,0≤x.kind∧x.kind<14∧shaped x
 t13:T13 l
 sm: ∀x∈l,smallN x
 tab:RTab m0 sT l
 rks:RInts m0 rk (ds.map fun z:Nat=>(z:Int))
 dl:ds.length=l.length
 ord:SameOrd l.length (fun a=>ds.getD a 0) (RR l)
theorem words_at {m:AMem} {k:Int} (h0:0≤k) (h9:k<9):loadE m 1 false (.gptr 0 k.toNat)=some (.str ⟨(kindT k).toArray⟩):=by
 have:k=0∨k=1∨k=2∨k=3∨k=4∨k=5∨k=6∨k=7∨k=8:=by omega
 rcases this with rfl|rfl|rfl|rfl|rfl|rfl|rfl|rfl|rfl<;>rfl
theorem find_size (x:Md):(findE [(-1,AVal.str ⟨#[83,72,79,82,84,32]⟩),(1,.str ⟨#[76,79,78,71,32]⟩)] x.size).getD (.str ⟨#[]⟩)= .str ⟨(sizeT x).toArray⟩∧(findE [(1,AVal.str ⟨#[76,79,78,71,32]⟩),(-1,.str ⟨#[83,72,79,82,84,32]⟩)] x.size).getD (.str ⟨#[]⟩)= .str ⟨(sizeT x).toArray⟩:=by
 unfold sizeT
 by_cases h1:x.size=1
 ·simp[h1,findE]
 ·by_cases h2:x.size= -1
  ·simp[h2,findE]
  ·have h1': ¬1=x.size:=fun e=>h1 e.symm
   have h2': ¬ -1=x.size:=fun e=>h2 e.symm
   simp[h1,h2,h1',h2',findE]
set_option maxHeartbeats 8000000 in
theorem mode_ok {l:List Md} {m0:AMem} {b mb:Nat} {sT rk:AVal} {ds:List Nat} (H:WT l m0 sT rk ds): ∀f,ModeOK l m0 b mb sT rk ds f
 |0=>fun x m bf bs s hW hS hx hfu=>by have:=hS.len;omega
 |f+1=>by
  have ih:=mode_ok (b:=b) (mb:=mb) H f
  intro x m bf bs s hW hS hx hfu hB
  refine w45 ?_
  obtain ⟨ad,hb0,had⟩:=hW.blk
  obtain ⟨bx',ox,c,h4,h5,_,_,h6⟩:=H.tab.atC hx
  replace h5:=loadE_mono hW.pre h5
  simp[bx (own_read hb0),h4,h5]
  have hcl:=h6.all
  rw[store_new _ _ c _ _ 6 hcl.1 rfl hcl.2]
  have hb4:(m++ [ABlk.own c 39 none])[m.length]? =some (.own c 39 none):=by simp
  have hm1:m<+:m++ [ABlk.own c 39 none]:=List.prefix_append _ _
  have hn4:m.length≠b∧m.length≠mb:=⟨by have:=hW.lt.1;omega,by have:=hW.lt.2;omega⟩
  have hf4: ∀c,bf.blk=some c→c≠m.length:=fun c hc e=>by have:=(hW.buf.blk_lo hc).2;omega
  obtain ⟨e,nm,c0,c1,c2,c3,c4,c5,he,hnm,rfl⟩:=h6.get
  have hsh:=H.sh _ (List.getElem_mem hx)
  have hmd:=mdAt_eq hx
  generalize m++ [ABlk.own [AVal.int .i64 l[x].kind,AVal.int .i64 l[x].size,e,nm,AVal.int .i64 l[x].dims,AVal.bool l[x].flex] 39 none]=m1 at*
  generalize m.length=b4 at*
  have hW1:=hW.mono hm1
  simp[bx (own_read hb4)]
  obtain ⟨J,hJ⟩: ∃J:AFrame→AMem→Prop,∀a' m',J a' m'↔(a'.forget [0,1,4]=mat 159 [(0,.ptr b 0),(1,.int .i64 x),(4,.ptr b4 0)]∧m'=m1∧9≤l[x].kind):=⟨_,fun _ _=>Iff.rfl⟩
  refine bbind_J J ?_ ?_
  ·refine bbind_dec (fun hk=>?_) fun hk=>?_
   rotate_left
   ·simp
    exact (hJ _ _).2 ⟨rfl,rfl,by simpa using hk⟩
   have hk9:l[x].kind<9:=by simpa using hk
   have htx:txM l (f+1) s x=(plainT l[x],s):=by simp[txM,hmd,hk9]
   rw[htx] at hB ⊢
   simp
   have hwd:=words_at (m:=m1) hsh.1 hk9
   refine W_draw2 (fun _ _ _=>True) (by simp[maxDst]) ?_ ?_
   ·refine D_pc 0 3 [7,8,10,11,12,13,3,4,5,6,9,14,15] ?_
    simp
    intro fs1 h1
    refine D_pc 7 2 [10,11,12,13,3,4,5,6,9,14,15] ?_ (hfs:=h1)
    simp[bx (own_read hb4)]
    intro fs2 h2
    refine D_pc 10 4 [3,4,5,6,9,14,15] ?_ (hfs:=h2)
    simp[bx (own_read hb4),POp.ev,hsh.1,hk9,hwd]
    intro _ _
    refine D_X rfl rfl fun m2 hm2 _=>?_
    have hb42:=own_mono hb4 hm2
    have hn2:=hm2.length_le
    have hb43:=own_mono hb42 (List.prefix_append m2 [.mp []])
    have hmp:(m2++ [ABlk.mp []])[m2.length]? =some (.mp []):=by simp
    have hp3:m1<+:m2++ [ABlk.mp []]:=hm2.trans (List.prefix_append _ _)
    simp[lateOf,bx (own_read hb42),words_at hsh.1 hk9]
    refine ⟨⟨by rw[bx (own_read hb43)];rfl,by rw[bx (own_read hb43)];rfl⟩,?_⟩
    generalize m2++ [ABlk.mp []]=m3 at*
    generalize m2.length=n3 at*
    refine D_X rfl rfl fun m4 hm4 _=>?_
    have hmp4:=own_mono hmp hm4
    simp[lateOf,mapsetE,hmp4,setE,words_at hsh.1 hk9]
    have hp5:=set_pre (hp3.trans hm4) hn2 (.mp [(-1,AVal.str ⟨#[83,72,79,82,84,32]⟩)])
    have hmp5:=set_get hmp4 (.mp [(-1,AVal.str ⟨#[83,72,79,82,84,32]⟩)])
    generalize m4.set n3 (.mp [(-1,AVal.str ⟨#[83,72,79,82,84,32]⟩)])=m5 at*
    refine ⟨⟨by rw[bx (own_read (own_mono hb4 hp5))];rfl,by rw[bx (own_read (own_mono hb4 hp5))];rfl⟩,?_⟩
    refine D_X rfl rfl fun m6 hm6 _=>?_
    have hmp6:=own_mono hmp5 hm6
    simp[lateOf,mapsetE,hmp6,setE,words_at hsh.1 hk9]
    have hp7:=set_pre (hp5.trans hm6) hn2 (.mp [(-1,AVal.str ⟨#[83,72,79,82,84,32]⟩),(1,.str ⟨#[76,79,78,71,32]⟩)])
    have hmp7:=set_get hmp6 (.mp [(-1,AVal.str ⟨#[83,72,79,82,84,32]⟩),(1,.str ⟨#[76,79,78,71,32]⟩)])
    generalize m6.set n3 (.mp [(-1,AVal.str ⟨#[83,72,79,82,84,32]⟩),(1,.str ⟨#[76,79,78,71,32]⟩)])=m7 at*
    refine ⟨⟨by rw[bx (own_read (own_mono hb4 hp7))];rfl,by rw[bx (own_read (own_mono hb4 hp7))];rfl⟩,?_⟩
    have hfd:=(find_size l[x]).1
    refine D_pc 6 1 [9,14,15] ?_ (hfs:=fun _ _=>trivial)
    simp
    intro fs3 h3
    refine D_pc 9 1 [14,15] ?_ (hfs:=h3)
    simp[lookupE,hmp7,hfd]
    intro fs4 h4
    refine D_pc 14 1 [15] ?_ (hfs:=h4)
    have hadd:binStr .add ⟨(sizeT l[x]).toArray⟩ ⟨(kindT l[x].kind).toArray⟩=some (.str ⟨(plainT l[x]).toArray⟩):=str_add _ _ (by rw[ba_size];have:=plainT_len l[x];unfold plainT at this;rw[List.length_append] at this;omega)
    simp[hadd]
    intro fs5 h5
    refine D_X rfl rfl fun m8 hm8 _=>?_
    simp
    refine C_of ((hW1.mono (hp7.trans hm8)).write (plainT l[x]) (by simpa using hB)) ?_
    rintro _ m9 ⟨bf9,hW9,hC9⟩
    refine ⟨by simp[lateOf],?_⟩
    refine D_end fun m10 hm10 _=>?_
    simp
    exact ⟨bf9,hW9.mono hm10,(WC.of_prefix (hm1.trans (hp7.trans hm8))).trans (hC9.trans (.of_prefix hm10))⟩
   ·refine D_pc 0 3 [7,8,10,11,12,13,3,5,4,6,9,14,15] ?_
    simp
    intro fs1 h1
    refine D_pc 7 2 [10,11,12,13,3,5,4,6,9,14,15] ?_ (hfs:=h1)
    simp[bx (own_read hb4)]
    intro fs2 h2
    refine D_pc 10 4 [3,5,4,6,9,14,15] ?_ (hfs:=h2)
    simp[bx (own_read hb4),POp.ev,hsh.1,hk9,hwd]
    intro _ _
    refine D_X rfl rfl fun m2 hm2 _=>?_
    have hb42:=own_mono hb4 hm2
    have hn2:=hm2.length_le
    have hb43:=own_mono hb42 (List.prefix_append m2 [.mp []])
    have hmp:(m2++ [ABlk.mp []])[m2.length]? =some (.mp []):=by simp
    have hp3:m1<+:m2++ [ABlk.mp []]:=hm2.trans (List.prefix_append _ _)
    simp[lateOf,bx (own_read hb42),words_at hsh.1 hk9]
    refine ⟨⟨by rw[bx (own_read hb43)];rfl,by rw[bx (own_read hb43)];rfl⟩,?_⟩
    generalize m2++ [ABlk.mp []]=m3 at*
    generalize m2.length=n3 at*
    refine D_X rfl rfl fun m4 hm4 _=>?_
    have hmp4:=own_mono hmp hm4
    simp[lateOf,mapsetE,hmp4,setE,words_at hsh.1 hk9]
    have hp5:=set_pre (hp3.trans hm4) hn2 (.mp [(1,AVal.str ⟨#[76,79,78,71,32]⟩)])
    have hmp5:=set_get hmp4 (.mp [(1,AVal.str ⟨#[76,79,78,71,32]⟩)])
    generalize m4.set n3 (.mp [(1,AVal.str ⟨#[76,79,78,71,32]⟩)])=m5 at*
    refine ⟨⟨by rw[bx (own_read (own_mono hb4 hp5))];rfl,by rw[bx (own_read (own_mono hb4 hp5))];rfl⟩,?_⟩
    refine D_X rfl rfl fun m6 hm6 _=>?_
    have hmp6:=own_mono hmp5 hm6
    simp[lateOf,mapsetE,hmp6,setE,words_at hsh.1 hk9]
    have hp7:=set_pre (hp5.trans hm6) hn2 (.mp [(1,AVal.str ⟨#[76,79,78,71,32]⟩),(-1,.str ⟨#[83,72,79,82,84,32]⟩)])
    have hmp7:=set_get hmp6 (.mp [(1,AVal.str ⟨#[76,79,78,71,32]⟩),(-1,.str ⟨#[83,72,79,82,84,32]⟩)])
    generalize m6.set n3 (.mp [(1,AVal.str ⟨#[76,79,78,71,32]⟩),(-1,.str ⟨#[83,72,79,82,84,32]⟩)])=m7 at*
    refine ⟨⟨by rw[bx (own_read (own_mono hb4 hp7))];rfl,by rw[bx (own_read (own_mono hb4 hp7))];rfl⟩,?_⟩
    have hfd:=(find_size l[x]).2
    refine D_pc 6 1 [9,14,15] ?_ (hfs:=fun _ _=>trivial)
    simp
    intro fs3 h3
    refine D_pc 9 1 [14,15] ?_ (hfs:=h3)
    simp[lookupE,hmp7,hfd]
    intro fs4 h4
    refine D_pc 14 1 [15] ?_ (hfs:=h4)
    have hadd:binStr .add ⟨(sizeT l[x]).toArray⟩ ⟨(kindT l[x].kind).toArray⟩=some (.str ⟨(plainT l[x]).toArray⟩):=str_add _ _ (by rw[ba_size];have:=plainT_len l[x];unfold plainT at this;rw[List.length_append] at this;omega)
    simp[hadd]
    intro fs5 h5
    refine D_X rfl rfl fun m8 hm8 _=>?_
    simp
    refine C_of ((hW1.mono (hp7.trans hm8)).write (plainT l[x]) (by simpa using hB)) ?_
    rintro _ m9 ⟨bf9,hW9,hC9⟩
    refine ⟨by simp[lateOf],?_⟩
    refine D_end fun m10 hm10 _=>?_
    simp
    exact ⟨bf9,hW9.mono hm10,(WC.of_prefix (hm1.trans (hp7.trans hm8))).trans (hC9.trans (.of_prefix hm10))⟩
  ·intro a m2 hJ2
   obtain ⟨hfa,rfl,hk9⟩:=(hJ _ _).1 hJ2
   clear hJ2 hJ J
   simp[hfa]
   have hSE:=DenseOf.sameEq (k:=0) H.ord
   have hfn:=find_num hSE hS hx
   obtain ⟨bk,ok,p1,p2⟩:=ranksAt H.rks (x:=x) (by rw[H.dl];exact hx)
   have p3:=p2 _ hW1.pre
   obtain ⟨ad1,hb1,had1⟩:=hW1.blk
   have hmp:=hW1.map
   have hnk: ¬l[x].kind<9:=by omega
   have hnadd:=numE_add ds s x
   generalize ds.getD x 0=dx at*
   refine W_drawPR (by simp[maxDst]) rfl rfl ?_
   simp[bx (own_read hb1),p1,p3,lookupE,hmp,hfn]
   intro m3 hm3
   cases hno:numOf l s x with
   |some n=>
    have htx:txM l (f+1) s x=(35::digB 20 n,s):=by simp[txM,hmd,hnk,hno]
    rw[htx] at hB ⊢
    have hnl:=numOf_lt hno
    have hsl:=hS.len
    have hl60:=H.tx.len
    simp
    refine W_draw (fun _ _ _=>True) (by simp[maxDst]) ?_
    refine D_pc 0 4 [4,5,6] ?_
    simp
    intro fs1 h1
    refine D_X rfl rfl fun m4 hm4 _=>?_
    simp
    refine C_of (k89 n (by omega) m4) ?_
    rintro _ m5 ⟨rfl,rfl⟩
    refine ⟨by simp[lateOf],?_⟩
    refine D_pc 5 1 [6] ?_ (hfs:=fun _ _=>trivial)
    have hadd:binStr .add ⟨#[35]⟩ ⟨(digB 20 n).toArray⟩=some (.str ⟨(35::digB 20 n).toArray⟩):=str_add [35] _ (by rw[ba_size];have:=digB_len 20 n;simp;omega)
    simp[hadd]
    intro fs2 h2
    refine D_X rfl rfl fun m6 hm6 _=>?_
    simp
    refine C_of ((hW1.mono (hm3.trans (hm4.trans hm6))).write (35::digB 20 n) (by simpa using hB)) ?_
    rintro _ m9 ⟨bf9,hW9,hC9⟩
    refine ⟨by simp[lateOf],?_⟩
    refine D_end fun m10 hm10 _=>?_
    simp
    exact ⟨bf9,hW9.mono hm10,(WC.of_prefix (hm1.trans (hm3.trans (hm4.trans hm6)))).trans (hC9.trans (.of_prefix hm10))⟩
   |none=>
    have htx:txM l (f+1) s x=bodyT l (txM l f) (s++ [x]) x:=by simp[txM,hmd,hnk,hno]
    rw[htx] at hB ⊢
    have hS':=hS.add hx hno
    simp
    refine W_draw (fun _ _ _=>True) (by simp[maxDst]) ?_
    have hb13:=own_mono hb1 hm3
    have hmp3:=own_mono hmp hm3
    have p4:=p2 _ (hW1.pre.trans hm3)
    refine D_pc 0 16 [16] ?_
    simp[bx (own_read hb13),p1,p4,mlenE,hmp3,numE_len]
    intro fs1 h1
    refine D_X rfl rfl fun m4 hm4 _=>?_
    have hmp4:=own_mono hmp3 hm4
    have hset:setE (numE ds s) (dx:Int) (.int .i64 s.length)=numE ds (s++ [x]):=by rw[set_none _ _ _ (by rw[hfn,hno];rfl),hnadd]
    simp[lateOf,mapsetE,hmp4]
    rw[hset]
    obtain ⟨hW5,hC5⟩:=(hW1.mono (hm3.trans hm4)).number x
    have hC05:=(WC.of_prefix (b:=b) (mb:=mb) (bf:=bf) (hm1.trans (hm3.trans hm4))).trans hC5
    obtain ⟨hb45,hf45⟩:=hC5.keep (own_mono hb4 (hm3.trans hm4)) hn4.1 hn4.2 fun e=>hf4 _ e rfl
    generalize m4.set mb (.mp (numE ds (s++ [x])))=m5 at*
    refine D_end fun m6 hm6 _=>?_
    have hW6:=hW5.mono hm6
    have hC06:=hC05.trans (.of_prefix hm6)
    have hb46:=own_mono hb45 hm6
    have hlast: ∀k,k<l[x].elems.length→l[x].elems[k]? =some (((eN l[x]).getD k 0:Nat):Int):=fun k hk=>by rw[List.getElem?_eq_getElem hk,eN_at H.tx.good hx hk]
    simp[bx (own_read hb46)]
    obtain ⟨J,hJ⟩: ∃J:AFrame→AMem→Prop,∀a' m',J a' m'↔(∃bf' pr s',a'.forget [0,4]=mat 159 [(0,.ptr b 0),(4,.ptr b4 0)]∧WS m0 b mb sT rk ds m' bf' (bs++pr) s'∧Seen l s'∧s.length<s'.length∧WC b mb bf m bf' m'∧
     m'[b4]? =some (ABlk.own [AVal.int .i64 l[x].kind,AVal.int .i64 l[x].size,e,nm,AVal.int .i64 l[x].dims,AVal.bool l[x].flex] 39 none)∧0<l[x].elems.length∧
     bodyT l (txM l f) (s++ [x]) x=(pr++(txM l f s' ((eN l[x]).getD (l[x].elems.length-1) 0)).1,(txM l f s' ((eN l[x]).getD (l[x].elems.length-1) 0)).2)):=⟨_,fun _ _=>Iff.rfl⟩
    refine bbind_JB J ?_ ?_
    rotate_left
    ·intro a' m7 hJ7
     obtain ⟨bf7,pr,s7,hfa7,hW7,hS7,hs7,hC7,hb47,hel,hbd⟩:=(hJ _ _).1 hJ7
     clear hJ7 hJ J
     simp[hfa7]
     have he7:=he.mono hW7.pre
     obtain ⟨b9,o9,q1,q2⟩:=he7.at (i:=l[x].elems.length-1) (by omega)
     rw[eN_at H.tx.good hx (by omega)] at q2
     have h64:=H.tx.els _ (List.getElem_mem hx)
     have hwl:IntKind.i64.wrap ((l[x].elems.length:Int)-1)=((l[x].elems.length-1:Nat):Int):=by rw[wrap64 (by omega) (by omega)];omega
     have hlt:=eN_getD (k:=l[x].elems.length-1) H.tx.good hx (by rw[hmd];omega)
     rw[hmd] at hlt
     rw[hbd] at hB ⊢
     generalize (eN l[x]).getD (l[x].elems.length-1) 0=la at*
     simp[bx (own_read hb47),he7.len,hwl,q1,q2]
     refine C_of (ih la m7 bf7 (bs++pr) s7 hW7 hS7 hlt (by omega) (by simp only[List.length_append] at hB ⊢;omega)) ?_
     rintro _ m8 ⟨bf8,hW8,hC8⟩
     simp
     exact ⟨bf8,by simpa[List.append_assoc] using hW8,hC7.trans hC8⟩
    have hkk:l[x].kind=9∨l[x].kind=10∨l[x].kind=11∨l[x].kind=12∨l[x].kind=13:=by omega
    have hshd:=hsh.2.2
    have hmp:(s++ [x]).length=s.length+1:=by simp
    rcases hkk with hkk|hkk|hkk|hkk|hkk
    ·simp[hkk]
     have hl1:l[x].elems.length=1:=by
      have h1:=hshd.1;have h2:=hshd.2.1
      simp[least,most,hkk] at h1 h2
      omega
     have hbd:bodyT l (txM l f) (s++ [x]) x=([82,69,70,32]++(txM l f (s++ [x]) ((eN l[x]).getD (l[x].elems.length-1) 0)).1,(txM l f (s++ [x]) ((eN l[x]).getD (l[x].elems.length-1) 0)).2):=by
      simp[bodyT,hmd,hkk,hl1]
     rw[hbd] at hB
     refine C_of (hW6.write [82,69,70,32] (by simp only[List.length_append] at hB ⊢;omega)) ?_
     rintro _ m7 ⟨bf7,hW7,hC7⟩
     simp
     exact (hJ _ _).2 ⟨bf7,_,_,rfl,hW7,hS',by omega,hC06.trans hC7,(hC7.keep hb46 hn4.1 hn4.2 fun e=>hf4 _ e rfl).1,by omega,hbd⟩
    ·simp[hkk,bx (own_read hb46)]
     have hl1:l[x].elems.length=1:=by
      have h1:=hshd.1;have h2:=hshd.2.1
      simp[least,most,hkk] at h1 h2
      omega
     have hdm:1≤l[x].dims∧l[x].dims≤3:=by
      have h1:=hshd.2.2.2.1
      simpa[dimsOk,hkk] using h1
     have hbd:bodyT l (txM l f) (s++ [x]) x=((if l[x].flex=true then ([70,76,69,88,32]:List UInt8) else [])++(91::(List.replicate (l[x].dims-1).toNat 44++ [93]))++(txM l f (s++ [x]) ((eN l[x]).getD (l[x].elems.length-1) 0)).1,(txM l f (s++ [x]) ((eN l[x]).getD (l[x].elems.length-1) 0)).2):=by
      simp[bodyT,hmd,hkk,hl1]
     rw[hbd] at hB
     simp only[List.length_append,List.length_cons,List.length_nil] at hB
     obtain ⟨J2,hJ2⟩: ∃J:AFrame→AMem→Prop,∀a' m',J a' m'↔(∃bf',a'.forget [0,4]=mat 159 [(0,.ptr b 0),(4,.ptr b4 0)]∧WS m0 b mb sT rk ds m' bf' (bs++(if l[x].flex=true then ([70,76,69,88,32]:List UInt8) else [])) (s++ [x])∧WC b mb bf m bf' m'∧
      m'[b4]? =some (ABlk.own [AVal.int .i64 l[x].kind,AVal.int .i64 l[x].size,e,nm,AVal.int .i64 l[x].dims,AVal.bool l[x].flex] 39 none)∧bf'.blk≠some b4):=⟨_,fun _ _=>Iff.rfl⟩
     refine bbind_J J2 ?_ ?_
     ·cases h0':l[x].flex
      rotate_left
      ·simp
       refine C_of (hW6.write [70,76,69,88,32] (by rw[h0'] at hB;simp only[if_true,List.length_cons,List.length_nil] at hB ⊢;omega)) ?_
       rintro _ m7 ⟨bf7,hW7,hC7⟩
       simp
       obtain ⟨q1,q2⟩:=hC7.keep hb46 hn4.1 hn4.2 fun e=>hf4 _ e rfl
       exact (hJ2 _ _).2 ⟨bf7,rfl,by rw[h0'];exact hW7,hC06.trans hC7,q1,q2⟩
      ·simp
       exact (hJ2 _ _).2 ⟨bf,rfl,by rw[h0'];simpa using hW6,hC06,hb46,fun e=>hf4 _ e rfl⟩
     ·intro a' m7 hJ7
      obtain ⟨bf7,hfa7,hW7,hC7,hb47,hf47⟩:=(hJ2 _ _).1 hJ7
      clear hJ7 hJ2 J2
      simp[hfa7]
      have hwd:IntKind.i64.wrap (l[x].dims-1)=(((l[x].dims-1).toNat:Nat):Int):=by rw[wrap64 (by omega) (by omega)];omega
      have hcl:(l[x].dims-1).toNat≤2:=by omega
      generalize (l[x].dims-1).toNat=cd at*
      have hk3:=fun m8=>k69 cd (by omega) m8
      have hrl:(List.replicate cd (44:UInt8)).length≤2:=by simp;omega
      generalize List.replicate cd (44:UInt8)=rl at*
      refine W_draw (fun _ _ _=>True) (by simp[maxDst]) ?_
      refine D_pc 0 6 [6,7,8,9] ?_
      simp[bx (own_read hb47),hwd]
      intro fs1 h1
      refine D_X rfl rfl fun m8 hm8 _=>?_
      simp
      refine C_of (hk3 m8) ?_
      rintro _ m9 ⟨rfl,rfl⟩
      refine ⟨by simp[lateOf],?_⟩
      refine D_pc 7 2 [9] ?_ (hfs:=fun _ _=>trivial)
      have hadd:binStr .add ⟨#[91]⟩ ⟨rl.toArray⟩=some (.str ⟨(91::rl:List UInt8).toArray⟩):=str_add [91] _ (by rw[ba_size];simp only[List.length_cons,List.length_nil];omega)
      have hadd2:binStr .add ⟨(91::rl:List UInt8).toArray⟩ ⟨#[93]⟩=some (.str ⟨(91::rl++ [93]:List UInt8).toArray⟩):=str_add (91::rl) ⟨#[93]⟩ (by show _+1≤_;simp only[List.length_cons];omega)
      simp only[List.cons_append] at hadd2
      simp[hadd,hadd2,-List.cons_append]
      intro fs2 h2
      refine D_X rfl rfl fun m10 hm10 _=>?_
      simp
      have hm710:=hm8.trans hm10
      refine C_of ((hW7.mono hm710).write (91::(rl++ [93])) (by simp only[List.length_append,List.length_cons,List.length_nil] at hB ⊢;omega)) ?_
      rintro _ m11 ⟨bf11,hW11,hC11⟩
      refine ⟨by simp[lateOf],?_⟩
      refine D_end fun m12 hm12 _=>?_
      simp
      obtain ⟨q1,q2⟩:=hC11.keep (own_mono hb47 hm710) hn4.1 hn4.2 hf47
      exact (hJ _ _).2 ⟨bf11,_,_,rfl,by simpa[List.append_assoc] using hW11.mono hm12,hS',by omega,hC7.trans ((WC.of_prefix hm710).trans (hC11.trans (.of_prefix hm12))),own_mono q1 hm12,by omega,by rw[hbd]⟩
    ·simp[hkk]
     have hl1:1≤l[x].elems.length:=by
      have h1:=hshd.1
      simp[least,hkk] at h1
      omega
     have hnl:l[x].names.length=l[x].elems.length:=by
      have h1:=hshd.2.2.1
      simp[nNames,hkk] at h1
      omega
     have hbd:bodyT l (txM l f) (s++ [x]) x=([83,84,82,85,67,84]++([40]++((txL (txM l f) true (s++ [x]) (named (eN l[x]) l[x].names)).1++ [41])),(txL (txM l f) true (s++ [x]) (named (eN l[x]) l[x].names)).2):=by
      simp[bodyT,hmd,hkk]
     rw[hbd] at hB ⊢
     simp only[List.length_append,List.length_cons,List.length_nil] at hB
     refine C_of (hW6.write [83,84,82,85,67,84] (by simp only[List.length_cons,List.length_nil];omega)) ?_
     rintro _ m7 ⟨bf7,hW7,hC7⟩
     have hb47:=(hC7.keep hb46 hn4.1 hn4.2 fun e=>hf4 _ e rfl).1
     have hniN:isNilOf .slice nm=some false:=by
      rcases hnm with ⟨_,h,_⟩|⟨_,_,_,_,rfl,_⟩
      ·omega
      ·rfl
     simp[bx (own_read hb47)]
     refine C_of (all_ok H.tx H.full ih (zs:=eN l[x]) (items:=named (eN l[x]) l[x].names) (fun z hz=>eN_lt H.tx.good hx (by rw[hmd];exact hz)) (by rw[eN_len];have:=H.tx.els _ (List.getElem_mem hx);omega) hW7 hS'
      (fun bf' m' hc=>by rw[eN_cast H.tx.good hx];exact he.mono (hc.pre0 hW7)) (.inr ⟨l[x].names,hniN,fun bf' m' hc=>hnm.mono (hc.pre0 hW7),by rw[eN_len];exact hnl,rfl⟩) (by omega)
      (by simp only[List.length_append,List.length_cons,List.length_nil];omega)) ?_
     rintro _ m8 ⟨bf8,hW8,hC8⟩
     simp
     exact ⟨bf8,by simpa[List.append_assoc] using hW8,hC06.trans (hC7.trans hC8)⟩
    ·simp[hkk]
     have hu:isU l[x]=true:=by simp[isU,hkk]
     have hbd:bodyT l (txM l f) (s++ [x]) x=([85,78,73,79,78]++([40]++((txL (txM l f) true (s++ [x]) (bare (basesOf l x))).1++ [41])),(txL (txM l f) true (s++ [x]) (bare (basesOf l x))).2):=by
      simp[bodyT,hmd,hkk]
     rw[hbd] at hB ⊢
     simp only[List.length_append,List.length_cons,List.length_nil] at hB
     refine C_of (hW6.write [85,78,73,79,78] (by simp only[List.length_cons,List.length_nil];omega)) ?_
     rintro _ m7 ⟨bf7,hW7,hC7⟩
     obtain ⟨ad7,hb7,had7⟩:=hW7.blk
     simp
     refine W_draw (fun _ _ _=>True) (by simp[maxDst]) ?_
     refine D_pc 0 10 [10,11] ?_
     simp[bx (own_read hb7)]
     intro fs1 h1
     refine D_X rfl rfl fun m8 hm8 _=>?_
     simp
     have hW8:=hW7.mono hm8
     refine C_of (k54 sT rk l ds x hx hu m8 (H.tab.mono hW8.pre) (H.rks.mono hW8.pre) H.dl H.tx.good H.t13 H.sm) ?_
     rintro v m9 ⟨hm9,O,zs,⟨hO,hOm⟩,hZs,hsb⟩
     have hum:isU (mdAt l x)=true:=by rw[hmd];exact hu
     have hzb:=once_eq H.tx.good H.ord hx hum (fun j=>by rw[hOm];unfold IsBase;rw[if_pos hum]) hsb
     subst hzb
     refine ⟨by simp[lateOf],?_⟩
     refine D_X rfl rfl fun m10 hm10 _=>?_
     simp
     have hW10:=hW8.mono (hm9.trans hm10)
     have hZ10:=hZs.mono hm10
     have hbl:=bases_lt H.tx.good hx
     refine C_of (all_ok H.tx H.full ih (zs:=basesOf l x) (items:=bare (basesOf l x)) hbl (by have:=(basesEx H.tx.good hx).length H.tx.good hx;have:=H.tx.len;omega) hW10 hS'
      (fun bf' m' hc=>ints_of_nat (hZ10.ch hc.1 fun c hc' e=>by
       have h1:=(hZs.blk_lo hc').1
       have h2:=hW8.lt
       rcases e with e|e|e
       ·omega
       ·omega
       ·have:=(hW8.buf.blk_lo e).2;omega)) (.inl ⟨rfl,rfl⟩) (by omega)
      (by simp only[List.length_append,List.length_cons,List.length_nil];omega)) ?_
     rintro _ m11 ⟨bf11,hW11,hC11⟩
     refine ⟨by simp[lateOf],?_⟩
     refine D_end fun m12 hm12 _=>?_
     simp
     exact ⟨bf11,by simpa[List.append_assoc] using hW11.mono hm12,hC06.trans (hC7.trans ((WC.of_prefix (hm8.trans (hm9.trans hm10))).trans (hC11.trans (.of_prefix hm12))))⟩
    ·simp[hkk]
     have hl1:1≤l[x].elems.length:=by
      have h1:=hshd.1
      simp[least,hkk] at h1
      omega
     have h64:=H.tx.els _ (List.getElem_mem hx)
     have hwl:IntKind.i64.wrap ((l[x].elems.length:Int)-1)=((l[x].elems.length-1:Nat):Int):=by rw[wrap64 (by omega) (by omega)];omega
     have hbd:bodyT l (txM l f) (s++ [x]) x=if 1<l[x].elems.length then ([80,82,79,67,40]++((txL (txM l f) true (s++ [x]) (bare ((eN l[x]).take (l[x].elems.length-1)))).1++([41,32]++(txM l f (txL (txM l f) true (s++ [x]) (bare ((eN l[x]).take (l[x].elems.length-1)))).2 ((eN l[x]).getD (l[x].elems.length-1) 0)).1)),
      (txM l f (txL (txM l f) true (s++ [x]) (bare ((eN l[x]).take (l[x].elems.length-1)))).2 ((eN l[x]).getD (l[x].elems.length-1) 0)).2) else ([80,82,79,67,32]++(txM l f (s++ [x]) ((eN l[x]).getD 0 0)).1,(txM l f (s++ [x]) ((eN l[x]).getD 0 0)).2):=by
      simp[bodyT,hmd,hkk]
     refine C_of (hW6.write [80,82,79,67] (by rw[hbd] at hB;split at hB<;>simp only[List.length_append,List.length_cons,List.length_nil] at hB ⊢ <;>omega)) ?_
     rintro _ m7 ⟨bf7,hW7,hC7⟩
     obtain ⟨hb47,hf47⟩:=hC7.keep hb46 hn4.1 hn4.2 fun e=>hf4 _ e rfl
     have he7:=he.mono hW7.pre
     simp[bx (own_read hb47),he7.len,hwl]
     obtain ⟨J2,hJ2⟩: ∃J:AFrame→AMem→Prop,∀a' m',J a' m'↔(∃bf' pr s',a'.forget [0,4]=mat 159 [(0,.ptr b 0),(4,.ptr b4 0)]∧WS m0 b mb sT rk ds m' bf' (bs++pr) s'∧Seen l s'∧s.length<s'.length∧WC b mb bf m bf' m'∧
      m'[b4]? =some (ABlk.own [AVal.int .i64 l[x].kind,AVal.int .i64 l[x].size,e,nm,AVal.int .i64 l[x].dims,AVal.bool l[x].flex] 39 none)∧bf'.blk≠some b4∧
      bodyT l (txM l f) (s++ [x]) x=(pr++ [32]++(txM l f s' ((eN l[x]).getD (l[x].elems.length-1) 0)).1,(txM l f s' ((eN l[x]).getD (l[x].elems.length-1) 0)).2)):=⟨_,fun _ _=>Iff.rfl⟩
     refine bbind_J J2 ?_ ?_
     ·refine bbind_dec (fun h0=>?_) fun h0=>?_
      ·have h1:1<l[x].elems.length:=by omega
       rw[if_pos h1] at hbd
       rw[hbd] at hB
       simp only[List.length_append,List.length_cons,List.length_nil] at hB
       have hes:=eN_cast H.tx.good hx
       obtain ⟨t7,q1,q2⟩:=he7.take (i:=l[x].elems.length-1) (by omega)
       simp[bx (own_read hb47),q1]
       have hzt: ∀z∈(eN l[x]).take (l[x].elems.length-1),z<l.length:=fun z hz=>eN_lt H.tx.good hx (by rw[hmd];exact mem_take hz)
       refine C_of (all_ok H.tx H.full ih (zs:=(eN l[x]).take (l[x].elems.length-1)) (items:=bare ((eN l[x]).take (l[x].elems.length-1))) hzt (by rw[List.length_take,eN_len];omega) hW7 hS'
        (fun bf' m' hc=>by rw[List.map_take,hes];exact q2 m' (he.mono (hc.pre0 hW7))) (.inl ⟨rfl,rfl⟩) (by omega)
        (by simp only[List.length_append,List.length_cons,List.length_nil];omega)) ?_
       rintro _ m8 ⟨bf8,hW8,hC8⟩
       simp
       obtain ⟨r1,r2⟩:=hC8.keep hb47 hn4.1 hn4.2 hf47
       have hsn:=txL_seen (fun s z hs hz=>txM_seen H.tx H.full f hs hz) (bare ((eN l[x]).take (l[x].elems.length-1))) true (s++ [x]) hS' fun p hp=>(bare_ok hzt p hp).1
       exact (hJ2 _ _).2 ⟨bf8,_,_,rfl,by simpa[List.append_assoc] using hW8,hsn.1,by omega,hC06.trans (hC7.trans hC8),r1,r2,by rw[hbd];simp[List.append_assoc]⟩
      ·have h1: ¬1<l[x].elems.length:=by omega
       rw[if_neg h1] at hbd
       have h2:l[x].elems.length-1=0:=by omega
       simp
       exact (hJ2 _ _).2 ⟨bf7,[80,82,79,67],s++ [x],rfl,hW7,hS',by omega,hC06.trans hC7,hb47,hf47,by rw[hbd,h2];simp⟩
     ·intro a' m8 hJ8
      obtain ⟨bf8,pr,s8,hfa8,hW8,hS8,hs8,hC8,hb48,hf48,hbd8⟩:=(hJ2 _ _).1 hJ8
      clear hJ8 hJ2 J2
      simp[hfa8]
      rw[hbd8] at hB
      simp only[List.length_append,List.length_cons,List.length_nil] at hB
      refine C_of (hW8.write [32] (by simp only[List.length_append,List.length_cons,List.length_nil];omega)) ?_
      rintro _ m9 ⟨bf9,hW9,hC9⟩
      simp
      exact (hJ _ _).2 ⟨bf9,pr++ [32],s8,rfl,by simpa[List.append_assoc] using hW9,hS8,hs8,hC8.trans hC9,(hC9.keep hb48 hn4.1 hn4.2 hf48).1,by omega,hbd8⟩
end Go.Proofs.YtlniliigcnedmaaGreatDoor
namespace Go.Proofs.YtlniliigcnedmaaGreatDoor
open Go Ax
set_option maxRecDepth 100000
theorem toB_u8: ∀bs:List UInt8,toB (bs.map u8A)=some bs
 | []=>rfl
 |x::bs=>by
  have h:(0:Int)≤((x.toNat:Nat):Int)∧((x.toNat:Nat):Int)<256:=by have:=x.toNat_lt;omega
  simp only[List.map_cons,u8A,toB,if_pos h,toB_u8 bs,Option.map_some]
  simp
theorem k46 (b lo:Nat) (ad bf x y z:AVal) (bs:List UInt8) (m:AMem) (hb:m[b]? =some (.own [ad,bf,x,y,z] 71 none)) (hO:OwL u8A lo m 5 bf bs) (hne:bs≠ []) (hsz:bs.length≤1099511627776):
  ACalls Tryz.prog 46 [.ptr b 0] m fun v m'=>v= .str ⟨bs.toArray⟩∧Ch (fun c=>bf.blk=some c) m m':=by
 have hl:0<bs.length:=List.length_pos_iff.2 hne
 refine w46 ?_
 rcases hO with ⟨_,h,_⟩|⟨b',o,cap,gr,bl,gr',rfl,h0,h1,h2,_⟩
 ·omega
 simp
 refine W_draw (fun _ _ _=>True) (by simp[maxDst]) ?_
 refine D_pc 0 10 [10,11] ?_
 simp[bx (own_read hb),sdataE,hl]
 intro fs1 hf1
 refine D_X rfl rfl fun m2 hm2 _=>?_
 have h12:=own_mono h1 hm2
 have hcond:(0:Int)<bs.length∧(bs.length:Int)≤9223372036854775807:=by omega
 have h2':readN bl o bs.length=some (bs.map u8A):=by simpa using h2
 simp[lateOf,ustrE,hcond,h12,h2',toB_u8,hl]
 refine D_pc 11 1 [] ?_ (hfs:=fun _ _=>trivial)
 simp
 intro fs2 hf2
 refine D_end fun m3 hm3 _=>?_
 simp
 exact (((Ch.of_prefix hm2).trans (Ch.setS (S:=Eq b') _ rfl)).trans (.of_prefix hm3)).weaken fun c _ e=>by rw[←e];rfl
theorem txM_ne (l:List Md) (f:Nat) (s:List Nat) (m:Nat):(txM l (f+1) s m).1≠ []:=by
 unfold txM
 split
 ·unfold plainT kindT
  simp only[ne_eq,List.append_eq_nil_iff,not_and]
  intro _
  repeat' split
  all_goals simp
 ·split
  ·simp
  ·unfold bodyT
   repeat' split
   all_goals simp
noncomputable def textV (l:List Md) (x:Int):List UInt8:=if rightI l [x]≠0 then [] else textT l x.toNat
theorem rightN1 {l:List Md} {u:Int} (h:rightI l [u]=0):checkI l=0∧ ∃a:Nat,u=a∧a<l.length:=by
 unfold rightI at h
 split at h
 ·omega
 ·rename_i h1
  split at h
  ·omega
  ·rename_i h2
   simp[outB] at h2
   exact ⟨by omega,u.toNat,by omega,by omega⟩
theorem text_len {l:List Md} (hc:checkI l=0) (hl:l.length≤60) {x:Nat} (hx:x<l.length):(txM l (l.length+1) [] x).1.length≤600000:=by
 obtain ⟨h1,h2,_⟩:=txT_of hc hl
 have:=txM_grow h1 h2 (l.length+1) [] x Seen.nil hx
 have h3:=this.len
 have h4:=this.seen.len
 simp only[List.length_nil] at h3
 omega
set_option maxHeartbeats 4000000 in
theorem k15 (s:AVal) (l:List Md) (x:Int) (m:AMem) (hs:RTab m s l) (hsm: ∀y∈l,smallN y) (hT:checkI l=0→T13 l) (hl:l.length<2^20):
  ACalls Tryz.prog 15 [s,.int .i64 x] m fun v m'=>m<+:m'∧v= .tuple [.str ⟨(textV l x).toArray⟩,.int .i64 (rightI l [x])]:=by
 refine w15 ?_
 simp[fillA,setN]
 have hA:=OwL.new (f:=AVal.int .i64) m 3 [x]
 have hm1:m<+:m++ [.own [.int .i64 x] 3 none]:=List.prefix_append _ _
 simp at hA
 generalize AVal.slice m.length 0 1 1 none=t1 at*
 generalize m++ [.own [.int .i64 x] 3 none]=m1 at*
 refine C_of (k43 s t1 l [x] m1 (hs.mono hm1) hA.ints hsm (by omega) (by simp)) ?_
 rintro _ m2 ⟨rfl,hm2⟩
 have hm02:=hm1.trans hm2
 by_cases hri:rightI l [x]=0
 rotate_left
 ·simp[bneT hri,hri,textV]
  exact hm02
 obtain ⟨hc,a,rfl,ha⟩:=rightN1 hri
 have hT:=hT hc
 have h60:=hT.t60.len
 have ok:=okT_of hc
 obtain ⟨htx,hfl,hsh⟩:=txT_of hc h60
 simp[hri,textV]
 refine C_of (k44 s l m2 (hs.mono hm02) ok.good hT.t60 hsm ok.h64) ?_
 rintro v3 m3 ⟨hm3,ds,kd,hX,hD⟩
 have hm03:=hm02.trans hm3
 obtain ⟨hs1,hs2⟩:=hs.self
 obtain ⟨hv1,hv2⟩:=(Ow.sl hX).self
 simp[fillA,setN,hs1,hs2,hv1,hv2]
 have hmap:(m3++ [ABlk.mp [],ABlk.own [AVal.nilptr,AVal.nilslice,s,v3,AVal.map m3.length] 71 none])[m3.length]? =some (.mp []):=by simp
 have hblk:(m3++ [ABlk.mp [],ABlk.own [AVal.nilptr,AVal.nilslice,s,v3,AVal.map m3.length] 71 none])[m3.length+1]? =some (.own [AVal.nilptr,AVal.nilslice,s,v3,AVal.map m3.length] 71 none):=by simp
 have hm4:m3<+:m3++ [ABlk.mp [],ABlk.own [AVal.nilptr,AVal.nilslice,s,v3,AVal.map m3.length] 71 none]:=List.prefix_append _ _
 generalize m3++ [ABlk.mp [],ABlk.own [AVal.nilptr,AVal.nilslice,s,v3,AVal.map m3.length] 71 none]=m4 at*
 have hW:WS m3 (m3.length+1) m3.length s v3 ds m4 .nilslice [] []:=⟨⟨_,hblk,.inl rfl⟩,hmap,OwL.nil,hm4,by omega,by omega⟩
 have H:WT l m3 s v3 ds:=⟨htx,hfl,hsh,hT,hsm,hs.mono hm03,ints_of_nat hX,hD.len,hD.sameOrd⟩
 have htl:=text_len hc h60 ha
 refine C_of (mode_ok H (l.length+1) a m4 .nilslice [] [] hW Seen.nil ha (by simp) (by simp;omega)) ?_
 rintro _ m5 ⟨bf5,hW5,hC5⟩
 obtain ⟨ad5,hb5,had5⟩:=hW5.blk
 simp only[List.nil_append] at hW5
 simp
 refine C_of (k46 _ m3.length ad5 bf5 s v3 _ _ m5 hb5 hW5.buf (txM_ne l _ [] a) (by omega)) ?_
 rintro _ m6 ⟨rfl,hch6⟩
 simp
 refine ⟨hm03.trans (hch6.pre hW5.pre fun c hc e=>by have:=(hW5.buf.blk_lo e).1;omega),?_⟩
 rw[hri]
 exact ⟨rfl,rfl⟩
end Go.Proofs.YtlniliigcnedmaaGreatDoor
namespace Go.Proofs.YtlniliigcnedmaaGreatDoor
open Go Ax
set_option maxRecDepth 100000
def firstOf (ds:List Nat) (k:Nat):Nat:=(fidx (fun i=>(ds.map fun z:Nat=>(z:Int))[i]? ==some (k:Int)) 0 ds.length).toNat
def badAt (l:List Md) (ds:List Nat) (k:Nat):Prop:=isU (mdAt l (firstOf ds k))=true∧(basesOf l (firstOf ds k)).length<2
noncomputable def redOf (l:List Md) (ds:List Nat) (k:Nat):Md:=
 ⟨(mdAt l (firstOf ds k)).kind,(mdAt l (firstOf ds k)).size,(if isU (mdAt l (firstOf ds k))=true then basesOf l (firstOf ds k) else eN (mdAt l (firstOf ds k))).map fun z=>((ds.getD z 0:Nat):Int),(mdAt l (firstOf ds k)).names,(mdAt l (firstOf ds k)).dims,(mdAt l (firstOf ds k)).flex⟩
noncomputable def redT (l:List Md) (ds:List Nat) (kd:Nat):List Md:=(List.range kd).map (redOf l ds)
theorem redT_len (l:List Md) (ds:List Nat) (kd:Nat):(redT l ds kd).length=kd:=by simp[redT]
theorem chunk_setN {cs c:List AVal} {n k i:Nat} (hl:cs.length=n*6) (hc:c.length=6) (hk:k<n):chunk (setN cs (k*6) c) i=if i=k then c else chunk cs i:=by
 have hb:k*6+c.length≤cs.length:=by rw[hl,hc];omega
 refine List.ext_getElem? fun j=>?_
 unfold chunk
 rw[List.getElem?_take]
 split
 ·rename_i hj
  rw[List.getElem?_drop,setN_get _ _ _ _ hb]
  by_cases hik:i=k
  ·subst hik
   rw[if_pos rfl,if_pos (by omega)]
   congr 1;omega
  ·rw[if_neg hik,if_neg (by omega),List.getElem?_take,if_pos hj,List.getElem?_drop]
 ·rename_i hj
  split
  ·rw[List.getElem?_eq_none (by omega)]
  ·rw[List.getElem?_take,if_neg hj]
set_option maxHeartbeats 4000000 in
theorem k28f (s:AVal) (l:List Md) (m:AMem) (hs:RTab m s l) (hsz: ∀x∈l,smallN x) (hnm: ∀x∈l,x.names.length<2^40) (hn:T13 l) (hc:checkI l=0):
  ACalls Tryz.prog 28 [s] m fun v m'=>m<+:m'∧ ∃ds kd,DenseOf l.length (fun a b=>RR l a<RR l b) ds kd∧((∃t n,v= .tuple [t,n,.int .i64 0]∧OwL natI m.length m' 3 n ds∧OwT m.length m' t (redT l ds kd)∧ ∀k,k<kd→ ¬badAt l ds k)∨(v= .tuple [.nilslice,.nilslice,.int .i64 14]∧ ∃k,k<kd∧badAt l ds k)):=by
 refine w28 ?_
 have h60:=hn.len
 have ok:=okT_of hc
 simp
 refine C_of (k52 s l m hs hsz (by omega)) ?_
 rintro _ m1 ⟨rfl,hm1⟩
 simp[hc]
 refine C_of (k44 s l m1 (hs.mono hm1) ok.good hn.t60 hsz ok.h64) ?_
 rintro v2 m2 ⟨hm2,ds,kd,hX,hD⟩
 simp[hX.len]
 have hm02:=hm1.trans hm2
 have hdl:=hD.len
 -- the number of classes
 obtain ⟨I,hI⟩: ∃I:Nat→AFrame→AMem→Prop,∀q a m',I q a m'↔(∃(i n:Nat),i+q=ds.length∧a=h28_0 s v2 (.int .i64 n) v2 (.int .i64 ds.length) (.int .i64 i)∧m'=m2∧n≤kd∧(∀(j:Nat) d,j<i→ds[j]? =some d→d<n)):=⟨_,fun _ _ _=>Iff.rfl⟩
 refine W_loop I ds.length ((hI _ _ _).2 ⟨0,0,by simp,rfl,rfl,by omega,fun _ _ h=>by omega⟩) ?_
 rintro q a m3 hIn
 obtain ⟨i,n,hi,rfl,rfl,hnk,hlt⟩:=(hI _ _ _).1 hIn
 clear hIn
 simp
 refine bbind_dec (fun h=>?_) fun h=>?_
 ·have h:i<ds.length:=by omega
  have hw:=step64 (k:=i) (n:=ds.length) h (by omega)
  obtain ⟨q,rfl⟩: ∃q',q=q'+1:=⟨q-1,by omega⟩
  obtain ⟨b,o,_,h1,h2,_⟩:=hX.at h
  have hds:ds[i]? =some ds[i]:=List.getElem?_eq_getElem h
  have hb:=hD.bound i _ hds
  have hle:=hD.le
  simp only[natI] at h2
  have hw2:IntKind.i64.wrap ((ds[i]:Int)+1)=(ds[i]:Int)+1:=wrap64 (by omega) (by omega)
  simp[h1,h2,hw,hw2]
  by_cases hmx:n<ds[i]+1
  ·have hmx':(n:Int)<ds[i]+1:=by omega
   simp[hmx']
   exact ⟨q,by omega,(hI _ _ _).2 ⟨i+1,ds[i]+1,by omega,by simp,rfl,by omega,fun j d hj hd=>by
    by_cases hji:j=i
    ·subst hji;rw[hds] at hd;cases hd;omega
    ·have:=hlt j d (by omega) hd;omega⟩⟩
  ·have hmx': ¬(n:Int)<ds[i]+1:=by omega
   simp[hmx']
   exact ⟨q,by omega,(hI _ _ _).2 ⟨i+1,n,by omega,by simp,rfl,hnk,fun j d hj hd=>by
    by_cases hji:j=i
    ·subst hji;rw[hds] at hd;cases hd;omega
    ·exact hlt j d (by omega) hd⟩⟩
 ·simp
  have hle:=hD.le
  have hnkd:n=kd:=by
   rcases Nat.lt_or_ge n kd with h|h
   ·obtain ⟨a,ha⟩:=hD.surj n h
    have:=hlt a n (by have:=(List.getElem?_eq_some_iff.1 ha).1;omega) ha
    omega
   ·omega
  have hc1:80*(n:Int)≤281474976710656:=by omega
  have hc2:(n:Int)≤9223372036854775807:=by omega
  simp[hc1,hc2]
  clear hI I
  have hZ0:Ow m3.length (m3++ [.own (List.replicate n [AVal.int .i64 0,AVal.int .i64 0,AVal.nilslice,AVal.nilslice,AVal.int .i64 0,AVal.bool false]).flatten 39 none]) 6 39 (.slice m3.length 0 n n none) n (List.replicate n [AVal.int .i64 0,AVal.int .i64 0,AVal.nilslice,AVal.nilslice,AVal.int .i64 0,AVal.bool false]).flatten:=Ow.new (by simp) (by simp[List.all_flatten])
  have hm34:m3<+:m3++ [.own (List.replicate n [AVal.int .i64 0,AVal.int .i64 0,AVal.nilslice,AVal.nilslice,AVal.int .i64 0,AVal.bool false]).flatten 39 none]:=List.prefix_append _ _
  generalize AVal.slice m3.length 0 n n none=t10 at*
  generalize m3++ [.own (List.replicate n [AVal.int .i64 0,AVal.int .i64 0,AVal.nilslice,AVal.nilslice,AVal.int .i64 0,AVal.bool false]).flatten 39 none]=m4 at*
  have hXi:=ints_of_nat hX
  obtain ⟨I,hI⟩: ∃I:Nat→AFrame→AMem→Prop,∀q a m',I q a m'↔(∃(i:Nat) (cs:List AVal),i+q=n∧a=h28_1 s v2 t10 (.int .i64 n) (.int .i64 i)∧m3<+:m'∧Ow m3.length m' 6 39 t10 n cs∧(∀i',i'<i→ ∀m'',Ch (fun b=>t10.blk=some b∨b<m3.length) m' m''→RMode m'' (chunk cs i') (redOf l ds i'))∧ ∀i',i'<i→ ¬badAt l ds i'):=⟨_,fun _ _ _=>Iff.rfl⟩
  refine W_loop I n ((hI _ _ _).2 ⟨0,_,by simp,rfl,hm34,hZ0,fun _ h=>by omega,fun _ h=>by omega⟩) ?_
  clear hZ0 hm34
  rintro q a m4 hIn
  obtain ⟨k,cs,hk,rfl,hm4,hZ,hrow,hnb⟩:=(hI _ _ _).1 hIn
  clear hIn
  simp
  refine bbind_dec (fun hkn=>?_) fun hkn=>?_
  ·have hw:=step64 (k:=k) (n:=n) hkn (by omega)
   obtain ⟨q,rfl⟩: ∃q',q=q'+1:=⟨q-1,by omega⟩
   simp
   refine C_of (k57 v2 _ k m4 (hXi.mono hm4) (by simp;omega)) ?_
   rintro _ m4 ⟨rfl,rfl⟩
   obtain ⟨j0,hj0⟩:=hD.surj k (by omega)
   obtain ⟨j,_,hjl,hjf,hjp⟩:=fidx_spec (p:=fun i=>(ds.map fun z:Nat=>(z:Int))[i]? ==some (k:Int)) ds.length 0 ((fidx_nonneg _ _ _).2 ⟨j0,by omega,by have:=(List.getElem?_eq_some_iff.1 hj0).1;omega,by simp[hj0]⟩)
   have hfo:firstOf ds k=j:=by unfold firstOf;rw[hjf];rfl
   rw[List.length_map,hjf]
   have hj:j<l.length:=by omega
   have hmj:=mdAt_eq hj
   obtain ⟨bx',ox,c,h4,h5,_,_,h6⟩:=hs.atC hj
   replace h5:=loadE_mono (hm02.trans hm4) h5
   simp[h4,h5]
   have hcl:=h6.all
   rw[store_new _ _ c _ _ 6 hcl.1 rfl hcl.2]
   have hb13:(m4++ [ABlk.own c 39 none])[m4.length]? =some (.own c 39 none):=by simp
   have hb13l:m3.length≤m4.length:=hm4.length_le
   have hm45:m4<+:m4++ [ABlk.own c 39 none]:=List.prefix_append _ _
   have hZb: ∀b,t10.blk=some b→b≠m4.length:=fun b hb e=>by have:=(hZ.blk_lo hb).2;omega
   have hl5:(m4++ [ABlk.own c 39 none]).length=m4.length+1:=by simp
   simp
   generalize m4++ [ABlk.own c 39 none]=m5 at*
   have hZlt: ∀b,t10.blk=some b→b<m4.length:=fun b hb=>(hZ.blk_lo hb).2
   generalize hb13d:m4.length=b13 at*
   obtain ⟨e,nm,c0,c1,c2,c3,c4,c5,he,hnm',rfl⟩:=h6.get
   have hm05:=hm4.trans hm45
   simp[bx (own_read hb13)]
   refine C_of (k58 nm _ m5 (hnm'.mono (hm02.trans hm05)) (hnm _ (List.getElem_mem hj))) ?_
   rintro v6 m6 ⟨hm56,hNm,hv1,hv2⟩
   have hb6:=own_mono hb13 hm56
   obtain ⟨m7,hst,hb7,hch7⟩:=fld_store (i:=3) hb6 (by simp) hv2 hv1
   have hm37:m3<+:m7:=hch7.pre (hm05.trans hm56) fun b hb e=>by omega
   have hZ7:=(Ow.mono (hm45.trans hm56) hZ).ch hch7 fun b hb=>hZb b hb
   simp at hb7
   simp[hst]
   simp[bx (own_read hb7)]
   have hNm7:OwL AVal.str (b13+1) m7 9 v6 l[j].names:=(hNm.ch hch7 fun b hb e=>by have:=(hNm.blk_lo hb).1;omega).lo' (by omega)
   have hch47:Ch (fun c=>c=b13) m4 m7:=(Ch.of_prefix (hm45.trans hm56)).trans hch7
   clear hb6 hb13 hch7 hNm
   have hgj:=ok.good _ (List.getElem_mem hj)
   have hconv: ∀xs:List Int,(∀e∈xs,0≤e∧e<(l.length:Int))→((xs.map Int.toNat).map fun z:Nat=>(z:Int))=xs:=fun xs hx=>by
    rw[List.map_map]
    conv=>rhs;rw[←List.map_id xs]
    refine List.map_congr_left fun e he=>?_
    have:=hx e he
    simp only[Function.comp,id]
    omega
   have hl57:m5.length≤m7.length:=by have:=hm56.length_le;have:=(fld_len hst);omega
   obtain ⟨J,hJ⟩: ∃J:AFrame→AMem→Prop,∀a' m',J a' m'↔(∃(t14:AVal) (ws:List Nat) (c':List AVal),a'.forget [0,6,10,11,13,14,38,39]=mat 89 [(0,s),(6,v2),(10,t10),(11,.int .i64 k),(13,.ptr b13 0),(14,t14),(38,.int .i64 n),(39,.int .i64 k)]∧m3<+:m'∧Ch (fun c=>c=b13) m4 m'∧b13<m'.length∧m'[b13]? =some (.own c' 39 none)∧c'= [AVal.int .i64 l[j].kind,AVal.int .i64 l[j].size,e,v6,AVal.int .i64 l[j].dims,AVal.bool l[j].flex]∧OwL AVal.str (b13+1) m' 9 v6 l[j].names∧ws=(if isU l[j] then basesOf l j else eN l[j])∧ ¬badAt l ds k∧c'.length=6∧c'.all AVal.one=true∧(∀m'',Ch (fun c=>c=b13) m' m''→RInts m'' t14 (ws.map fun z:Nat=>(z:Int)))∧(∀w∈ws,w<l.length)∧ws.length<2^20∧Ow m3.length m' 6 39 t10 n cs):=⟨_,fun _ _=>Iff.rfl⟩
   refine bbind_J J ?_ ?_
   ·have hall7: [AVal.int .i64 l[j].kind,AVal.int .i64 l[j].size,e,v6,AVal.int .i64 l[j].dims,AVal.bool l[j].flex].all AVal.one=true:=by
     have:=(Sl.self he).1
     simp only[List.all_cons,List.all_nil,this,hv1];rfl
    by_cases hu:isU l[j]=true
    ·have hkk:l[j].kind=12:=by simpa[isU] using hu
     simp[hkk]
     refine C_of (k54 s v2 l ds j hj hu m7 (hs.mono (hm02.trans hm37)) (hXi.mono hm37) (by omega) ok.good hn hsz) ?_
     rintro v8 m8 ⟨hm78,O,zs,⟨hO,hOm⟩,hZs,hsb⟩
     have hum:isU (mdAt l j)=true:=by rw[hmj];exact hu
     have hzb:zs=basesOf l j:=once_eq ok.good hD.sameOrd hj hum (fun i=>by rw[hOm];unfold IsBase;rw[if_pos hum]) hsb
     simp[hZs.len]
     refine bbind_dec (fun h2=>?_) fun h2=>?_
     ·simp
      exact ⟨(hm02.trans hm37).trans hm78,ds,kd,hD,k,by omega,by unfold badAt;rw[hfo,hmj];exact ⟨hu,by rw[←hzb];omega⟩⟩
     ·simp
      have hzO:=nodup_le l.length zs (hsb.asc.imp fun hab=>by intro e;subst e;omega) fun z hz=>IsPart.lt ok.good ((hOm z).1 (hsb.sub z hz))
      exact (hJ _ _).2 ⟨_,zs,_,rfl,hm37.trans hm78,hch47.trans (.of_prefix hm78),by have:=hm78.length_le;omega,own_mono hb7 hm78,rfl,hNm7.mono hm78,by rw[if_pos hu];exact hzb,by unfold badAt;rw[hfo,hmj];rintro ⟨_,h⟩;rw[←hzb] at h;omega,rfl,hall7,fun m'' hc=>ints_of_nat (hZs.ch hc fun b hb e=>by have:=(hZs.blk_lo hb).1;omega),fun w hw=>IsPart.lt ok.good ((hOm w).1 (hsb.sub w hw)),by omega,Ow.mono hm78 hZ7⟩
    ·have hkk: ¬l[j].kind=12:=by simpa[isU] using hu
     simp[beqF hkk]
     refine (hJ _ _).2 ⟨e,l[j].elems.map Int.toNat,_,rfl,hm37,hch47,by omega,hb7,rfl,hNm7,by rw[if_neg hu];rfl,by unfold badAt;rw[hfo,hmj];rintro ⟨h,_⟩;exact hu h,rfl,hall7,fun m'' hc=>?_,fun w hw=>?_,by have:=ok.h64 _ (List.getElem_mem hj);simp;omega,hZ7⟩
     ·rw[hconv _ hgj]
      exact he.mono (hm02.trans (hc.pre hm37 fun b hb e=>by omega))
     ·obtain ⟨z,hz,rfl⟩:=List.mem_map.1 hw
      have:=hgj z hz;omega
   ·intro a m8 hJ8
    obtain ⟨t14,ws,c',hfa,hm8,hch48,hbl8,hb8,hce,hNm8,hwse,hnbk,hc6,hca,hws,hwl,hwn,hZ8⟩:=(hJ _ _).1 hJ8
    clear hJ8
    simp[hfa]
    obtain ⟨m9,hst9,hb9,hch9⟩:=fld_store (i:=2) (v:= .nilslice) hb8 (by omega) rfl rfl
    simp[hst9,(hws m8 (.refl _ _)).len]
    have hws0:=(hws m8 (.refl _ _)).len
    have hZ8b: ∀b,t10.blk=some b→b<m8.length:=fun b hb=>(hZ8.blk_lo hb).2
    obtain ⟨I2,hI2⟩: ∃I:Nat→AFrame→AMem→Prop,∀q a m',I q a m'↔(∃(p:Nat) (cs2:List AVal) (t2:AVal) (xs:List Int),p+q=ws.length∧a=h28_2 s v2 t10 (.int .i64 k) (.ptr b13 0) (.int .i64 n) (.int .i64 k) t14 (.int .i64 ws.length) (.int .i64 p)∧Ch (fun c=>c=b13) m8 m'∧m'[b13]? =some (.own cs2 39 none)∧cs2.length=6∧cs2.all AVal.one=true∧cs2[2]? =some t2∧OwL (AVal.int .i64) m8.length m' 3 t2 xs∧xs.length=p∧cs2= [AVal.int .i64 l[j].kind,AVal.int .i64 l[j].size,t2,v6,AVal.int .i64 l[j].dims,AVal.bool l[j].flex]∧xs=(ws.take p).map fun z=>((ds.getD z 0:Nat):Int)):=⟨_,fun _ _ _=>Iff.rfl⟩
    refine W_loop I2 ws.length ((hI2 _ _ _).2 ⟨0,_,.nilslice,[],by simp,rfl,hch9,hb9,by simpa using hc6,?_,List.getElem?_set_self (by omega),OwL.nil,rfl,by rw[hce];rfl,rfl⟩) ?_
    ·exact all_set hca rfl
    rintro q2 a2 m10 hIn
    obtain ⟨p,cs2,t2,xs,hp,rfl,hch10,hb10,hc26,hc2a,hc22,hT,hxl,hc2e,hxe⟩:=(hI2 _ _ _).1 hIn
    clear hIn
    simp
    have hm3':m3<+:m10:=hch10.pre hm8 fun b hb e=>by omega
    refine bbind_dec (fun hpl=>?_) fun hpl=>?_
    ·have hwp:=step64 (k:=p) (n:=ws.length) hpl (by omega)
     obtain ⟨q2,rfl⟩: ∃q',q2=q'+1:=⟨q2-1,by omega⟩
     have hws10:=hws m10 hch10
     obtain ⟨b1,o1,g1,g2⟩:=hws10.at (i:=p) (by simpa using hpl)
     simp at g2
     have hwk:=hwl _ (List.getElem_mem hpl)
     have htk:(ws.take (p+1)).map (fun z=>((ds.getD z 0:Nat):Int))=(ws.take p).map (fun z=>((ds.getD z 0:Nat):Int))++ [((ds.getD ws[p] 0:Nat):Int)]:=by rw[List.take_succ_eq_append_getElem hpl,List.map_append];rfl
     generalize ws[p]=w at*
     obtain ⟨b2,o2,g3,g4⟩:=ranksAt hXi (x:=w) (by omega)
     replace g4:=g4 m10 hm3'
     generalize ds.getD w 0=dw at*
     simp[g1,g2]
     refine W_draw (fun _ _ _=>True) (by simp[maxDst]) ?_
     refine D_pc 0 6 [6,7,8,9] ?_
     simp[bx (own_read hb10),hc22,g3,g4]
     intro _ _
     refine D_A rfl trivial ?_
     simp[fillA,setN]
     intro a78
     refine D_W rfl rfl fun m11 hm11 hf=>?_
     have h6':=hf 6
     simp[upd] at h6'
     have hA:RInts m11 (.slice a78 0 1 1 none) [(dw:Int)]:= .inr ⟨a78,0,1,none,rfl,⟨by simp,.inl rfl⟩,.inr ⟨by simp,_,by simp[readB,h6',ABlk.cells];rfl,by simp[readN]⟩⟩
     have hAs:=ints_append hA
     simp at hAs
     have hch11:=hch10.andThen (.of_prefix (S:=fun _=>False) hm11) fun b hb h=>h.elim
     obtain ⟨t2',m12,happ,hch12,hT12,hbl⟩:=(hT.mono hm11).push hch11.len (by_:=8) (by decide) dw (by omega)
     simp[hAs,happ]
     have hb11:=own_ch (own_mono hb10 hm11) hch12 fun e=>by have:=(hT.blk_lo e).1;omega
     refine D_P rfl trivial ?_
     simp
     refine D_W rfl rfl fun m13 hm13 _=>?_
     have hb13':=own_mono hb11 hm13
     have hself:=(Ow.sl hT12).self
     obtain ⟨m14,hst14,hb14,hch14⟩:=fld_store (i:=2) (v:=t2') hb13' (by omega) hself.2 hself.1
     simp[hst14]
     refine D_end fun m15 hm15 _=>?_
     simp[hwp]
     refine ⟨q2,by omega,(hI2 _ _ _).2 ⟨p+1,cs2.set 2 t2',t2',xs++ [(dw:Int)],by omega,by simp,?_,own_mono hb14 hm15,by simpa using hc26,all_set hc2a hself.1,List.getElem?_set_self (by omega),?_,by simp;omega,by rw[hc2e];rfl,by rw[htk,hxe]⟩⟩
     ·refine (((hch11.andThen hch12 fun b hb h=>by have:=(hT.blk_lo h).1;omega).andThen (.of_prefix (S:=fun _=>False) hm13) fun b hb h=>h.elim).andThen hch14 fun b hb h=>h).andThen (.of_prefix (S:=fun _=>False) hm15) fun b hb h=>h.elim
     ·refine ((hT12.mono hm13).ch hch14 fun b hb e=>?_).mono hm15
      rcases hbl b hb with h|h
      ·have:=(hT.blk_lo h).1;omega
      ·have:=hch11.len;omega
    ·have hZ10:=hZ8.ch hch10 fun b hb=>hZb b hb
     obtain ⟨b5,o5,hb5,g5,g6⟩:=Ow.store hZ10 (i:=k) hkn
     have hcc:(AVal.agg cs2).cells=cs2:=rfl
     obtain ⟨m11,hst11,hch11,hZ11⟩:=g6 0 (.agg cs2) (by rw[hcc];omega) (by rw[hcc];exact hc2a)
     rw[hcc,hc26] at hst11
     have hrd:readN cs2 0 6=some cs2:=by
      unfold readN
      rw[if_pos (by omega),List.drop_zero,List.take_of_length_le (by omega)]
     simp at hst11
     simp[bxW (own_read hb10),hrd,g5,hst11,hw]
     have hpw:p=ws.length:=by omega
     rw[hpw,List.take_length] at hxe
     have hcl:cs.length=n*6:=by have:=(Ow.sl hZ).length;simpa using this
     have hch411:Ch (fun b=>t10.blk=some b∨b<m3.length) m4 m11:=((hch48.trans hch10).weaken (T:=fun b=>t10.blk=some b∨b<m3.length) fun c hc e=>absurd e (by omega)).trans (hch11.weaken fun c _ e=> .inl (e▸hb5))
     have hb5lt:b5<b13:=by have:=hZlt _ hb5;omega
     have h8l:=hch48.len
     refine ⟨q,by omega,(hI _ _ _).2 ⟨k+1,_,by omega,by simp,hch11.pre hm3' fun b hb e=>?_,hZ11,fun i' hi' m'' hc=>?_,fun i' hi'=>?_⟩⟩
     ·have:=(hZ10.blk_lo hb5).1
      omega
     ·rw[hcc,Nat.add_zero,chunk_setN hcl hc26 hkn]
      by_cases hik:i'=k
      ·subst hik
       rw[if_pos rfl,hc2e]
       have hT11:=(hT.ch hch11 fun b hb e=>by have:=(hT.blk_lo hb).1;omega).ch hc fun b hb e=>by
        have:=(hT.blk_lo hb).1
        rcases e with e|e
        ·have:=hZlt _ e;omega
        ·omega
       have hN11:=((hNm8.ch hch10 fun b hb e=>by have:=(hNm8.blk_lo hb).1;omega).ch hch11 fun b hb e=>by have:=(hNm8.blk_lo hb).1;omega).ch hc fun b hb e=>by
        have:=(hNm8.blk_lo hb).1
        rcases e with e|e
        ·have:=hZlt _ e;omega
        ·have:=hm4.length_le;omega
       refine ⟨t2,v6,?_,?_,?_⟩
       ·unfold redOf;rw[hfo,hmj]
       ·have:(redOf l ds i').elems=xs:=by rw[hxe,hwse];unfold redOf;rw[hfo,hmj]
        rw[this]
        exact hT11.ints
       ·have:(redOf l ds i').names=l[j].names:=by unfold redOf;rw[hfo,hmj]
        rw[this]
        exact Ow.sl hN11
      ·rw[if_neg hik]
       exact hrow i' (by omega) m'' (hch411.trans hc)
     ·by_cases hik:i'=k
      ·subst hik;exact hnbk
      ·exact hnb i' (by omega)
  ·simp
   have hkn:k=n:=by omega
   subst hkn
   refine ⟨hm02.trans hm4,ds,kd,hD,t10,v2,⟨rfl,rfl⟩,(hX.mono hm4).lo' hm1.length_le,⟨cs,?_,fun i x hx m'' hc=>?_⟩,fun k' hk'=>hnb k' (by omega)⟩
   ·rw[redT_len,←hnkd]
    exact Ow.lo hZ hm02.length_le
   ·have hi:i<kd:=by have:=(List.getElem?_eq_some_iff.1 hx).1;rw[redT_len] at this;exact this
    have hxe:x=redOf l ds i:=by
     rw[redT,List.getElem?_map,List.getElem?_range hi] at hx
     exact (Option.some.inj hx).symm
    rw[hxe]
    exact hrow i (by omega) m'' (hc.weaken fun c _ e=>e.imp id fun e=>by have:=hm02.length_le;omega)
end Go.Proofs.YtlniliigcnedmaaGreatDoor
namespace Go.Proofs.YtlniliigcnedmaaGreatDoor
open Go Ax
open Relation
set_option maxRecDepth 100000
def nmVX:ByteArray:=⟨#[118]⟩
def nmNX:ByteArray:=⟨#[110,101,120,116]⟩
def tabAX:List Md:= [⟨11,0,[1,2],[nmVX,nmNX],0,false⟩,mdU 3 [],mdU 9 [3],⟨11,0,[1,4],[nmVX,nmNX],0,false⟩,mdU 9 [0]]
theorem noRankX {l:List Md} {p:Md→Bool} (f:Nat→Nat) (h: ∀a b,stepR l p a b→f b<f a) {r:Nat}: ¬TransGen (stepR l p) r r:=fun hr=>by
 have key: ∀{a b},TransGen (stepR l p) a b→f b<f a:=fun h'=>by
  induction h' with
  |single h1=>exact h _ _ h1
  |tail _ h1 ih=>have:=h _ _ h1;omega
 have:=key hr
 omega
theorem tabA_atX {a:Nat} {x:Md} (h:tabAX[a]? =some x):(a=0∧x=⟨11,0,[1,2],[nmVX,nmNX],0,false⟩)∨(a=1∧x=mdU 3 [])∨(a=2∧x=mdU 9 [3])∨(a=3∧x=⟨11,0,[1,4],[nmVX,nmNX],0,false⟩)∨(a=4∧x=mdU 9 [0]):=by
 match a,h with
 |0,h=>simp[tabAX] at h;exact .inl ⟨rfl,h.symm⟩
 |1,h=>simp[tabAX] at h;exact .inr (.inl ⟨rfl,h.symm⟩)
 |2,h=>simp[tabAX] at h;exact .inr (.inr (.inl ⟨rfl,h.symm⟩))
 |3,h=>simp[tabAX] at h;exact .inr (.inr (.inr (.inl ⟨rfl,h.symm⟩)))
 |4,h=>simp[tabAX] at h;exact .inr (.inr (.inr (.inr ⟨rfl,h.symm⟩)))
 |a+5,h=>simp[tabAX] at h
theorem ba_loop (bs:ByteArray): ∀(n i:Nat) (r:List UInt8),bs.size-i=n→ByteArray.toList.loop bs i r=r.reverse++bs.data.toList.drop i
 |0,i,r,h=>by
  rw[ByteArray.toList.loop,if_neg (by omega),List.drop_eq_nil_of_le (by rw[Array.length_toList];show bs.size≤i;omega),List.append_nil]
 |n+1,i,r,h=>by
  have hi:i<bs.size:=by omega
  have hi':i<bs.data.toList.length:=by rw[Array.length_toList];exact hi
  rw[ByteArray.toList.loop,if_pos hi,ba_loop bs n (i+1) _ (by omega),List.drop_eq_getElem_cons hi']
  have:bs.get! i=bs.data.toList[i]:=by
   cases bs with
   |mk d=>
    have hd:i<d.size:=hi
    show d[i]! =d.toList[i]
    simp[hd]
  simp[this]
theorem ba_toList (bs:ByteArray):bs.toList=bs.data.toList:=by
 unfold ByteArray.toList
 rw[ba_loop bs _ 0 [] rfl]
 simp
theorem sEq_iff (x y:ByteArray):sEq x y=true↔x=y:=by
 unfold sEq
 rw[ba_toList,ba_toList,beq_iff_eq,Array.toList_inj]
 cases x;cases y;simp
theorem oneAX: ∀x∈tabAX,oneI x tabAX.length=0:=by
 have ht:twiceB [nmVX,nmNX]=false:=twiceB_false fun i hi j hj=>by
  have:i=1∧j=0:=by simp at hi;omega
  obtain ⟨rfl,rfl⟩:=this
  have: ¬sEq nmNX nmVX=true:=by rw[sEq_iff];decide
  simpa using this
 have hS: ∀e:List Int,e= [1,2]∨e= [1,4]→oneI ⟨11,0,e,[nmVX,nmNX],0,false⟩ 5=0:=by
  intro e he
  unfold oneI
  rcases he with rfl|rfl
  ·rw[if_neg (by decide),if_neg (by decide),if_neg (by decide),if_neg (by rw[ht];simp)]
  ·rw[if_neg (by decide),if_neg (by decide),if_neg (by decide),if_neg (by rw[ht];simp)]
 intro x hx
 simp only[tabAX,List.mem_cons,List.mem_nil_iff,or_false] at hx
 rcases hx with rfl|rfl|rfl|rfl|rfl
 ·exact hS _ (.inl rfl)
 ·decide
 ·decide
 ·exact hS _ (.inr rfl)
 ·decide
theorem checkAX:checkI tabAX=0:=by
 refine checkOk_iff.2 ⟨by decide,oneAX,by decide,fun r hr=>?_,fun x hx hf=>?_⟩
 ·rintro (h|h)
  ·refine noRankX (l:=tabAX) (fun a=>if a=0∨a=3 then 1 else 0) (fun a b h=>?_) h
   obtain ⟨x,h1,h2,h3⟩:=h
   rcases tabA_atX h1 with ⟨rfl,rfl⟩|⟨rfl,rfl⟩|⟨rfl,rfl⟩|⟨rfl,rfl⟩|⟨rfl,rfl⟩
   ·simp at h3
    have:b=1∨b=2:=by omega
    rcases this with rfl|rfl<;>simp
   ·simp[mdU] at h3
   ·simp[mdU,yinB] at h2
   ·simp at h3
    have:b=1∨b=4:=by omega
    rcases this with rfl|rfl<;>simp
   ·simp[mdU,yinB] at h2
  ·refine noRankX (l:=tabAX) (fun a=>if a=2∨a=4 then 1 else 0) (fun a b h=>?_) h
   obtain ⟨x,h1,h2,h3⟩:=h
   rcases tabA_atX h1 with ⟨rfl,rfl⟩|⟨rfl,rfl⟩|⟨rfl,rfl⟩|⟨rfl,rfl⟩|⟨rfl,rfl⟩
   ·simp[yangB] at h2
   ·simp[mdU] at h3
   ·simp[mdU] at h3
    have:b=3:=by omega
    subst this;simp
   ·simp[yangB] at h2
   ·simp[mdU] at h3
    have:b=0:=by omega
    subst this;simp
 ·have:tabAX.all (fun x=> !flexOf x)=true:=by decide
  have:=List.all_eq_true.1 this x hx
  rw[hf] at this
  cases this
theorem md1X:mdAt tabAX 1=mdU 3 []:=rfl
theorem md2X:mdAt tabAX 2=mdU 9 [3]:=rfl
theorem md3X:mdAt tabAX 3=⟨11,0,[1,4],[nmVX,nmNX],0,false⟩:=rfl
theorem md4X:mdAt tabAX 4=mdU 9 [0]:=rfl
def relAX (a b:Nat):Prop:=(a=b∧a<5)∨(a=0∧b=3)∨(a=3∧b=0)∨(a=2∧b=4)∨(a=4∧b=2)
instance (a b:Nat):Decidable (relAX a b):=by unfold relAX;infer_instance
theorem notUX {a:Nat} (h:a<5):isU (mdAt tabAX a)=false:=by
 have: ∀a<5,isU (mdAt tabAX a)=false:=by decide
 exact this a h
theorem bisimAX:Bisim tabAX relAX:=by
 have hlt: ∀a b,relAX a b→a<5∧b<5:=by rintro a b (h|h|h|h|h)<;>omega
 refine ⟨hlt,fun a b h=>?_,fun a b j h hu=>?_,fun a b j h hu=>?_,fun a b h _=>?_,fun a b k e e' h _ h1 h2=>?_⟩
 ·have hse: ∀x:Md,firstC x x=0:=fun x=>firstC_ord.self trivial
  rcases h with ⟨rfl,_⟩|⟨rfl,rfl⟩|⟨rfl,rfl⟩|⟨rfl,rfl⟩|⟨rfl,rfl⟩
  ·exact hse _
  ·exact hse (mdAt tabAX 0)
  ·exact hse (mdAt tabAX 3)
  ·exact hse (mdAt tabAX 2)
  ·exact hse (mdAt tabAX 4)
 ·rw[notUX (hlt a b h).1] at hu;cases hu
 ·rw[notUX (hlt a b h).2] at hu;cases hu
 ·have: ∀a<5,∀b<5,relAX a b→(mdAt tabAX a).elems.length=(mdAt tabAX b).elems.length:=by decide
  exact this a (hlt a b h).1 b (hlt a b h).2 h
 ·have key: ∀a<5,∀b<5,relAX a b→ ∀k<2,∀h1:k<(mdAt tabAX a).elems.length,∀h2:k<(mdAt tabAX b).elems.length,relAX (mdAt tabAX a).elems[k].toNat (mdAt tabAX b).elems[k].toNat:=by decide
  obtain ⟨g1,rfl⟩:=List.getElem?_eq_some_iff.1 h1
  obtain ⟨g2,rfl⟩:=List.getElem?_eq_some_iff.1 h2
  have hk:k<2:=by
   have: ∀a<5,(mdAt tabAX a).elems.length≤2:=by decide
   have:=this a (hlt a b h).1
   omega
  exact key a (hlt a b h).1 b (hlt a b h).2 h k hk g1 g2
theorem rr03:RR tabAX 0=RR tabAX 3:=bisimAX.RR (by decide)
theorem rr24:RR tabAX 2=RR tabAX 4:=bisimAX.RR (by decide)
theorem rr12:RR tabAX 1<RR tabAX 2:=RR_kindlt (by decide) (by decide) (by decide)
theorem rr20:RR tabAX 2<RR tabAX 0:=RR_kindlt (by decide) (by decide) (by decide)
theorem textAX:textT tabAX 2= [82,69,70,32,83,84,82,85,67,84,40,73,78,84,32,118,44,32,35,48,32,110,101,120,116,41]:=by
 have h1:=rr12
 have h2:=rr20
 have h3:=rr03
 have h4:=rr24
 have n1:numOf tabAX [] 2=none:=numOf_none.2 (by simp)
 have n2:numOf tabAX [2] 3=none:=numOf_none.2 (by simp;omega)
 have n3:numOf tabAX [2,3] 4=some 0:=by unfold numOf;simp[List.findIdx?_cons,h4]
 have hl:tabAX.length=5:=rfl
 unfold textT
 rw[hl]
 have t1:txM tabAX 4 [2,3] 1=([73,78,84],[2,3]):=by
  unfold txM;rw[md1X];simp[mdU,plainT,sizeT,kindT]
 have t4:txM tabAX 4 [2,3] 4=([35,48],[2,3]):=by
  unfold txM;rw[md4X];simp[mdU,n3,digB]
 have t3:txM tabAX 5 [2] 3=([83,84,82,85,67,84,40,73,78,84,32,118,44,32,35,48,32,110,101,120,116,41],[2,3]):=by
  unfold txM;rw[md3X];simp only[n2]
  unfold bodyT;rw[md3X];simp[eN,named,txL,t1,t4,nmVX,nmNX]
 unfold txM;rw[md2X];simp only[n1]
 unfold bodyT;rw[md2X];simp[eN,mdU,t3]
theorem denseAX {ds:List Nat} {kd:Nat} (h:DenseOf 5 (fun a b=>RR tabAX a<RR tabAX b) ds kd):ds= [2,0,1,2,1]∧kd=3:=by
 have h1:=rr12
 have h2:=rr20
 have h3:=rr03
 have h4:=rr24
 obtain ⟨hl,ho,hb,hs⟩:=h
 match ds,hl with
 | [a,b,c,d,e],_=>
  have o:=fun i j x y (hi: [a,b,c,d,e][i]? =some x) (hj: [a,b,c,d,e][j]? =some y)=>ho i j x y hi hj
  have o10:=o 1 2 b c rfl rfl
  have o20:=o 2 0 c a rfl rfl
  have o03:=o 0 3 a d rfl rfl
  have o30:=o 3 0 d a rfl rfl
  have o24:=o 2 4 c e rfl rfl
  have o42:=o 4 2 e c rfl rfl
  have e1:a=d:=by omega
  have e2:c=e:=by omega
  subst e1 e2
  have l1:b<c:=o10.2 h1
  have l2:c<a:=o20.2 h2
  have ba:=hb 0 a rfl
  have cov: ∀v,v<kd→v=a∨v=b∨v=c:=fun v hv=>by
   obtain ⟨i,hi⟩:=hs v hv
   match i,hi with
   |0,hi=>simp at hi;omega
   |1,hi=>simp at hi;omega
   |2,hi=>simp at hi;omega
   |3,hi=>simp at hi;omega
   |4,hi=>simp at hi;omega
   |i+5,hi=>simp at hi
  have c0:=cov 0 (by omega)
  have c1:=cov 1 (by omega)
  have c2:=cov 2 (by omega)
  have hb0:b=0:=by omega
  have hc1:c=1:=by omega
  have ha2:a=2:=by omega
  subst hb0 hc1 ha2
  refine ⟨rfl,?_⟩
  rcases Nat.lt_or_ge 3 kd with h|h
  ·have:=cov 3 (by omega);omega
  ·omega
theorem notBadAX {ds:List Nat} {k:Nat} (h:ds= [2,0,1,2,1]) (hk:k<3): ¬badAt tabAX ds k:=by
 rintro ⟨hu,_⟩
 have:firstOf ds k<5:=by
  subst h
  have: ∀k<3,firstOf [2,0,1,2,1] k<5:=by decide
  exact this k hk
 rw[notUX this] at hu
 cases hu
end Go.Proofs.YtlniliigcnedmaaGreatDoor
namespace Go.Proofs.YtlniliigcnedmaaGreatDoor
open Go Ax
set_option maxRecDepth 100000
def blkAX (n:Nat):List ABlk:=
 [.own [.int .i64 1,.int .i64 2] 3 none,.own [.str ⟨#[118]⟩,.str ⟨#[110,101,120,116]⟩] 9 none,.own [.int .i64 3] 3 none,.own [.int .i64 1,.int .i64 4] 3 none,.own [.str ⟨#[118]⟩,.str ⟨#[110,101,120,116]⟩] 9 none,.own [.int .i64 0] 3 none,
  .own [.int .i64 11,.int .i64 0,.slice n 0 2 2 none,.slice (n+1) 0 2 2 none,.int .i64 0,.bool false,.int .i64 3,.int .i64 0,.nilslice,.nilslice,.int .i64 0,.bool false,
   .int .i64 9,.int .i64 0,.slice (n+2) 0 1 1 none,.nilslice,.int .i64 0,.bool false,.int .i64 11,.int .i64 0,.slice (n+3) 0 2 2 none,.slice (n+4) 0 2 2 none,.int .i64 0,.bool false,
   .int .i64 9,.int .i64 0,.slice (n+5) 0 1 1 none,.nilslice,.int .i64 0,.bool false] 39 none]
theorem rdAX {m bs:List ABlk} {k:Nat} {cs:List AVal} {ty:TypeId} {g:Option Nat} (h:bs[k]? =some (.own cs ty g)):readB (m++bs) (m.length+k)=some cs:=by
 simp[readB,List.getElem?_append_right,h,ABlk.cells]
theorem tabA_okX (m:AMem):RTab (m++blkAX m.length) (.slice (m.length+6) 0 5 5 none) tabAX:=by
 have r:=fun k cs ty g h=> @rdAX m (blkAX m.length) k cs ty g h
 have i0:RInts (m++blkAX m.length) (.slice m.length 0 2 2 none) [1,2]:= .inr ⟨_,_,_,_,rfl,⟨by decide,.inl rfl⟩,.inr ⟨by decide,_,r 0 _ _ _ rfl,rfl⟩⟩
 have i1:RStrs (m++blkAX m.length) (.slice (m.length+1) 0 2 2 none) [nmVX,nmNX]:= .inr ⟨_,_,_,_,rfl,⟨by decide,.inl rfl⟩,.inr ⟨by decide,_,r 1 _ _ _ rfl,rfl⟩⟩
 have i2:RInts (m++blkAX m.length) (.slice (m.length+2) 0 1 1 none) [3]:= .inr ⟨_,_,_,_,rfl,⟨by decide,.inl rfl⟩,.inr ⟨by decide,_,r 2 _ _ _ rfl,rfl⟩⟩
 have i3:RInts (m++blkAX m.length) (.slice (m.length+3) 0 2 2 none) [1,4]:= .inr ⟨_,_,_,_,rfl,⟨by decide,.inl rfl⟩,.inr ⟨by decide,_,r 3 _ _ _ rfl,rfl⟩⟩
 have i4:RStrs (m++blkAX m.length) (.slice (m.length+4) 0 2 2 none) [nmVX,nmNX]:= .inr ⟨_,_,_,_,rfl,⟨by decide,.inl rfl⟩,.inr ⟨by decide,_,r 4 _ _ _ rfl,rfl⟩⟩
 have i5:RInts (m++blkAX m.length) (.slice (m.length+5) 0 1 1 none) [0]:= .inr ⟨_,_,_,_,rfl,⟨by decide,.inl rfl⟩,.inr ⟨by decide,_,r 5 _ _ _ rfl,rfl⟩⟩
 refine ⟨_,.inr ⟨_,_,_,_,rfl,⟨by decide,.inl rfl⟩,.inr ⟨by decide,_,r 6 _ _ _ rfl,rfl⟩⟩,fun i x hx=>?_⟩
 rcases tabA_atX hx with ⟨rfl,rfl⟩|⟨rfl,rfl⟩|⟨rfl,rfl⟩|⟨rfl,rfl⟩|⟨rfl,rfl⟩
 ·exact ⟨_,_,rfl,i0,i1⟩
 ·exact ⟨_,_,rfl,Sl.nil,Sl.nil⟩
 ·exact ⟨_,_,rfl,i2,Sl.nil⟩
 ·exact ⟨_,_,rfl,i3,i4⟩
 ·exact ⟨_,_,rfl,i5,Sl.nil⟩
theorem smallAX: ∀x∈tabAX,smallN x:=by
 intro x hx
 simp only[tabAX,List.mem_cons,List.mem_nil_iff,or_false] at hx
 rcases hx with rfl|rfl|rfl|rfl|rfl
 ·exact ⟨by decide,by decide,by decide⟩
 ·exact ⟨by decide,by decide,by decide⟩
 ·exact ⟨by decide,by decide,by decide⟩
 ·exact ⟨by decide,by decide,by decide⟩
 ·exact ⟨by decide,by decide,by decide⟩
set_option maxHeartbeats 4000000 in
theorem k13 (m:AMem):ACalls Tryz.prog 13 [] m fun v m'=>v= .bool true∧m<+:m':=by
 refine w13 ?_
 simp[fillA,setN]
 have hT:=tabA_okX m
 have hm1:m<+:m++blkAX m.length:=List.prefix_append _ _
 simp only[blkAX] at hT hm1
 generalize m++_=m1 at*
 generalize AVal.slice (m.length+6) 0 5 5 none=s at*
 have hri:rightI tabAX [2]=0:=by
  unfold rightI
  rw[if_neg (by rw[checkAX];simp),if_neg (by decide)]
 have hT13:T13 tabAX:=T13.of (by decide)
 refine C_of (k15 s tabAX 2 m1 hT smallAX (fun _=>hT13) (by decide)) ?_
 rintro _ m2 ⟨hm2,rfl⟩
 have htx:textV tabAX 2=textT tabAX 2:=by unfold textV;rw[if_neg (by simp[hri])];rfl
 rw[hri,htx,textAX]
 simp
 refine C_of (k17 s tabAX 0 3 m2 (hT.mono hm2) smallAX hT13 checkAX (by decide) (by decide)) ?_
 rintro _ m3 ⟨rfl,hm3⟩
 have hm13:=hm2.trans hm3
 simp[rr03]
 have hnm: ∀x∈tabAX,x.names.length<2^40:=by decide
 refine C_of (k28f s tabAX m3 (hT.mono hm13) smallAX hnm hT13 checkAX) ?_
 rintro v4 m4 ⟨hm4,ds,kd,hD,h⟩
 obtain ⟨hds,rfl⟩:=denseAX hD
 rcases h with ⟨t,n,rfl,hn,ht,_⟩|⟨_,k,hk,hb⟩
 rotate_left
 ·exact absurd hb (notBadAX hds hk)
 have htl:=ht.tab.len
 rw[redT_len] at htl
 have hni:=ints_of_nat hn
 subst hds
 have hse: ∀x:ByteArray,binStr .eql x x=some (.bool true):=fun x=>by simp[binStr]
 have hw0:IntKind.i64.wrap 0=0:=wrap64 (by omega) (by omega)
 simp[hse,htl,fillA,setN,hw0]
 have hA:RInts (m4++ [ABlk.own [AVal.int .i64 2,.int .i64 0,.int .i64 1,.int .i64 2,.int .i64 1] 3 none]) (.slice m4.length 0 5 5 none) [2,0,1,2,1]:=(OwL.new (f:=AVal.int .i64) m4 3 [2,0,1,2,1]).ints
 have hm5:m4<+:m4++ [ABlk.own [AVal.int .i64 2,.int .i64 0,.int .i64 1,.int .i64 2,.int .i64 1] 3 none]:=List.prefix_append _ _
 refine C_of (k27 n _ [2,0,1,2,1] _ (hni.mono hm5) hA (by decide)) ?_
 rintro _ m6 ⟨rfl,hm6⟩
 simp
 exact hm1.trans (hm13.trans (hm4.trans (hm5.trans hm6)))
end Go.Proofs.YtlniliigcnedmaaGreatDoor
namespace Go.Proofs.YtlniliigcnedmaaGreatDoor
open Go Ax
set_option maxRecDepth 100000
theorem w18 {args m R} (h:W Tryz.prog (.seq (.reg [qb 6 false,qi 7 0]) (.kill [0,1,2] (.seq (.seq (.reg [qv 10 0,qv 11 1,qv 12 2,⟨some 13,.A (.bslice 3 2 [(.int .i64 0)] [(0,(1,(.t 11))),(1,(1,(.t 12)))]),none⟩,qc 14 47 [(.t 10),(.t 13)],qv 8 14]) (.kill [0,1,2,8] (.seq (.reg [qv 15 8,qk 16 .neq 15 0]) (.kill [0,1,2,8,16] (.cond (.t 16) (.seq (.reg [qv 17 8,qb 6 false,qv 7 17]) .ret) .skip))))) (.kill [0,1,2] (.seq (.seq (.draw true [qv 18 1,qv 19 2,qo 20 .eql 18 19,qv 21 20,⟨some 22,.P (.mov (.t 0)),(some (21,false))⟩,⟨some 23,.P (.mov (.t 1)),(some (21,false))⟩,⟨some 24,.P (.iaddr 6 (.t 22) (.t 23)),(some (21,false))⟩,⟨some 25,.R (.load 6 true (.t 24)),(some (21,false))⟩,⟨some 26,.P (.mov (.t 0)),(some (21,false))⟩,⟨some 27,.P (.mov (.t 2)),(some (21,false))⟩,⟨some 28,.P (.iaddr 6 (.t 26) (.t 27)),(some (21,false))⟩,⟨some 29,.R (.load 6 true (.t 28)),(some (21,false))⟩,⟨some 30,.C (.c (.func (.func 50) [] [])) [(.t 25),(.t 29)],(some (21,false))⟩,⟨some 31,.P (.bin .neq (.t 30) (qz 0)),(some (21,false))⟩,⟨some 32,.P (.pick (.t 21) (.c (.bool true)) (.t 31)),none⟩,qv 33 32,⟨some 34,.P (.mov (.t 0)),(some (33,false))⟩,⟨some 35,.P (.mov (.t 1)),(some (33,false))⟩,⟨some 36,.P (.iaddr 6 (.t 34) (.t 35)),(some (33,false))⟩,⟨some 37,.P (.faddr 2 (.t 36)),(some (33,false))⟩,⟨some 38,.R (.load 1 false (.t 37)),(some (33,false))⟩,⟨some 39,.P (.mov (.t 0)),(some (33,false))⟩,⟨some 40,.P (.mov (.t 2)),(some (33,false))⟩,⟨some 41,.P (.iaddr 6 (.t 39) (.t 40)),(some (33,false))⟩,⟨some 42,.P (.faddr 2 (.t 41)),(some (33,false))⟩,⟨some 43,.R (.load 1 false (.t 42)),(some (33,false))⟩,⟨some 44,.C (.c (.func (.func 51) [] [])) [(.t 38),(.t 43)],(some (33,false))⟩,⟨some 45,.P (.pick (.t 33) (.c (.bool true)) (.t 44)),none⟩] [[],[],[],[],[],[],[],[],[],[],[],[],[],[12],[12],[12],[12],[12],[12],[12],[12],[12],[12],[12],[12],[12],[12],[12,26]] [[],[],[],[],[],[],[],[],[],[],[],[],[],[],[],[],[],[],[],[],[],[],[],[],[],[],[],[]] [0,1,2,3,4,5,6,7,8,9,10,11,12,13,14,15,16,17,18,19,20,21,22,23,24,25,26,27]) (.kill [0,1,2,45] (.cond (.t 45) (.seq (.draw true [qv 46 1,qv 47 2,qo 48 .eql 46 47,qv 49 48,⟨some 50,.P (.mov (.t 0)),(some (49,false))⟩,⟨some 51,.P (.mov (.t 1)),(some (49,false))⟩,⟨some 52,.P (.iaddr 6 (.t 50) (.t 51)),(some (49,false))⟩,⟨some 53,.R (.load 6 true (.t 52)),(some (49,false))⟩,⟨some 54,.P (.mov (.t 0)),(some (49,false))⟩,⟨some 55,.P (.mov (.t 2)),(some (49,false))⟩,⟨some 56,.P (.iaddr 6 (.t 54) (.t 55)),(some (49,false))⟩,⟨some 57,.R (.load 6 true (.t 56)),(some (49,false))⟩,⟨some 58,.C (.c (.func (.func 50) [] [])) [(.t 53),(.t 57)],(some (49,false))⟩,⟨some 59,.P (.bin .eql (.t 58) (qz 0)),(some (49,false))⟩,⟨some 60,.P (.pick (.t 49) (.c (.bool true)) (.t 59)),none⟩,qv 6 60,qi 7 0] [[],[],[],[],[],[],[],[],[],[],[],[],[],[12],[12],[12],[12]] [[],[],[],[],[],[],[],[],[],[],[],[],[],[],[],[],[]] [0,1,2,3,4,5,6,7,8,9,10,11,12,13,14,15,16]) .ret) .skip))) (.kill [0,1,2] (.seq (.reg [qv 61 0,qc 62 48 [(.t 61)],qv 9 62]) (.kill [1,2,9] (.seq (.draw true [qv 63 9,qv 64 1,qa 65 1 63 64,ql 66 65,qv 67 9,qv 68 2,qa 69 1 67 68,ql 70 69,qo 71 .eql 66 70,qv 6 71,qi 7 0] [[],[],[],[],[],[],[],[],[],[],[]] [[],[],[],[],[],[],[],[],[],[],[]] [0,1,2,3,4,5,6,7,8,9,10]) .ret))))))))) (E [(.tmp 6),(.tmp 7)] R .mk) .mk (mat 72 (sArgs 0 args)) m) (hl:Nat.ble args.length 72=true:=by rfl):ACalls Tryz.prog 18 args m R:=walk mix (by kernel_rfl) (Nat.le_of_ble_eq_true hl) h
end Go.Proofs.YtlniliigcnedmaaGreatDoor
namespace Go.Proofs.YtlniliigcnedmaaGreatDoor
open Go Ax
open Relation
set_option maxRecDepth 100000
theorem check_app {l:List Md} {x:Md} (hc:checkI l=0) (hn:l.length<512) (hx:oneI x l.length=0) (hv:voidsB l x=false) (hf:flexOf x=true→ ∀e∈x.elems,¬FlexP l e.toNat):checkI (l++ [x])=0:=by
 have ok:=okT_of hc
 have h:=checkOk_iff.1 hc
 obtain ⟨_,hxg,_,_⟩:=oneI_zero hx
 have hva: ∀y:Md,(∀e∈y.elems,0≤e∧e<(l.length:Int))→voidsB l y=false→ ¬voidsB (l++ [x]) y=true:=fun y hy hv hv2=>by
  have hve: ∀e∈y.elems,voidE (l++ [x]) e=voidE l e:=fun e he=>by
   have:=hy e he
   unfold voidE
   rw[List.getElem?_append_left (by omega)]
  rw[←Bool.not_eq_true] at hv
  apply hv
  unfold voidsB at hv2 ⊢
  split at hv2
  ·cases hv2
  ·rename_i h12
   rw[if_neg h12]
   split at hv2
   ·rename_i h13
    rw[if_pos h13]
    rw[List.any_eq_true] at hv2 ⊢
    obtain ⟨e,he,hh⟩:=hv2
    exact ⟨e,he,by rw[←hve e (List.dropLast_subset _ he)];exact hh⟩
   ·rename_i h13
    rw[if_neg h13]
    rw[List.any_eq_true] at hv2 ⊢
    obtain ⟨e,he,hh⟩:=hv2
    exact ⟨e,he,by rw[←hve e he];exact hh⟩
 refine checkOk_iff.2 ⟨by simp;omega,fun y hy=>?_,?_,fun r hr hb=>?_,fun y hy hf' e he hp=>?_⟩
 ·rw[List.length_append,List.length_singleton]
  rcases List.mem_append.1 hy with hy|hy
  ·exact one_more (h.one y hy)
  ·simp at hy;subst hy;exact one_more hx
 ·rw[List.any_eq_false]
  intro y hy
  rcases List.mem_append.1 hy with hy'|hy'
  ·exact hva y (ok.good y hy') (by simpa using List.any_eq_false.1 h.void y hy')
  ·simp at hy';subst hy';exact hva y hxg hv
 ·have key: ∀p:Md→Bool,TransGen (stepR (l++ [x]) p) r r→r<l.length∧TransGen (stepR l p) r r:=fun p hp=>by
   have hrl:r<l.length:=by
    rcases Nat.lt_or_ge r l.length with h|h
    ·exact h
    ·have:r=l.length:=by simp at hr;omega
     subst this
     exfalso
     cases hp with
     |single h=>exact no_into ok.good hxg h
     |tail _ h=>exact no_into ok.good hxg h
   exact ⟨hrl,(tg_app ok.good hrl hp).1⟩
  rcases hb with hb|hb
  ·obtain ⟨h1,h2⟩:=key _ hb;exact h.bad r h1 (.inl h2)
  ·obtain ⟨h1,h2⟩:=key _ hb;exact h.bad r h1 (.inr h2)
 ·rcases List.mem_append.1 hy with hy'|hy'
  ·have:=ok.good y hy' e he
   exact h.flex y hy' hf' e he (flex_app ok.good (by omega) hp)
  ·simp at hy'
   subst hy'
   have:=hxg e he
   exact hf hf' e he (flex_app ok.good (by omega) hp)
inductive Ext (l:List Md):List Md→Prop
 |refl:Ext l l
 |step {k:List Md} {x:Md}:Ext l k→checkI (k++ [x])=0→Ext l (k++ [x])
section
variable {l k:List Md}
theorem FlexP.more {x:Md} {a:Nat} (h:FlexP l a):FlexP (l++ [x]) a:=by
 induction h with
 |flex h1 h2 h3=>exact .flex (by rw[List.getElem?_append_left (List.getElem?_eq_some_iff.1 h1).1];exact h1) h2 h3
 |step h1 _ ih=>
  obtain ⟨y,g1,g2⟩:=h1
  exact .step ⟨y,by rw[List.getElem?_append_left (List.getElem?_eq_some_iff.1 g1).1];exact g1,g2⟩ ih
theorem Ext.trans {j:List Md} (h:Ext l k) (h':Ext k j):Ext l j:=by
 induction h' with
 |refl=>exact h
 |step _ hc ih=>exact .step ih hc
theorem Ext.len (h:Ext l k):l.length≤k.length:=by
 induction h with
 |refl=>omega
 |step _ _ ih=>simp;omega
theorem Ext.check (h:Ext l k) (hc:checkI l=0):checkI k=0:=by cases h<;>assumption
theorem Ext.get (h:Ext l k) {a:Nat} (ha:a<l.length):k[a]? =l[a]? :=by
 induction h with
 |refl=>rfl
 |step h' _ ih=>rw[List.getElem?_append_left (by have:=h'.len;omega),ih]
theorem Ext.md (h:Ext l k) {a:Nat} (ha:a<l.length):mdAt k a=mdAt l a:=by unfold mdAt;rw[h.get ha]
theorem Ext.rr (h:Ext l k) (hc:checkI l=0) {a b:Nat} (ha:a<l.length) (hb:b<l.length):RR k a=RR k b↔RR l a=RR l b:=by
 induction h with
 |refl=>exact Iff.rfl
 |step h' hc' ih=>
  have hck:=h'.check hc
  have hl:=h'.len
  rw[←ih]
  exact ⟨fun e=>RR_app (okT_of hck).good (okT_of hc').good (by omega) (by omega) e,fun e=>RR_grow (okT_of hck).good (by omega) (by omega) e⟩
theorem Ext.flex (h:Ext l k) (hc:checkI l=0) {a:Nat} (ha:a<l.length):FlexP k a↔FlexP l a:=by
 induction h with
 |refl=>exact Iff.rfl
 |step h' hc' ih=>
  have hck:=h'.check hc
  have hl:=h'.len
  rw[←ih]
  exact ⟨fun e=>flex_app (okT_of hck).good (by omega) e,fun e=>e.more⟩
theorem Ext.part (h:Ext l k) (hc:checkI l=0) {a j:Nat} (ha:a<l.length):IsPart k a j↔IsPart l a j:=by
 induction h with
 |refl=>exact Iff.rfl
 |step h' hc' ih=>
  have hck:=h'.check hc
  have hl:=h'.len
  rw[←ih]
  exact part_old (okT_of hck).good (by omega)
theorem Ext.base (h:Ext l k) (hc:checkI l=0) {a j:Nat} (ha:a<l.length):IsBase k a j↔IsBase l a j:=by
 unfold IsBase
 rw[h.md ha]
 split
 ·exact h.part hc ha
 ·exact Iff.rfl
end
theorem firstC_all {x y:Md} (h:firstC x y=0):x.kind=y.kind∧x.size=y.size∧x.dims=y.dims∧x.flex=y.flex∧(x.kind≠12→x.elems.length=y.elems.length)∧lexC cmpS x.names y.names=0:=by
 have hz: ∀{x:Int} {xs:List Int},firstNZ (x::xs)=0→x=0∧firstNZ xs=0:=fun {x xs} h=>by
  rw[firstNZ_cons] at h
  split at h
  ·omega
  ·rename_i h0;exact ⟨by omega,h⟩
 unfold firstC firstL at h
 obtain ⟨h1,h⟩:=hz h
 obtain ⟨h2,h⟩:=hz h
 obtain ⟨h3,h⟩:=hz h
 obtain ⟨h4,h⟩:=hz h
 obtain ⟨h5,h⟩:=hz h
 obtain ⟨h6,h⟩:=hz h
 refine ⟨cmpI_zero.1 h1,cmpI_zero.1 h2,cmpI_zero.1 h3,?_,fun hk=>?_,h6⟩
 ·have:=cmpI_zero.1 h4
  cases hx1:x.flex<;>cases hx2:y.flex<;>simp[bi,hx1,hx2] at this ⊢
 ·unfold lenC at h5
  rw[if_neg hk] at h5
  have:=cmpI_zero.1 h5
  omega
def sameX (l:List Md) (i:Nat) (x:Md):Prop:=firstC (mdAt l i) x=0∧ ∀(k:Nat) (e e':Int),(mdAt l i).elems[k]? =some e→x.elems[k]? =some e'→RR l e.toNat=RR l e'.toNat
theorem elem_lt {l:List Md} (hg:goodT l) {a k:Nat} {e:Int} (ha:a<l.length) (h:(mdAt l a).elems[k]? =some e):0≤e∧e.toNat<l.length:=by
 have:=hg (mdAt l a) (by rw[mdAt_eq ha];exact List.getElem_mem ha) e (List.mem_of_getElem? h)
 omega
theorem last_iff {l:List Md} {x:Md} (hc:checkI l=0) (hc':checkI (l++ [x])=0) (hx: ∀e∈x.elems,0≤e∧e<(l.length:Int)) (hu:isU x=false) {i:Nat} (hi:i<l.length):RR (l++ [x]) i=RR (l++ [x]) l.length↔sameX l i x:=by
 have hg:=(okT_of hc).good
 have hg':=(okT_of hc').good
 have hl:(l++ [x]).length=l.length+1:=by simp
 constructor
 ·intro h
  have hf:=RR_first (by omega) (by omega) h
  rw[mdAt_app hi,mdAt_last] at hf
  have hui:isU (mdAt (l++ [x]) i)=false:=by
   rw[mdAt_app hi];unfold isU at hu ⊢;rw[firstC_kind hf];exact hu
  refine ⟨hf,fun k e e' h1 h2=>?_⟩
  have:=(RR_elem hg' (by omega) (by omega) h hui).2 k e e' (by rw[mdAt_app hi];exact h1) (by rw[mdAt_last];exact h2)
  have b1:=elem_lt hg hi h1
  have b2:=hx e' (List.mem_of_getElem? h2)
  exact RR_app hg hg' b1.2 (by omega) this
 ·rintro ⟨hf,he⟩
  have hfa:=firstC_all hf
  have hui:isU (mdAt l i)=false:=by unfold isU at hu ⊢;rw[hfa.1];exact hu
  have hk12:(mdAt l i).kind≠12:=by intro h;simp[isU,h] at hui
  refine Bisim.RR (E:=fun a b=>(a<l.length+1∧b<l.length+1∧RR (l++ [x]) a=RR (l++ [x]) b)∨(a=i∧b=l.length)) ⟨fun a b h=>by omega,fun a b h=>?_,fun a b j h hua hj=>?_,fun a b j h hub hj=>?_,fun a b h hua=>?_,fun a b k e e' h hua h1 h2=>?_⟩ (.inr ⟨rfl,rfl⟩)
  ·rcases h with h|⟨rfl,rfl⟩
   ·exact RR_first (by omega) (by omega) h.2.2
   ·rw[mdAt_app hi,mdAt_last];exact hf
  ·rcases h with h|⟨rfl,rfl⟩
   ·obtain ⟨j',h1,h2⟩:=RR_part hg' (by omega) (by omega) h.2.2 hua hj
    have b1:=hj.lt hg'
    have b2:=h1.lt hg'
    exact ⟨j',h1,.inl ⟨by omega,by omega,h2⟩⟩
   ·rw[mdAt_app hi,hui] at hua;cases hua
  ·rcases h with h|⟨rfl,rfl⟩
   ·obtain ⟨j',h1,h2⟩:=RR_part hg' (by omega) (by omega) h.2.2.symm hub hj
    have b1:=hj.lt hg'
    have b2:=h1.lt hg'
    exact ⟨j',h1,.inl ⟨by omega,by omega,h2.symm⟩⟩
   ·rw[mdAt_last,hu] at hub;cases hub
  ·rcases h with h|⟨rfl,rfl⟩
   ·exact (RR_elem hg' (by omega) (by omega) h.2.2 hua).1
   ·rw[mdAt_app hi,mdAt_last];exact hfa.2.2.2.2.1 hk12
  ·rcases h with h|⟨rfl,rfl⟩
   ·have b1:=elem_lt hg' (by omega) h1
    have b2:=elem_lt hg' (by omega) h2
    exact .inl ⟨by omega,by omega,(RR_elem hg' (by omega) (by omega) h.2.2 hua).2 k e e' h1 h2⟩
   ·rw[mdAt_app hi] at h1
    rw[mdAt_last] at h2
    have b1:=elem_lt hg hi h1
    have b2:=hx e' (List.mem_of_getElem? h2)
    exact .inl ⟨by omega,by omega,RR_grow hg b1.2 (by omega) (he k e e' h1 h2)⟩
theorem putI_check {l l2:List Md} {x:Md} {n:Int} (hc:checkI l=0) (h:putI l x=(l2,n,0)):checkI (l++ [x])=0:=by
 by_cases hcc:checkI (l++ [x])=0
 ·exact hcc
 ·exfalso
  have hf:findI l x=none:=by
   unfold findI
   split
   ·rfl
   ·first|rfl|rw[if_pos hcc]
  unfold putI at h
  rw[if_neg (by simp[hc]),hf] at h
  simp only[ne_eq,hcc,not_false_eq_true,if_true,Prod.mk.injEq] at h
  exact h.2.2
open Classical in
theorem putI_row {l:List Md} {x:Md} (hc:checkI l=0) (hc':checkI (l++ [x])=0) (hx: ∀e∈x.elems,0≤e∧e<(l.length:Int)) (hu:isU x=false):
  (∃j:Nat,j<l.length∧putI l x=(l,(j:Int),0)∧sameX l j x∧ ∀i,i<j→ ¬sameX l i x)∨(putI l x=(l++ [x],(l.length:Int),0)∧ ∀i,i<l.length→ ¬sameX l i x):=by
 have hin: ∀e∈x.elems,outB l.length e=false:=fun e he=>by
  have:=hx e he
  simp[outB];omega
 rcases fidx_first (p:=fun i=>decide (sameX l i x)) l.length 0 with ⟨_,h2⟩|⟨j,_,hj,h1,h2,h3⟩
 ·have hno: ∀i,i<l.length→ ¬sameX l i x:=fun i hi=>by simpa using h2 i (by omega) (by omega)
  refine .inr ⟨?_,hno⟩
  have hf:=findI_last hin hc' fun i hi e=>hno i hi ((last_iff hc hc' hx hu hi).1 e)
  unfold putI
  rw[if_neg (by simp[hc]),hf]
  simp only[ne_eq,hc',not_true_eq_false,if_false]
 ·have hjl:j<l.length:=by omega
  have hs:sameX l j x:=by simpa using h2
  have hno: ∀i,i<j→ ¬sameX l i x:=fun i hi=>by simpa using h3 i (by omega) hi
  refine .inl ⟨j,hjl,?_,hs,hno⟩
  have hf:=findI_some hin hc' hjl ((last_iff hc hc' hx hu hjl).2 hs) fun i hi e=>hno i hi ((last_iff hc hc' hx hu (by omega)).1 e)
  unfold putI
  rw[if_neg (by simp[hc]),hf]
def deflX (y:Md) (es:List Nat):Md:=⟨y.kind,y.size,es.map fun z:Nat=>(z:Int),y.names,y.dims,false⟩
inductive DefL:List Md→List Nat→List Md→List Nat→Prop
 |nil {l:List Md}:DefL l [] l []
 |flat {l l':List Md} {m:Nat} {ms ns:List Nat}: ¬FlexP l m→DefL l ms l' ns→DefL l (m::ms) l' (m::ns)
 |flex {l l1 l2 l':List Md} {m n:Nat} {ms ns es:List Nat}:FlexP l m→DefL l ((mdAt l m).elems.map Int.toNat) l1 es→putI l1 (deflX (mdAt l m) es)=(l2,(n:Int),0)→DefL l2 ms l' ns→DefL l (m::ms) l' (n::ns)
theorem DefL.det {l l':List Md} {ms ns:List Nat} (h:DefL l ms l' ns): ∀{l'':List Md} {ns':List Nat},DefL l ms l'' ns'→l'=l''∧ns=ns':=by
 induction h with
 |nil=>intro l'' ns' h';cases h';exact ⟨rfl,rfl⟩
 |flat hf _ ih=>
  intro l'' ns' h'
  cases h' with
  |flat _ h2=>obtain ⟨rfl,rfl⟩:=ih h2;exact ⟨rfl,rfl⟩
  |flex h1 _ _ _=>exact absurd h1 hf
 |flex hf _ hp _ ih1 ih2=>
  intro l'' ns' h'
  cases h' with
  |flat h1 _=>exact absurd hf h1
  |flex _ h1 h2 h3=>
   obtain ⟨rfl,rfl⟩:=ih1 h1
   rw[hp] at h2
   simp only[Prod.mk.injEq,Int.natCast_inj,and_true] at h2
   obtain ⟨rfl,rfl⟩:=h2
   obtain ⟨rfl,rfl⟩:=ih2 h3
   exact ⟨rfl,rfl⟩
theorem DefL.append {l l1 l':List Md} {ms ns ms' ns':List Nat} (h:DefL l ms l1 ns) (h':DefL l1 ms' l' ns'):DefL l (ms++ms') l' (ns++ns'):=by
 induction h with
 |nil=>exact h'
 |flat hf _ ih=>exact .flat hf (ih h')
 |flex hf h1 hp _ _ ih=>exact .flex hf h1 hp (ih h')
theorem deflX_range {l:List Md} {y:Md} {es:List Nat} (h: ∀e∈es,e<l.length): ∀e∈(deflX y es).elems,0≤e∧e<(l.length:Int):=fun e he=>by
 obtain ⟨z,hz,rfl⟩:=List.mem_map.1 he
 have:=h z hz
 omega
theorem rs_isU {y:Md} (h:rowStruct y=true):isU y=false:=by
 unfold rowStruct at h
 simp only[Bool.or_eq_true,beq_iff_eq] at h
 simp[isU]
 omega
theorem FlexP.rs {l:List Md} {m:Nat} (h:FlexP l m):m<l.length∧rowStruct (mdAt l m)=true:=by
 cases h with
 |flex h1 h2 _=>
  obtain ⟨h3,rfl⟩:=List.getElem?_eq_some_iff.1 h1
  exact ⟨h3,by rw[mdAt_eq h3];exact h2⟩
 |step h1 _=>
  obtain ⟨x,h1,h2,_⟩:=h1
  obtain ⟨h3,rfl⟩:=List.getElem?_eq_some_iff.1 h1
  exact ⟨h3,by rw[mdAt_eq h3];exact h2⟩
theorem sameX_nflex {l:List Md} {y:Md} {es:List Nat} (hc:checkI l=0) (hr: ∀e∈es,e<l.length∧ ¬FlexP l e) {j:Nat} (hj:j<l.length) (h:sameX l j (deflX y es)): ¬FlexP l j:=by
 intro hp
 have hg:=(okT_of hc).good
 have hfa:=firstC_all h.1
 cases hp with
 | @flex _ x h1 _ h3=>
  have:mdAt l j=x:=by unfold mdAt;rw[h1];rfl
  rw[this] at hfa
  rw[hfa.2.2.2.1] at h3
  cases h3
 | @step _ c h1 h2=>
  obtain ⟨x,g1,g2,g3⟩:=h1
  have hx:mdAt l j=x:=by unfold mdAt;rw[g1];rfl
  have hk12:(mdAt l j).kind≠12:=by
   rw[hx];unfold rowStruct at g2;simp only[Bool.or_eq_true,beq_iff_eq] at g2;omega
  have hle:=hfa.2.2.2.2.1 hk12
  rw[←hx] at g3
  obtain ⟨k,hk,hke⟩:=List.mem_iff_getElem.1 g3
  have hkd:k<(deflX y es).elems.length:=by omega
  have hk2:k<es.length:=by simpa[deflX] using hkd
  have:=h.2 k _ _ (List.getElem?_eq_getElem hk) (List.getElem?_eq_getElem hkd)
  rw[hke] at this
  have hd:(deflX y es).elems[k]=(es[k]:Int):=by simp[deflX]
  rw[hd,Int.toNat_natCast,Int.toNat_natCast] at this
  have hes:=hr es[k] (List.getElem_mem hk2)
  exact hes.2 (h2.congr hg h2.rs.1 hes.1 this)
theorem last_nflex {l:List Md} {y:Md} {es:List Nat} (hc:checkI l=0) (hr: ∀e∈es,e<l.length∧ ¬FlexP l e): ¬FlexP (l++ [deflX y es]) l.length:=by
 intro hp
 have hg:=(okT_of hc).good
 cases hp with
 |flex h1 _ h3=>
  rw[List.getElem?_concat_length] at h1
  simp only[Option.some.injEq] at h1
  subst h1
  cases h3
 | @step _ c h1 h2=>
  obtain ⟨x,g1,g2,g3⟩:=h1
  rw[List.getElem?_concat_length] at g1
  simp only[Option.some.injEq] at g1
  subst g1
  obtain ⟨z,hz,he⟩:=List.mem_map.1 g3
  have hzc:z=c:=by omega
  subst hzc
  have:=hr z hz
  exact this.2 (flex_app hg this.1 h2)
structure DefOk (l:List Md) (ms:List Nat) (l':List Md) (ns:List Nat):Prop where
 ext:Ext l l'
 len:ns.length=ms.length
 at_: ∀(i m n:Nat),ms[i]? =some m→ns[i]? =some n→n<l'.length∧(mdAt l' n).kind=(mdAt l m).kind∧ ¬FlexP l' n∧(¬FlexP l m→n=m)
theorem elems_lt {l:List Md} (hg:goodT l) {m:Nat} (hm:m<l.length): ∀e∈(mdAt l m).elems.map Int.toNat,e<l.length:=fun e he=>by
 obtain ⟨z,hz,rfl⟩:=List.mem_map.1 he
 have:=hg (mdAt l m) (by rw[mdAt_eq hm];exact List.getElem_mem hm) z hz
 omega
theorem put_defl {l l1 l2:List Md} {m n:Nat} {es:List Nat} (hc1:checkI l1=0) (hf:FlexP l m) (hr: ∀e∈es,e<l1.length∧ ¬FlexP l1 e) (hp:putI l1 (deflX (mdAt l m) es)=(l2,(n:Int),0)):
  Ext l1 l2∧checkI (l1++ [deflX (mdAt l m) es])=0∧n<l2.length∧(mdAt l2 n).kind=(mdAt l m).kind∧ ¬FlexP l2 n∧l2.length≤l1.length+1:=by
 have hc':=putI_check hc1 hp
 have hu:isU (deflX (mdAt l m) es)=false:=by
  have:=rs_isU hf.rs.2
  unfold isU at this ⊢;exact this
 rcases putI_row hc1 hc' (deflX_range fun e he=>(hr e he).1) hu with ⟨j,hj,h1,h2,_⟩|⟨h1,h2⟩
 ·rw[hp] at h1
  simp only[Prod.mk.injEq,Int.natCast_inj,and_true] at h1
  obtain ⟨rfl,rfl⟩:=h1
  exact ⟨.refl,hc',hj,(firstC_all h2.1).1,sameX_nflex hc1 hr hj h2,by omega⟩
 ·rw[hp] at h1
  simp only[Prod.mk.injEq,Int.natCast_inj,and_true] at h1
  obtain ⟨rfl,rfl⟩:=h1
  exact ⟨.step .refl hc',hc',by simp,by rw[mdAt_last];rfl,last_nflex hc1 hr,by simp⟩
theorem DefL.ok {l l':List Md} {ms ns:List Nat} (h:DefL l ms l' ns):checkI l=0→(∀m∈ms,m<l.length)→DefOk l ms l' ns:=by
 induction h with
 |nil=>exact fun _ _=>⟨.refl,rfl,fun i m n h=>by simp at h⟩
 | @flat l l' m ms ns hf _ ih=>
  intro hc hm
  obtain ⟨e,hl,ha⟩:=ih hc fun x hx=>hm x (List.mem_cons_of_mem _ hx)
  have hml:=hm m List.mem_cons_self
  have:=e.len
  refine ⟨e,by simp[hl],fun i x n h1 h2=>?_⟩
  cases i with
  |zero=>
   simp only[List.getElem?_cons_zero,Option.some.injEq] at h1 h2
   subst h1 h2
   exact ⟨by omega,by rw[e.md hml],fun h=>hf ((e.flex hc hml).1 h),fun _=>rfl⟩
  |succ i=>exact ha i x n (by simpa using h1) (by simpa using h2)
 | @flex l l1 l2 l' m n ms ns es hf _ hp _ ih1 ih2=>
  intro hc hm
  have hg:=(okT_of hc).good
  have hml:=hm m List.mem_cons_self
  obtain ⟨e1,hl1,ha1⟩:=ih1 hc (elems_lt hg hml)
  have hc1:=e1.check hc
  have hr: ∀e∈es,e<l1.length∧ ¬FlexP l1 e:=fun e he=>by
   obtain ⟨k,hk,rfl⟩:=List.mem_iff_getElem.1 he
   have hk':k<((mdAt l m).elems.map Int.toNat).length:=by omega
   have:=ha1 k _ _ (List.getElem?_eq_getElem hk') (List.getElem?_eq_getElem hk)
   exact ⟨this.1,this.2.2.1⟩
  obtain ⟨e12,_,hn2,hk2,hf2,_⟩:=put_defl hc1 hf hr hp
  have e2:=e1.trans e12
  have hc2:=e2.check hc
  have hl2:=e2.len
  obtain ⟨e3,hl3,ha3⟩:=ih2 hc2 fun x hx=>by have:=hm x (List.mem_cons_of_mem _ hx);omega
  have hl3':=e3.len
  refine ⟨e2.trans e3,by simp[hl3],fun i x y h1 h2=>?_⟩
  cases i with
  |zero=>
   simp only[List.getElem?_cons_zero,Option.some.injEq] at h1 h2
   subst h1 h2
   exact ⟨by omega,by rw[e3.md hn2,hk2],fun h=>hf2 ((e3.flex hc2 hn2).1 h),fun h=>absurd hf h⟩
  |succ i=>
   simp only[List.getElem?_cons_succ] at h1 h2
   have hxl:=hm x (List.mem_cons_of_mem _ (List.mem_of_getElem? h1))
   obtain ⟨b1,b2,b3,b4⟩:=ha3 i x y h1 h2
   exact ⟨b1,by rw[b2,e2.md hxl],b3,fun h=>b4 fun h'=>h ((e2.flex hc hxl).1 h')⟩
theorem defl_check {l l1:List Md} {m:Nat} {es:List Nat} (hc:checkI l=0) (hn:l1.length<512) (hm:m<l.length) (hrs:rowStruct (mdAt l m)=true) (e1:Ext l l1) (hl:es.length=(mdAt l m).elems.length) (ha: ∀(k:Nat) (e:Int) (n:Nat),(mdAt l m).elems[k]? =some e→es[k]? =some n→n<l1.length∧(mdAt l1 n).kind=(mdAt l e.toNat).kind):checkI (l1++ [deflX (mdAt l m) es])=0:=by
 have hmem:mdAt l m∈l:=by rw[mdAt_eq hm];exact List.getElem_mem hm
 have h:=checkOk_iff.1 hc
 have hg:=(okT_of hc).good
 have hone:=h.one _ hmem
 obtain ⟨o1,o2,o3,o4⟩:=oneI_zero hone
 have hk:(mdAt l m).kind=10∨(mdAt l m).kind=11:=by
  unfold rowStruct at hrs;simpa only[Bool.or_eq_true,beq_iff_eq] using hrs
 have hes: ∀(k:Nat) (n:Nat),es[k]? =some n→ ∃e,(mdAt l m).elems[k]? =some e∧n<l1.length∧(mdAt l1 n).kind=(mdAt l e.toNat).kind:=fun k n hn=>by
  have hk2:k<(mdAt l m).elems.length:=by
   have:=(List.getElem?_eq_some_iff.1 hn).1;omega
  exact ⟨_,List.getElem?_eq_getElem hk2,ha k _ n (List.getElem?_eq_getElem hk2) hn⟩
 have hin: ∀e∈es,e<l1.length:=fun e he=>by
  obtain ⟨k,hk,rfl⟩:=List.mem_iff_getElem.1 he
  obtain ⟨_,_,h1,_⟩:=hes k _ (List.getElem?_eq_getElem hk)
  exact h1
 refine check_app (e1.check hc) hn ?_ ?_ fun hf=>?_
 ·have hsh:shapeI (deflX (mdAt l m) es)=0:=by
   obtain ⟨s1,s2,s3,s4⟩:=shapeI_zero o1
   obtain ⟨p1,p2,p3,p4,p5,p6⟩:=s3
   unfold shapeI
   rw[if_neg (by simp only[deflX];omega),if_pos,if_neg (by simp only[deflX,List.length_map];omega)]
   have hlen:(deflX (mdAt l m) es).elems.length=(mdAt l m).elems.length:=by simp[deflX,hl]
   refine ⟨?_,?_,?_,p4,p5,fun h=>by cases h⟩
   ·rw[hlen];exact p1
   ·unfold most at p2 ⊢;rw[hlen];exact p2
   ·unfold nNames at p3 ⊢;rw[hlen];exact p3
  unfold oneI
  rw[if_neg (by simp[hsh]),if_neg,if_neg,if_neg (by simp only[deflX];rw[o4];simp)]
  ·simp only[List.any_eq_true,not_exists,not_and]
   intro s hs
   simp[o3 s hs]
  ·simp only[List.any_eq_true,not_exists,not_and]
   intro e he
   have:=deflX_range hin e he
   simp[outB];omega
 ·have hv:=List.any_eq_false.1 h.void _ hmem
  unfold voidsB at hv ⊢
  have q12: ¬(mdAt l m).kind=12:=by omega
  have q13: ¬(mdAt l m).kind=13:=by omega
  rw[if_neg q12,if_neg q13] at hv
  rw[if_neg (by simp only[deflX];exact q12),if_neg (by simp only[deflX];exact q13),List.any_eq_false]
  intro e he hv2
  apply hv
  obtain ⟨z,hz,rfl⟩:=List.mem_map.1 he
  obtain ⟨k,hk,rfl⟩:=List.mem_iff_getElem.1 hz
  obtain ⟨e,h1,h2,h3⟩:=hes k _ (List.getElem?_eq_getElem hk)
  rw[List.any_eq_true]
  refine ⟨e,List.mem_of_getElem? h1,?_⟩
  have hb:=elem_lt hg hm h1
  unfold voidE at hv2 ⊢
  rw[Int.toNat_natCast,List.getElem?_eq_getElem h2] at hv2
  rw[List.getElem?_eq_getElem hb.2]
  rw[mdAt_eq h2,mdAt_eq hb.2] at h3
  simpa only[Option.any_some,h3] using hv2
 ·exfalso
  unfold flexOf at hf
  simp only[deflX,Bool.or_eq_true,beq_iff_eq] at hf
  omega
theorem sameX_ext {l k:List Md} {x:Md} (e:Ext l k) (hc:checkI l=0) (hx: ∀e∈x.elems,0≤e∧e<(l.length:Int)) {i:Nat} (hi:i<l.length):sameX k i x↔sameX l i x:=by
 have hg:=(okT_of hc).good
 unfold sameX
 rw[e.md hi]
 refine and_congr_right fun _=>⟨fun h j a b h1 h2=>?_,fun h j a b h1 h2=>?_⟩
 ·have b1:=elem_lt hg hi h1
  have b2:=hx b (List.mem_of_getElem? h2)
  exact (e.rr hc b1.2 (by omega)).1 (h j a b h1 h2)
 ·have b1:=elem_lt hg hi h1
  have b2:=hx b (List.mem_of_getElem? h2)
  exact (e.rr hc b1.2 (by omega)).2 (h j a b h1 h2)
theorem DefL.stable {l l':List Md} {ms ns:List Nat} (h:DefL l ms l' ns):checkI l=0→(∀m∈ms,m<l.length)→ ∀{k:List Md},Ext l' k→k.length<512→DefL k ms k ns:=by
 induction h with
 |nil=>exact fun _ _ _ _ _=> .nil
 | @flat l l' m ms ns hf h ih=>
  intro hc hm k e hn
  have hms:=fun x hx=>hm x (List.mem_cons_of_mem _ hx)
  have hml:=hm m List.mem_cons_self
  have e1:=(h.ok hc hms).ext.trans e
  exact .flat (fun h=>hf ((e1.flex hc hml).1 h)) (ih hc hms e hn)
 | @flex l l1 l2 l' m n ms ns es hf h1 hp h2 ih1 ih2=>
  intro hc hm k e hn
  have hms:=fun x hx=>hm x (List.mem_cons_of_mem _ hx)
  have hml:=hm m List.mem_cons_self
  have hg:=(okT_of hc).good
  have ok1:=h1.ok hc (elems_lt hg hml)
  have hc1:=ok1.ext.check hc
  have hr: ∀e∈es,e<l1.length∧ ¬FlexP l1 e:=fun e he=>by
   obtain ⟨k,hk,rfl⟩:=List.mem_iff_getElem.1 he
   have hk':k<((mdAt l m).elems.map Int.toNat).length:=by have:=ok1.len;omega
   have:=ok1.at_ k _ _ (List.getElem?_eq_getElem hk') (List.getElem?_eq_getElem hk)
   exact ⟨this.1,this.2.2.1⟩
  obtain ⟨e12,hc12,hn2,hk2,hf2,_⟩:=put_defl hc1 hf hr hp
  have e2:=ok1.ext.trans e12
  have hc2:=e2.check hc
  have hl2:=e2.len
  have hms2: ∀x∈ms,x<l2.length:=fun x hx=>by have:=hms x hx;omega
  have ok2:=h2.ok hc2 hms2
  have e2k:=ok2.ext.trans e
  have e1k:=e12.trans e2k
  have ek:=e2.trans e2k
  have hck:=ek.check hc
  have hu:isU (deflX (mdAt l m) es)=false:=by
   have:=rs_isU hf.rs.2
   unfold isU at this ⊢;exact this
  have hl1k:=e1k.len
  have hl2k:=e2k.len
  have hx1:=deflX_range (l:=l1) (y:=mdAt l m) (es:=es) fun e he=>(hr e he).1
  have hxk:=deflX_range (l:=k) (y:=mdAt l m) (es:=es) fun e he=>by have:=(hr e he).1;omega
  have hcx:checkI (k++ [deflX (mdAt l m) es])=0:=by
   have hlen:=ok1.len
   rw[List.length_map] at hlen
   refine defl_check hc hn hml hf.rs.2 ek hlen fun i e n h3 h4=>?_
   have:=ok1.at_ i e.toNat n (by rw[List.getElem?_map,h3];rfl) h4
   exact ⟨by omega,by rw[e1k.md this.1];exact this.2.1⟩
  have hput:putI k (deflX (mdAt k m) es)=(k,(n:Int),0):=by
   rw[ek.md hml]
   have hsn:sameX l2 n (deflX (mdAt l m) es)∧ ∀i,i<n→ ¬sameX l2 i (deflX (mdAt l m) es):=by
    rcases putI_row hc1 hc12 hx1 hu with ⟨j,hj,g1,g2,g3⟩|⟨g1,g2⟩
    ·rw[hp] at g1
     simp only[Prod.mk.injEq,Int.natCast_inj,and_true] at g1
     obtain ⟨rfl,rfl⟩:=g1
     exact ⟨g2,g3⟩
    ·rw[hp] at g1
     simp only[Prod.mk.injEq,Int.natCast_inj,and_true] at g1
     obtain ⟨rfl,rfl⟩:=g1
     refine ⟨⟨by rw[mdAt_last];exact firstC_ord.self trivial,fun i a b h3 h4=>?_⟩,fun i hi h3=>g2 i hi ((sameX_ext e12 hc1 hx1 hi).1 h3)⟩
     rw[mdAt_last] at h3
     rw[h3] at h4
     simp only[Option.some.injEq] at h4
     rw[h4]
   have hx2:=deflX_range (l:=l2) (y:=mdAt l m) (es:=es) fun e he=>by have:=(hr e he).1;have:=e12.len;omega
   have hsk:=(sameX_ext e2k hc2 hx2 hn2).2 hsn.1
   rcases putI_row hck hcx hxk hu with ⟨j,hj,g1,g2,g3⟩|⟨g1,g2⟩
   ·have hjn:j=n:=by
     rcases Nat.lt_trichotomy j n with h|h|h
     ·exact absurd ((sameX_ext e2k hc2 hx2 (by omega)).1 g2) (hsn.2 j h)
     ·exact h
     ·exact absurd hsk (g3 n h)
    rw[g1,hjn]
   ·exact absurd hsk (g2 n (by omega))
  refine .flex ((ek.flex hc hml).2 hf) ?_ hput (ih2 hc2 hms2 e hn)
  rw[ek.md hml]
  exact ih1 hc (elems_lt hg hml) e1k hn
end Go.Proofs.YtlniliigcnedmaaGreatDoor
namespace Go.Proofs.YtlniliigcnedmaaGreatDoor
open Go Ax
open Relation
set_option maxRecDepth 100000
theorem DefL.es {l l1:List Md} {m:Nat} {es:List Nat} (hc:checkI l=0) (hm:m<l.length) (h1:DefL l ((mdAt l m).elems.map Int.toNat) l1 es):es.length=(mdAt l m).elems.length∧ ∀e∈es,e<l1.length∧ ¬FlexP l1 e:=by
 have ok1:=h1.ok hc (elems_lt (okT_of hc).good hm)
 have hl:=ok1.len
 rw[List.length_map] at hl
 refine ⟨hl,fun e he=>?_⟩
 obtain ⟨k,hk,rfl⟩:=List.mem_iff_getElem.1 he
 have hk':k<((mdAt l m).elems.map Int.toNat).length:=by simp;omega
 have:=ok1.at_ k _ _ (List.getElem?_eq_getElem hk') (List.getElem?_eq_getElem hk)
 exact ⟨this.1,this.2.2.1⟩
theorem put_cases {l1 l2:List Md} {x:Md} {n:Int} (hc1:checkI l1=0) (h:putI l1 x=(l2,n,0)):l2=l1∨l2=l1++ [x]:=by
 unfold putI at h
 rw[if_neg (by simp[hc1])] at h
 split at h
 ·simp only[Prod.mk.injEq] at h;exact .inl h.1.symm
 ·split at h
  ·rename_i hc;simp only[Prod.mk.injEq] at h;exact absurd h.2.2 hc
  ·simp only[Prod.mk.injEq] at h;exact .inr h.1.symm
def Few (l:List Md):Prop:= ∀(x:Nat) (O:List Nat),O.Nodup→(∀j∈O,IsPart l x j)→O.length≤12
theorem Few.more {l:List Md} {x:Md} (h:Few l) (hg:goodT l) (hu:isU x=false):Few (l++ [x]):=fun a O hO hj=>by
 cases O with
 |nil=>simp
 |cons o O=>
  have ha:=part_in (hj o List.mem_cons_self)
  rw[List.length_append,List.length_singleton] at ha
  by_cases hal:a<l.length
  ·exact h a (o::O) hO fun j hj'=>(part_old hg hal).1 (hj j hj')
  ·obtain rfl:a=l.length:=by omega
   have:=part_head (by simp) (hj o List.mem_cons_self)
   rw[mdAt_last,hu] at this
   cases this
theorem DefL.few {l l':List Md} {ms ns:List Nat} (h:DefL l ms l' ns):checkI l=0→(∀m∈ms,m<l.length)→Few l→Few l':=by
 induction h with
 |nil=>exact fun _ _ h=>h
 |flat _ _ ih=>exact fun hc hm=>ih hc fun x hx=>hm x (List.mem_cons_of_mem _ hx)
 | @flex l l1 l2 l' m n ms ns es hf h1 hp h2 ih1 ih2=>
  intro hc hm hfw
  have hml:=hm m List.mem_cons_self
  have hel:=elems_lt (okT_of hc).good hml
  have ok1:=h1.ok hc hel
  have hc1:=ok1.ext.check hc
  obtain ⟨hl,hr⟩:=h1.es hc hml
  obtain ⟨e12,_⟩:=put_defl hc1 hf hr hp
  have hl2:=(ok1.ext.trans e12).len
  refine ih2 (e12.check hc1) (fun x hx=>by have:=hm x (List.mem_cons_of_mem _ hx);omega) ?_
  have hfw1:=ih1 hc hel hfw
  rcases put_cases hc1 hp with rfl|rfl
  ·exact hfw1
  ·refine hfw1.more (okT_of hc1).good ?_
   have:=rs_isU hf.rs.2
   unfold isU at this ⊢;exact this
def Stb (l:List Md) (j:Nat):Prop:= ∃n,DefL l [j] l [n]
open Classical in
noncomputable def pot (l:List Md):Nat:=l.length+(List.range l.length).countP fun j=>decide (FlexP l j∧ ¬Stb l j)
theorem DefL.inv {l l':List Md} {m:Nat} {ns:List Nat} (hf:FlexP l m) (h:DefL l [m] l' ns): ∃(l1:List Md) (es:List Nat) (n:Nat),DefL l ((mdAt l m).elems.map Int.toNat) l1 es∧putI l1 (deflX (mdAt l m) es)=(l',(n:Int),0)∧ns= [n]:=by
 cases h with
 |flat h1 _=>exact absurd hf h1
 |flex _ h1 h2 h3=>cases h3;exact ⟨_,_,_,h1,h2,rfl⟩
open Classical in
theorem DefL.pot {l l':List Md} {ms ns:List Nat} (h:DefL l ms l' ns):checkI l=0→(∀m∈ms,m<l.length)→pot l<512→Go.Proofs.YtlniliigcnedmaaGreatDoor.pot l'≤Go.Proofs.YtlniliigcnedmaaGreatDoor.pot l:=by
 induction h with
 |nil=>exact fun _ _ _=>Nat.le_refl _
 |flat _ _ ih=>exact fun hc hm=>ih hc fun x hx=>hm x (List.mem_cons_of_mem _ hx)
 | @flex l l1 l2 l' m n ms ns es hf h1 hp h2 ih1 ih2=>
  intro hc hm hpl
  have hml:=hm m List.mem_cons_self
  have hel:=elems_lt (okT_of hc).good hml
  have ok1:=h1.ok hc hel
  have hc1:=ok1.ext.check hc
  have hg1:=(okT_of hc1).good
  obtain ⟨hl,hr⟩:=h1.es hc hml
  obtain ⟨e12,hcx,hn2,_,_,hl12⟩:=put_defl hc1 hf hr hp
  have e2:=ok1.ext.trans e12
  have hl1:=ok1.ext.len
  have hl2:=e2.len
  have hp1:=ih1 hc hel hpl
  have hle: ∀k:List Md,k.length≤Go.Proofs.YtlniliigcnedmaaGreatDoor.pot k:=fun k=>by unfold Go.Proofs.YtlniliigcnedmaaGreatDoor.pot;omega
  have hp2:Go.Proofs.YtlniliigcnedmaaGreatDoor.pot l2≤Go.Proofs.YtlniliigcnedmaaGreatDoor.pot l1:=by
   rcases put_cases hc1 hp with rfl|he
   ·exact Nat.le_refl _
   ·have hfl1:FlexP l1 m:=(ok1.ext.flex hc hml).2 hf
    have hll:l2.length=l1.length+1:=by rw[he];simp
    have hnf: ¬FlexP l2 l1.length:=by rw[he];exact last_nflex hc1 hr
    have hno: ¬Stb l1 m:=by
     rintro ⟨n',hd⟩
     obtain ⟨k1,es',n2,d1,d2,_⟩:=hd.inv hfl1
     have hl1':=hle l1
     have hs:=h1.stable hc hel .refl (by omega)
     rw[←ok1.ext.md hml] at hs
     obtain ⟨rfl,rfl⟩:=hs.det d1
     rw[ok1.ext.md hml,hp,he] at d2
     simp only[Prod.mk.injEq] at d2
     have:=congrArg List.length d2.1
     simp at this
    have hpos:0<(List.range l1.length).countP fun j=>decide (FlexP l1 j∧ ¬Stb l1 j):=List.countP_pos_iff.2 ⟨m,List.mem_range.2 (by omega),by simp[hfl1,hno]⟩
    have hpe:Go.Proofs.YtlniliigcnedmaaGreatDoor.pot l1=l1.length+(List.range l1.length).countP fun j=>decide (FlexP l1 j∧ ¬Stb l1 j):=rfl
    have h512:l2.length<512:=by omega
    have hyes:Stb l2 m:=⟨n,(DefL.flex hf h1 hp .nil).stable hc (by simpa using hml) .refl h512⟩
    have hcnt:((List.range l2.length).countP fun j=>decide (FlexP l2 j∧ ¬Stb l2 j))<(List.range l1.length).countP fun j=>decide (FlexP l1 j∧ ¬Stb l1 j):=by
     rw[hll,List.range_succ,List.countP_append]
     have h0:([l1.length]:List Nat).countP (fun j=>decide (FlexP l2 j∧ ¬Stb l2 j))=0:=by simp[hnf]
     rw[h0,Nat.add_zero]
     refine countP_lt (x:=m) (fun j hj hd=>?_) (List.mem_range.2 (by omega)) (by simp[hyes]) (by simp[hfl1,hno])
     have hj:=List.mem_range.1 hj
     simp only[decide_eq_true_eq] at hd ⊢
     have hfj:=(e12.flex hc1 hj).1 hd.1
     refine ⟨hfj,fun hs=>hd.2 ?_⟩
     obtain ⟨n',hd'⟩:=hs
     exact ⟨n',hd'.stable hc1 (by simpa using hj) e12 h512⟩
    unfold Go.Proofs.YtlniliigcnedmaaGreatDoor.pot
    omega
  have hp':=ih2 (e12.check hc1) (fun x hx=>by have:=hm x (List.mem_cons_of_mem _ hx);omega) (by omega)
  omega
structure Room (l:List Md):Prop where
 ck:checkI l=0
 pot:pot l≤19
 few:Few l
 sm: ∀y∈l,smallN y
 h40: ∀y∈l,y.elems.length<2^40∧y.names.length<2^40
theorem Room.len {l:List Md} (h:Room l):l.length≤19:=by
 have:=h.pot
 unfold Go.Proofs.YtlniliigcnedmaaGreatDoor.pot at this
 omega
end Go.Proofs.YtlniliigcnedmaaGreatDoor
namespace Go.Proofs.YtlniliigcnedmaaGreatDoor
open Go Ax
open Relation
set_option maxRecDepth 100000
open Classical in
noncomputable def deflI (l:List Md) (m:Nat):List Md×Nat:=if h: ∃p:List Md×Nat,DefL l [m] p.1 [p.2] then h.choose else (l,m)
theorem DefL.eq {l l':List Md} {m n:Nat} (h:DefL l [m] l' [n]):deflI l m=(l',n):=by
 have hex: ∃p:List Md×Nat,DefL l [m] p.1 [p.2]:=⟨(l',n),h⟩
 unfold deflI
 rw[dif_pos hex]
 have:=hex.choose_spec.det h
 refine Prod.ext this.1 ?_
 simpa using this.2
noncomputable def leastN (l:List Md) (p:Nat):Nat:=(leastI l p).toNat
def headE (l:List Md) (m:Nat):Nat:=((mdAt l m).elems.getD 0 0).toNat
def lead (l:List Md) (m:Nat):Prop:=(mdAt l m).kind=9∨((mdAt l m).kind=13∧(mdAt l m).elems.length=1)
instance (l:List Md) (m:Nat):Decidable (lead l m):=by unfold lead;infer_instance
inductive Lead (l:List Md):Nat→Nat→Prop
 |stop {a:Nat}: ¬lead l a→Lead l a 0
 |go {a t:Nat}:lead l a→Lead l (headE l a) t→Lead l a (t+1)
theorem lead_elem {l:List Md} (hc:checkI l=0) {a:Nat} (ha:a<l.length) (h:lead l a):(mdAt l a).elems[0]? =some (headE l a:Int)∧headE l a<l.length:=by
 have hmem:mdAt l a∈l:=by rw[mdAt_eq ha];exact List.getElem_mem ha
 have hone:=(oneI_zero ((checkOk_iff.1 hc).one _ hmem)).1
 obtain ⟨_,_,hs,_⟩:=shapeI_zero hone
 have h1:1≤(mdAt l a).elems.length:=by
  rcases h with h|h
  ·have:=hs.1
   unfold least at this
   rw[if_pos (by omega)] at this
   omega
  ·omega
 have h0:=List.getElem?_eq_getElem (l:=(mdAt l a).elems) h1
 have he:=elem_lt (okT_of hc).good ha h0
 have hh:headE l a=((mdAt l a).elems[0]).toNat:=by unfold headE;rw[List.getD_eq_getElem?_getD,h0];rfl
 refine ⟨?_,by rw[hh];exact he.2⟩
 rw[h0,hh,Int.toNat_of_nonneg he.1]
theorem Lead.ext {l k:List Md} (e:Ext l k) (hc:checkI l=0) {a t:Nat} (h:Lead l a t):a<l.length→Lead k a t:=by
 have hm: ∀{a:Nat},a<l.length→(lead k a↔lead l a):=fun ha=>by unfold lead;rw[e.md ha]
 induction h with
 |stop h=>exact fun ha=> .stop fun h'=>h ((hm ha).1 h')
 | @go a t h _ ih=>
  intro ha
  have hh:headE k a=headE l a:=by unfold headE;rw[e.md ha]
  exact .go ((hm ha).2 h) (by rw[hh];exact ih (lead_elem hc ha h).2)
theorem lead_congr {l:List Md} (hc:checkI l=0) {a b:Nat} (ha:a<l.length) (hb:b<l.length) (he:RR l a=RR l b) (h:lead l a):lead l b:=by
 have hk:=RR_kind ha hb he
 rcases h with h|⟨h,h1⟩
 ·exact .inl (by rw[←hk];exact h)
 ·refine .inr ⟨by rw[←hk];exact h,?_⟩
  rw[←(RR_elem (okT_of hc).good ha hb he (by simp[isU,h])).1]
  exact h1
theorem head_congr {l:List Md} (hc:checkI l=0) {a b:Nat} (ha:a<l.length) (hb:b<l.length) (he:RR l a=RR l b) (h:lead l a):RR l (headE l a)=RR l (headE l b):=by
 have hu:isU (mdAt l a)=false:=by
  rcases h with h|h<;>simp[isU,h]
 have:=(RR_elem (okT_of hc).good ha hb he hu).2 0 _ _ (lead_elem hc ha h).1 (lead_elem hc hb (lead_congr hc ha hb he h)).1
 simpa using this
theorem Lead.congr {l:List Md} (hc:checkI l=0) {a t:Nat} (h:Lead l a t): ∀{b:Nat},a<l.length→b<l.length→RR l a=RR l b→Lead l b t:=by
 induction h with
 |stop h=>exact fun ha hb he=> .stop fun h'=>h (lead_congr hc hb ha he.symm h')
 | @go a t h _ ih=>
  intro b ha hb he
  have h':=lead_congr hc ha hb he h
  exact .go h' (ih (lead_elem hc ha h).2 (lead_elem hc hb h').2 (head_congr hc ha hb he h))
noncomputable def downI (l:List Md) (m:Nat):Option (List Md×Nat):=
 if (mdAt l m).kind=9 then some ((deflI l (headE l m)).1,leastN (deflI l (headE l m)).1 (deflI l (headE l m)).2)
 else if (mdAt l m).kind=13∧(mdAt l m).elems.length=1∧(mdAt l (headE l m)).kind≠0 then some (l,leastN l (headE l m)) else none
open Classical in
noncomputable def firmI:Nat→List Md→Nat→Nat→Option (Nat×Bool)
 |0,_,_,_=>none
 |F+1,l,m,to_=>
  if RR l m=RR l to_∨uniB l m to_=true then some (0,!decide (RR l m=RR l to_))
  else match downI l m with
   |none=>none
   |some (l',n)=>(firmI F l' n to_).map fun p=>(p.1+1,p.2)
end Go.Proofs.YtlniliigcnedmaaGreatDoor
namespace Go.Proofs.YtlniliigcnedmaaGreatDoor
open Go Ax
set_option maxRecDepth 100000
theorem Room.nm {l:List Md} (h:Room l): ∀x∈l,x.names.length<2^40:=fun x hx=>(h.h40 x hx).2
end Go.Proofs.YtlniliigcnedmaaGreatDoor
namespace Go.Proofs.YtlniliigcnedmaaGreatDoor
open Go Ax
open Relation
set_option maxRecDepth 100000
theorem TabS.atC {S:Nat→Prop} {m:AMem} {s:AVal} {l:List Md} (h:TabS S m s l) {i:Nat} (hi:i<l.length): ∃b o c,(∀k,iaddrE 6 s (.int k i)=some (.ptr b o))∧loadE m 6 true (.ptr b o)=some (.agg c)∧ ∀m',Ch S m m'→RMode m' c l[i]:=by
 obtain ⟨cs,h⟩:=h
 obtain ⟨h1,_⟩:=h m (.refl _ _)
 obtain ⟨b,o,g1,_,g3⟩:=h1.at hi
 exact ⟨b,o,_,g1,g3,fun m' hc=>(h m' hc).2 i _ (List.getElem?_eq_getElem hi)⟩
def DMap (l0 l:List Md) (es:List (Int×AVal)):Prop:= ∀k v,findE es k=some v→ ∃j n:Nat,k=j∧v= .int .i64 n∧j<l0.length∧DefL l [j] l [n]
theorem DMap.ext {l0 l l':List Md} {es:List (Int×AVal)} (h:DMap l0 l es) (e0:Ext l0 l) (hc:checkI l=0) (e:Ext l l') (hn:l'.length<512):DMap l0 l' es:=fun k v hk=>by
 obtain ⟨j,n,a,b,c,d⟩:=h k v hk
 have:=e0.len
 exact ⟨j,n,a,b,c,d.stable hc (by simp;omega) e hn⟩
end Go.Proofs.YtlniliigcnedmaaGreatDoor
namespace Go.Proofs.YtlniliigcnedmaaGreatDoor
open Go Ax
open Relation
set_option maxRecDepth 100000
theorem chunk_set {cs:List AVal} {v:AVal} {i j q:Nat} (hj:j<6):chunk (cs.set (i*6+j) v) q=if q=i then (chunk cs i).set j v else chunk cs q:=by
 unfold chunk
 rw[List.drop_set]
 split
 ·rename_i h
  rw[if_neg (by omega)]
 ·rename_i h
  rw[List.take_set]
  by_cases hq:q=i
  ·subst hq
   rw[if_pos rfl,show q*6+j-q*6=j by omega]
  ·rw[if_neg hq]
   apply List.set_eq_of_length_le
   simp
   omega
def OwC (lo:Nat) (m:AMem) (s:AVal) (l:List Md):Prop:= ∃cs,Ow lo m 6 39 s l.length cs∧ ∀(i:Nat) x,l[i]? =some x→ ∀m',Ch (fun b=>s.blk=some b) m m'→RMode m' (chunk cs i) x
theorem OwC.tab {lo:Nat} {m:AMem} {s:AVal} {l:List Md} (h:OwC lo m s l):RTab m s l:=by
 obtain ⟨cs,h1,h2⟩:=h
 exact ⟨cs,h1.sl,fun i x hx=>h2 i x hx m (.refl _ _)⟩
theorem OwC.at {lo:Nat} {m:AMem} {s:AVal} {l:List Md} (h:OwC lo m s l) {i:Nat} (hi:i<l.length): ∃b o e nm,s.blk=some b∧(∀k,iaddrE 6 s (.int k i)=some (.ptr b o))∧loadE m 1 false (.ptr b (o+2))=some e∧loadE m 1 false (.ptr b (o+3))=some nm∧RInts m e l[i].elems∧RStrs m nm l[i].names∧
  ∀(t tn:AVal) (m2:AMem),m<+:m2→OwL (AVal.int .i64) m.length m2 3 t l[i].elems→OwL AVal.str m.length m2 9 tn l[i].names→ ∃m3,storeE m2 1 (.ptr b (o+2)) t=some (.undef,m3)∧ ∀m4,m3<+:m4→ ∃m5,storeE m4 1 (.ptr b (o+3)) tn=some (.undef,m5)∧Ch (fun c=>s.blk=some c) m m5∧OwC lo m5 s l:=by
 obtain ⟨cs,h1,h2⟩:=h
 obtain ⟨b,o,hb,hp,_⟩:=h1.store hi
 obtain ⟨b',o',hp',hl',_⟩:=h1.sl.at hi
 have:=hp .i64
 rw[hp' .i64] at this
 simp only[Option.some.injEq,AVal.ptr.injEq] at this
 obtain ⟨rfl,rfl⟩:=this
 have hcl:=h1.sl.length
 have hM:=h2 i _ (List.getElem?_eq_getElem hi) m (.refl _ _)
 obtain ⟨e,nm,c0,c1,c2,c3,c4,c5,he,hnm,hcc⟩:=hM.get
 have hget: ∀j,j<6→(chunk cs i)[j]? =cs[i*6+j]? :=fun j hj=>by
  unfold chunk
  rw[List.getElem?_take,if_pos hj,List.getElem?_drop]
 have hbl:=(h1.blk_lo hb).2
 refine ⟨b',o',e,nm,hb,hp,by rw[hl' 2 (by omega),←hget 2 (by omega)];exact c2,by rw[hl' 3 (by omega),←hget 3 (by omega)];exact c3,he,hnm,fun t tn m2 hm2 ht htn=>?_⟩
 have ts:=(Ow.sl ht).self
 have tns:=(Ow.sl htn).self
 have hb2: ∀{m2:AMem} {cs2:List AVal},Ow lo m2 6 39 s l.length cs2→ ∀(j:Nat) (v:AVal),j<6→v.cells= [v]→v.one=true→ ∃m',storeE m2 1 (.ptr b' (o'+j)) v=some (.undef,m')∧Ch (fun c=>c=b') m2 m'∧Ow lo m' 6 39 s l.length (cs2.set (i*6+j) v):=fun {m2 cs2} h j v hj h3 h4=>by
  obtain ⟨b2,o2,hbb,hpp,hst⟩:=h.store hi
  have:=hp .i64
  rw[hpp .i64] at this
  simp only[Option.some.injEq,AVal.ptr.injEq] at this
  obtain ⟨rfl,rfl⟩:=this
  obtain ⟨m',g1,g2,g3⟩:=hst j v (by rw[h3];simp;omega) (by rw[h3];simp[h4])
  rw[h3] at g1 g3
  exact ⟨m',g1,g2,g3⟩
 obtain ⟨m3,g1,g2,g3⟩:=hb2 (h1.mono hm2) 2 t (by omega) ts.2 ts.1
 refine ⟨m3,g1,fun m4 hm4=>?_⟩
 obtain ⟨m5,g4,g5,g6⟩:=hb2 (g3.mono hm4) 3 tn (by omega) tns.2 tns.1
 have hch2:Ch (fun c=>s.blk=some c) m2 m5:=((g2.weaken fun c _ h=>by rw[h];exact hb).trans (.of_prefix hm4)).trans (g5.weaken fun c _ h=>by rw[h];exact hb)
 have hch:Ch (fun c=>s.blk=some c) m m5:=(Ch.of_prefix hm2).trans hch2
 refine ⟨m5,g4,hch,_,g6,fun q x hx m' hc=>?_⟩
 rw[chunk_set (by omega)]
 by_cases hq:q=i
 ·subst hq
  rw[if_pos rfl,chunk_set (by omega),if_pos rfl,hcc]
  rw[List.getElem?_eq_getElem hi] at hx
  simp only[Option.some.injEq] at hx
  subst hx
  have hc2:=hch2.trans hc
  refine ⟨t,tn,rfl,OwL.ints (ht.ch hc2 fun c h1 h2=>?_),Ow.sl (htn.ch hc2 fun c h1 h2=>?_)⟩
  ·have:=(ht.blk_lo h1).1
   rw[hb] at h2
   cases h2
   omega
  ·have:=(htn.blk_lo h1).1
   rw[hb] at h2
   cases h2
   omega
 ·rw[if_neg hq,chunk_set (by omega),if_neg hq]
  exact h2 q x hx m' (hch.trans hc)
theorem OwC.mono {lo:Nat} {m m':AMem} {s:AVal} {l:List Md} (h:OwC lo m s l) (hm:m<+:m'):OwC lo m' s l:=by
 obtain ⟨cs,h1,h2⟩:=h
 exact ⟨cs,h1.mono hm,fun i x hx m'' hc=>h2 i x hx m'' ((Ch.of_prefix hm).trans hc)⟩
end Go.Proofs.YtlniliigcnedmaaGreatDoor
namespace Go.Proofs.YtlniliigcnedmaaGreatDoor
open Go Ax
open Relation
set_option maxRecDepth 100000
theorem firstC_of {x y:Md} (h1:x.kind=y.kind) (h2:x.size=y.size) (h3:x.dims=y.dims) (h4:x.flex=y.flex) (h5:x.kind≠12→x.elems.length=y.elems.length) (h6:lexC cmpS x.names y.names=0):firstC x y=0:=by
 have hz: ∀z:Int,cmpI z z=0:=fun z=>cmpI_zero.2 rfl
 have hl:lenC x y=0:=by
  unfold lenC
  split
  ·rfl
  ·rename_i h;rw[h5 h];exact hz _
 simp[firstC,firstL,firstNZ_cons,h1,h2,h3,h4,h6,hl,hz,firstNZ]
inductive Dq (l:List Md):Nat→Nat→Prop
 |flat {e t:Nat}: ¬FlexP l e→RR l e=RR l t→Dq l e t
 |flex {e t:Nat}:FlexP l e→firstC (mdAt l t) (deflX (mdAt l e) ((mdAt l e).elems.map Int.toNat))=0→(∀(k:Nat) (a b:Int),(mdAt l e).elems[k]? =some a→(mdAt l t).elems[k]? =some b→Dq l a.toNat b.toNat)→Dq l e t
theorem Dq.congr {l:List Md} (hc:checkI l=0) {e t:Nat} (h:Dq l e t): ∀{e':Nat},e<l.length→e'<l.length→t<l.length→RR l e=RR l e'→Dq l e' t:=by
 have hg:=(okT_of hc).good
 induction h with
 |flat h1 h2=>exact fun he he' _ hr=> .flat (fun h=>h1 (h.congr hg he' he hr.symm)) (by rw[←hr];exact h2)
 | @flex e t h1 h2 _ ih=>
  intro e' he he' ht hr
  have hu:=rs_isU h1.rs.2
  obtain ⟨hl,hel⟩:=RR_elem hg he he' hr hu
  obtain ⟨a1,a2,a3,a4,a5,a6⟩:=firstC_all (RR_first he he' hr)
  have hdd:firstC (deflX (mdAt l e) ((mdAt l e).elems.map Int.toNat)) (deflX (mdAt l e') ((mdAt l e').elems.map Int.toNat))=0:=firstC_of a1 a2 a3 rfl (fun _=>by simp[deflX,hl]) a6
  refine .flex (h1.congr hg he he' hr) (firstC_ord.zero_trans trivial trivial trivial h2 hdd) fun k a b g1 g2=>?_
  have hk:k<(mdAt l e).elems.length:=by have:=(List.getElem?_eq_some_iff.1 g1).1;omega
  have h3:=List.getElem?_eq_getElem hk
  exact ih k _ b h3 g2 (elem_lt hg he h3).2 (elem_lt hg he' g1).2 (elem_lt hg ht g2).2 (hel k _ a h3 g1)
end Go.Proofs.YtlniliigcnedmaaGreatDoor
namespace Go.Proofs.YtlniliigcnedmaaGreatDoor
open Go Ax
open Relation
set_option maxRecDepth 100000
def FirmAt (l0:List Md) (a b k:Nat) (lk:List Md) (mk:Nat):Prop:=firmI 100 l0 a b=(firmI (100-k) lk mk b).map fun p=>(p.1+k,p.2)
theorem FirmAt.none {l0 lk:List Md} {a b k mk:Nat} (h:FirmAt l0 a b k lk mk) (hk:k<100) (hm: ¬(RR lk mk=RR lk b∨uniB lk mk b=true)) (hd:downI lk mk=none):firmI 100 l0 a b=Option.none:=by
 unfold FirmAt at h
 obtain ⟨F,hF⟩: ∃F,100-k=F+1:=⟨99-k,by omega⟩
 rw[h,hF,firmI,if_neg hm,hd]
 rfl
end Go.Proofs.YtlniliigcnedmaaGreatDoor
namespace Go.Proofs.YtlniliigcnedmaaGreatDoor
open Go Ax
open Relation
set_option maxRecDepth 100000
def DArr (l:List Md) (ds:List Int):Prop:= ∀(j:Nat) v,ds[j]? =some v→v=0∨ ∃n:Nat,v=(n:Int)+1∧DefL l [j] l [n]
theorem DArr.ext {l0 l l':List Md} {ds:List Int} (h:DArr l ds) (hl:ds.length=l0.length) (e0:Ext l0 l) (hc:checkI l=0) (e:Ext l l') (hn:l'.length<512):DArr l' ds:=fun j v hj=>by
 have hjl:=(List.getElem?_eq_some_iff.1 hj).1
 have:=e0.len
 rcases h j v hj with h|⟨n,h1,h2⟩
 ·exact .inl h
 ·exact .inr ⟨n,h1,h2.stable hc (by simp;omega) e hn⟩
theorem DArr.set {l:List Md} {ds:List Int} {i n:Nat} (h:DArr l ds) (hd:DefL l [i] l [n]):DArr l (ds.set i ((n:Int)+1)):=fun j v hj=>by
 by_cases hji:i=j
 ·subst hji
  have hlt:i<ds.length:=by simpa using (List.getElem?_eq_some_iff.1 hj).1
  rw[List.getElem?_set_self hlt] at hj
  exact .inr ⟨n,(Option.some.inj hj).symm,hd⟩
 ·rw[List.getElem?_set_ne hji] at hj
  exact h j v hj
theorem Ow.ty {lo:Nat} {m:AMem} {esz:Nat} {ty:TypeId} {s:AVal} {n:Nat} {cs:List AVal} (h:Ow lo m esz ty s n cs) {b:Nat} (hb:s.blk=some b): ∃bl g,m[b]? =some (.own bl ty g):=by
 rcases h with ⟨rfl,_,_⟩|⟨b',o,cap,gr,bl,gr',rfl,_,h1,_⟩
 ·simp[AVal.blk] at hb
 ·simp[AVal.blk] at hb
  subst hb
  exact ⟨_,_,h1⟩
end Go.Proofs.YtlniliigcnedmaaGreatDoor
namespace Go.Proofs.YtlniliigcnedmaaGreatDoor
open Go Ax
open Relation
set_option maxRecDepth 100000
set_option maxHeartbeats 8000000 in
theorem k18c (s:AVal) (l:List Md) (a b:Nat) (m:AMem) (hs:RTab m s l) (hc:checkI l=0) (hrl:l.length≤60) (hrs: ∀y∈l,smallN y) (ha:a<l.length) (hb:b<l.length):
  ACalls Tryz.prog 18 [s,.int .i64 a,.int .i64 b] m fun v m'=>v= .tuple [.bool (decide (RR l a=RR l b)),.int .i64 0]∧m<+:m':=by
 refine w18 ?_
 have ok:=okT_of hc
 simp[fillA,setN]
 have hA:=two_ints m a b
 have hm1:m<+:m++ [.own [.int .i64 (a:Int),.int .i64 (b:Int)] 3 none]:=List.prefix_append _ _
 generalize AVal.slice m.length 0 2 2 none=t1 at*
 generalize m++ [.own [.int .i64 (a:Int),.int .i64 (b:Int)] 3 none]=m1 at*
 refine C_of (k47 s t1 l [(a:Int),(b:Int)] m1 (hs.mono hm1) hA.ints hrs (by omega) (by simp)) ?_
 rintro _ m2 ⟨rfl,hm2⟩
 rw[rightI_two hc ha hb]
 have hm02:=hm1.trans hm2
 obtain ⟨b1,o1,c1,p1,q1,_,r1,h1⟩:=(hs.mono hm02).atC ha
 obtain ⟨b2,o2,c2,p2,q2,_,r2,h2⟩:=(hs.mono hm02).atC hb
 obtain ⟨e1,nm1,_,_,hg1,_,_,_,he1,_,_⟩:=h1.get
 obtain ⟨e2,nm2,_,_,hg2,_,_,_,he2,_,_⟩:=h2.get
 have r1:=r1 2 (by omega)
 have r2:=r2 2 (by omega)
 rw[hg1] at r1
 rw[hg2] at r2
 have hma:=mdAt_eq ha
 have hmb:=mdAt_eq hb
 have hxa:l[a]∈l:=List.getElem_mem ha
 have hxb:l[b]∈l:=List.getElem_mem hb
 have hflat: ∀m',m2<+:m'→ACalls Tryz.prog 50 [.agg c1,.agg c2] m' fun v m''=>v= .int .i64 (firstC l[a] l[b])∧m'<+:m'':=fun m' hm'=>
  k50 c1 c2 l[a] l[b] m' (h1.mono hm') (h2.mono hm') (hrs _ hxa) (hrs _ hxb) (ok.names _ hxa _ hxb)
 have ld6: ∀{m'},m2<+:m'→loadE m' 6 true (.ptr b1 o1)=some (.agg c1)∧loadE m' 6 true (.ptr b2 o2)=some (.agg c2)∧loadE m' 1 false (.ptr b1 (o1+2))=some e1∧loadE m' 1 false (.ptr b2 (o2+2))=some e2:=fun h=>⟨loadE_mono h q1,loadE_mono h q2,loadE_mono h r1,loadE_mono h r2⟩
 by_cases hab:a=b
 ·subst hab
  simp
  refine W_draw (fun _ _ _=>True) (by simp[maxDst]) ?_
  refine D_pc 0 12 [12,13,14,15,16,17,18,19,20,21,22,23,24,25,26,27] ?_
  simp
  intro _ _
  refine D_Xg rfl rfl (b:=true) (by simp) (fun h=>by cases h) (fun _ m3 hm3 _=>⟨by simp[lateOf],?_⟩)
  refine D_pc 13 13 [26,27] ?_
  simp
  intro _ _
  refine D_Xg rfl rfl (b:=true) (by simp) (fun h=>by cases h) (fun _ m4 hm4 _=>⟨by simp[lateOf],?_⟩)
  refine D_pc 27 1 [] ?_
  simp
  intro _ _
  refine D_end fun m5 hm5 _=>?_
  simp
  refine W_draw (fun _ _ _=>True) (by simp[maxDst]) ?_
  refine D_pc 0 12 [12,13,14,15,16] ?_
  simp
  intro _ _
  refine D_Xg rfl rfl (b:=true) (by simp) (fun h=>by cases h) (fun _ m6 hm6 _=>⟨by simp[lateOf],?_⟩)
  refine D_pc 13 4 [] ?_
  simp
  intro _ _
  refine D_end fun m7 hm7 _=>?_
  simp
  exact ((((hm02.trans hm3).trans hm4).trans hm5).trans hm6).trans hm7
 have hab': ¬(a:Int)=b:=by omega
 simp
 refine W_draw (fun _ _ _=>True) (by simp[maxDst]) ?_
 refine D_pc 0 12 [12,13,14,15,16,17,18,19,20,21,22,23,24,25,26,27] ?_
 simp[beqF hab',p1,p2,q1,q2]
 intro _ _
 refine D_Xg rfl rfl (b:=false) (by simp) (fun _ m3 hm3 _=>?_) (fun h=>absurd rfl h)
 simp
 refine C_of (hflat m3 hm3) ?_
 rintro _ m4 ⟨rfl,hm4⟩
 have hm24:=hm3.trans hm4
 refine ⟨by simp[lateOf],?_⟩
 refine D_pc 13 13 [26,27] ?_
 have L4:=ld6 hm24
 by_cases hf:firstC l[a] l[b]=0
 rotate_left
 ·have hne: ¬RR l a=RR l b:=fun h=>hf (by have:=RR_first ha hb h;rwa[hma,hmb] at this)
  simp[bneT hf,hne]
  intro _ _
  refine D_Xg rfl rfl (b:=true) (by simp) (fun h=>by cases h) (fun _ m5 hm5 _=>⟨by simp[lateOf],?_⟩)
  refine D_pc 27 1 [] ?_
  simp
  intro _ _
  refine D_end fun m6 hm6 _=>?_
  simp
  have hm26:=(hm24.trans hm5).trans hm6
  have L6:=ld6 hm26
  refine W_draw (fun _ _ _=>True) (by simp[maxDst]) ?_
  refine D_pc 0 12 [12,13,14,15,16] ?_
  simp[beqF hab',p1,p2,L6.1,L6.2.1]
  intro _ _
  refine D_Xg rfl rfl (b:=false) (by simp) (fun _ m7 hm7 _=>?_) (fun h=>absurd rfl h)
  simp
  refine C_of (hflat m7 (hm26.trans hm7)) ?_
  rintro _ m8 ⟨rfl,hm8⟩
  refine ⟨by simp[lateOf],?_⟩
  refine D_pc 13 4 [] ?_
  simp[beqF hf]
  intro _ _
  refine D_end fun m9 hm9 _=>?_
  simp
  exact ⟨hne,(((hm02.trans hm26).trans hm7).trans hm8).trans hm9⟩
 simp[hf,p1,p2,L4.2.2.1,L4.2.2.2]
 intro _ _
 refine D_Xg rfl rfl (b:=false) (by simp) (fun _ m5 hm5 _=>?_) (fun h=>absurd rfl h)
 simp
 have hm25:=hm24.trans hm5
 refine C_of (k51 e1 e2 l[a].elems l[b].elems m5 (he1.mono hm25) (he2.mono hm25) (hrs _ hxa).1) ?_
 rintro _ m6 ⟨rfl,hm6⟩
 refine ⟨by simp[lateOf],?_⟩
 refine D_pc 27 1 [] ?_
 simp
 intro _ _
 refine D_end fun m7 hm7 _=>?_
 have hm27:=(hm25.trans hm6).trans hm7
 have L7:=ld6 hm27
 by_cases hsame:l[a].elems=l[b].elems
 ·have heq:RR l a=RR l b:=RR_same ha hb (by rw[hma,hmb];exact hf) (by rw[hma,hmb];exact hsame)
  simp[hsame,heq]
  refine W_draw (fun _ _ _=>True) (by simp[maxDst]) ?_
  refine D_pc 0 12 [12,13,14,15,16] ?_
  simp[beqF hab',p1,p2,L7.1,L7.2.1]
  intro _ _
  refine D_Xg rfl rfl (b:=false) (by simp) (fun _ m8 hm8 _=>?_) (fun h=>absurd rfl h)
  simp
  refine C_of (hflat m8 (hm27.trans hm8)) ?_
  rintro _ m9 ⟨rfl,hm9⟩
  refine ⟨by simp[lateOf],?_⟩
  refine D_pc 13 4 [] ?_
  simp[hf]
  intro _ _
  refine D_end fun m10 hm10 _=>?_
  simp
  exact ⟨heq,(((hm02.trans hm27).trans hm8).trans hm9).trans hm10⟩
 ·simp[hsame]
  have hm07:=hm02.trans hm27
  refine C_of (k48 s l m7 (hs.mono hm07) ok.good (by omega) hrs ok.h64 ok.names) ?_
  rintro v8 m8 ⟨hm8,hX⟩
  obtain ⟨ba,oa,pa,la⟩:=rlAt (ints_of_nat hX) ha
  obtain ⟨bb,ob,pb,lb⟩:=rlAt (ints_of_nat hX) hb
  have la:=la m8 (List.prefix_refl _)
  have lb:=lb m8 (List.prefix_refl _)
  have hxy:(((RR l a:Nat):Int)==((RR l b:Nat):Int))=decide (RR l a=RR l b):=by
   rw[Bool.eq_iff_iff,decide_eq_true_iff,beq_iff_eq]
   constructor<;>intro h<;>omega
  simp
  refine W_drawPR (by simp[maxDst]) rfl rfl ?_
  simp[pa,la,pb,lb,hxy]
  intro m9 hm9
  exact (hm07.trans hm8).trans hm9
end Go.Proofs.YtlniliigcnedmaaGreatDoor
namespace Go.Proofs.YtlniliigcnedmaaGreatDoor
open Go Ax Go.ChangeShapes Go.WideShapes Go.ChangeAt Go.RowKit
set_option maxRecDepth 100000
noncomputable def eqV (l:List Md) (u v:Int):AVal:= .tuple [.bool (decide (rightI l [u,v]=0∧RR l u.toNat=RR l v.toNat)),.int .i64 (rightI l [u,v])]
noncomputable def ltV (l:List Md) (u v:Int):AVal:= .tuple [.bool (decide (rightI l [u,v]=0∧RR l u.toNat<RR l v.toNat)),.int .i64 (rightI l [u,v])]
theorem eqV_ok {l:List Md} {a b:Nat} (hc:checkI l=0) (ha:a<l.length) (hb:b<l.length):eqV l a b= .tuple [.bool (decide (RR l a=RR l b)),.int .i64 0]:=by
 simp[eqV,rightI_two hc ha hb]
theorem ltV_ok {l:List Md} {a b:Nat} (hc:checkI l=0) (ha:a<l.length) (hb:b<l.length):ltV l a b= .tuple [.bool (decide (RR l a<RR l b)),.int .i64 0]:=by
 simp[ltV,rightI_two hc ha hb]
theorem two_intsZ (m:AMem) (u v:Int):RInts (m++ [.own [.int .i64 u,.int .i64 v] 3 none]) (.slice m.length 0 2 2 none) [u,v]:=by
 have h:=OwL.new (f:=AVal.int .i64) m 3 [u,v]
 simpa using h.ints
theorem k17g (s:AVal) (l:List Md) (u v:Int) (m:AMem) (hs:RTab m s l) (hsz: ∀x∈l,smallN x) (hn:T13 l):
  ACalls Tryz.prog 17 [s,.int .i64 u,.int .i64 v] m fun r m'=>r=eqV l u v∧m<+:m':=by
 by_cases hri:rightI l [u,v]=0
 ·obtain ⟨hc,a,b,rfl,rfl,ha,hb⟩:=right2 hri
  rw[eqV_ok hc ha hb]
  exact k17 s l a b m hs hsz hn hc ha hb
 refine w17 ?_
 have h60:=hn.len
 simp[fillA,setN]
 have hA:=two_intsZ m u v
 have hm1:m<+:m++ [.own [.int .i64 u,.int .i64 v] 3 none]:=List.prefix_append _ _
 generalize AVal.slice m.length 0 2 2 none=t1 at*
 generalize m++ [.own [.int .i64 u,.int .i64 v] 3 none]=m1 at*
 refine C_of (k43 s t1 l [u,v] m1 (hs.mono hm1) hA hsz (by omega) (by simp)) ?_
 rintro _ m2 ⟨rfl,hm2⟩
 simp[bneT hri,eqV,hri]
 exact hm1.trans hm2
theorem k19g (s:AVal) (l:List Md) (u v:Int) (m:AMem) (hs:RTab m s l) (hsz: ∀x∈l,smallN x) (hn:T13 l):
  ACalls Tryz.prog 19 [s,.int .i64 u,.int .i64 v] m fun r m'=>r=ltV l u v∧m<+:m':=by
 by_cases hri:rightI l [u,v]=0
 ·obtain ⟨hc,a,b,rfl,rfl,ha,hb⟩:=right2 hri
  rw[ltV_ok hc ha hb]
  exact k19 s l a b m hs hsz hn hc ha hb
 refine w19 ?_
 have h60:=hn.len
 simp[fillA,setN]
 have hA:=two_intsZ m u v
 have hm1:m<+:m++ [.own [.int .i64 u,.int .i64 v] 3 none]:=List.prefix_append _ _
 generalize AVal.slice m.length 0 2 2 none=t1 at*
 generalize m++ [.own [.int .i64 u,.int .i64 v] 3 none]=m1 at*
 refine C_of (k43 s t1 l [u,v] m1 (hs.mono hm1) hA hsz (by omega) (by simp)) ?_
 rintro _ m2 ⟨rfl,hm2⟩
 simp[bneT hri,ltV,hri]
 exact hm1.trans hm2
theorem k18g (s:AVal) (l:List Md) (u v:Int) (m:AMem) (hs:RTab m s l) (hsz: ∀x∈l,smallN x) (hn:l.length≤60):
  ACalls Tryz.prog 18 [s,.int .i64 u,.int .i64 v] m fun r m'=>r=eqV l u v∧m<+:m':=by
 by_cases hri:rightI l [u,v]=0
 ·obtain ⟨hc,a,b,rfl,rfl,ha,hb⟩:=right2 hri
  rw[eqV_ok hc ha hb]
  exact k18c s l a b m hs hc hn hsz ha hb
 refine w18 ?_
 simp[fillA,setN]
 have hA:=two_intsZ m u v
 have hm1:m<+:m++ [.own [.int .i64 u,.int .i64 v] 3 none]:=List.prefix_append _ _
 generalize AVal.slice m.length 0 2 2 none=t1 at*
 generalize m++ [.own [.int .i64 u,.int .i64 v] 3 none]=m1 at*
 refine C_of (k47 s t1 l [u,v] m1 (hs.mono hm1) hA hsz (by omega) (by simp)) ?_
 rintro _ m2 ⟨rfl,hm2⟩
 simp[bneT hri,eqV,hri]
 exact hm1.trans hm2
set_option maxHeartbeats 2000000 in
theorem k20 (s:AVal) (l:List Md) (u v:Int) (m:AMem) (hs:RTab m s l) (hsz: ∀x∈l,smallN x) (hn:l.length≤60):
  ACalls Tryz.prog 20 [s,.int .i64 u,.int .i64 v] m fun r m'=>r=ltV l u v∧m<+:m':=by
 refine w20 ?_
 simp[fillA,setN]
 have hA:=two_intsZ m u v
 have hm1:m<+:m++ [.own [.int .i64 u,.int .i64 v] 3 none]:=List.prefix_append _ _
 generalize AVal.slice m.length 0 2 2 none=t1 at*
 generalize m++ [.own [.int .i64 u,.int .i64 v] 3 none]=m1 at*
 refine C_of (k47 s t1 l [u,v] m1 (hs.mono hm1) hA hsz (by omega) (by simp)) ?_
 rintro _ m2 ⟨rfl,hm2⟩
 by_cases hri:rightI l [u,v]=0
 rotate_left
 ·simp[bneT hri,ltV,hri]
  exact hm1.trans hm2
 obtain ⟨hc,a,b,rfl,rfl,ha,hb⟩:=right2 hri
 rw[ltV_ok hc ha hb]
 have ok:=okT_of hc
 simp[hri]
 have hm02:=hm1.trans hm2
 refine C_of (k48 s l m2 (hs.mono hm02) ok.good (by omega) hsz ok.h64 ok.names) ?_
 rintro v3 m3 ⟨hm3,hX⟩
 obtain ⟨ba,oa,hpa,hla⟩:=rlAt (ints_of_nat hX) ha
 obtain ⟨bb,ob,hpb,hlb⟩:=rlAt (ints_of_nat hX) hb
 have hla:=hla m3 (List.prefix_refl _)
 have hlb:=hlb m3 (List.prefix_refl _)
 simp
 refine W_drawPR (by simp[maxDst]) rfl rfl ?_
 simp[hpa,hla,hpb,hlb]
 intro m4 hm4
 exact (hm02.trans hm3).trans hm4
set_option maxHeartbeats 4000000 in
theorem k4:LawTII 4:=by
 intro m s l u v hs _ hb
 refine w4 ?_
 simp
 refine C_of (k13 m) ?_
 rintro _ m1 ⟨rfl,hm1⟩
 simp
 refine C_of (k14 s l 12 m1 (hs.mono hm1) (by omega)) ?_
 rintro _ m2 ⟨rfl,hm2⟩
 have hm02:=hm1.trans hm2
 cases hsm:(decide ((l.length:Int)≤12)&&l.all fun x=>decide (x.elems.length≤6)&&decide (x.names.length≤6))
 ·simp
 have hf:=fits_of hb hsm
 have hlen:l.length≤60:=by have:=hf.n;omega
 simp
 refine C_of (k17g s l u v m2 (hs.mono hm02) hf.sm (T13.of hf.n)) ?_
 rintro _ m3 ⟨rfl,hm3⟩
 have hm03:=hm02.trans hm3
 simp[eqV]
 refine C_of (k18g s l u v m3 (hs.mono hm03) hf.sm hlen) ?_
 rintro _ m4 ⟨rfl,hm4⟩
 have hm04:=hm03.trans hm4
 simp[eqV]
 refine C_of (k19g s l u v m4 (hs.mono hm04) hf.sm (T13.of hf.n)) ?_
 rintro _ m5 ⟨rfl,hm5⟩
 have hm05:=hm04.trans hm5
 simp[ltV]
 refine C_of (k20 s l u v m5 (hs.mono hm05) hf.sm hlen) ?_
 rintro _ m6 ⟨rfl,hm6⟩
 simp[ltV]
end Go.Proofs.YtlniliigcnedmaaGreatDoor
