/- Layer 22's laws.  Conditions: none beyond those stated. -/
import Derived.Test.YtodhalcpnmddjaaDoorRe4
import Derived.ProofKit
import Derived.SizedLaws
import Derived.SliceStrings
import Derived.Deep.Slices
import Derived.DataElems
import Derived.Test.YtodhalcpnmddjaaDoorCards
import Derived.Test.YtodhalcpnmddjaaDoorTie
import Derived.OpenShut
import Derived.Deep.DeepHandedRow
import Derived.Lib.LaidU8
set_option linter.unusedSimpArgs false
set_option linter.unusedVariables false
set_option linter.unusedSectionVars false
namespace Go.Proofs.YtodhalcpnmddjaaDoor.Ax
open Go Go.ChangeShapes Go.WideShapes Go.ChangeAt Go.RowKit
set_option maxRecDepth 100000
def RoMem (m:AMem):Prop:= ∀(b:Nat) blk,m[b]? =some blk→blk.isOwn=false
theorem Sim.nil (w:World):Sim [] [] w:=⟨rfl,by simp,by simp,by simp⟩
theorem RoMem.nil:RoMem []:=by intro b blk h;simp at h
theorem Sim.ro {ρ:List RB} {m:AMem} {w:World} (h:Sim ρ m w) (hm:RoMem m) {a:RB} (cs:List AVal) (ha:a.block<w.heap.size) (hc: ∀(i:Nat) x,cs[i]? =some x→ ∃v,w.cell? (at_ a i)=some v∧VR ρ x v):
  Sim (ρ++ [a]) (m++ [.ro cs]) w∧RoMem (m++ [.ro cs]):=by
 have hp:ρ<+:ρ++ [a]:=List.prefix_append _ _
 have hr:RoMem (m++ [.ro cs]):=by
  intro b blk hb
  rcases Nat.lt_or_ge b m.length with hlt|hge
  ·rw[List.getElem?_append_left hlt] at hb;exact hm b blk hb
  ·rw[List.getElem?_append_right hge] at hb
   cases hk:b-m.length with
   |zero=>rw[hk] at hb;simp at hb;subst hb;rfl
   |succ k=>rw[hk] at hb;simp at hb
 refine ⟨⟨by simp[h.len],?_,?_,?_⟩,hr⟩
 ·intro b blk a' hb ha'
  rcases Nat.lt_or_ge b m.length with hlt|hge
  ·rw[List.getElem?_append_left hlt] at hb
   rw[List.getElem?_append_left (by rw[h.len];exact hlt)] at ha'
   exact (h.ok b blk a' hb ha').mono hp
  ·rw[List.getElem?_append_right hge] at hb
   rw[List.getElem?_append_right (by rw[h.len];exact hge),h.len] at ha'
   cases hk:b-m.length with
   |zero=>
    rw[hk] at hb ha'
    simp only[List.getElem?_cons_zero,Option.some.injEq] at hb ha'
    subst hb ha'
    intro i x hx
    obtain ⟨v,h1,h2⟩:=hc i x hx
    exact ⟨v,h1,VR.mono hp x v h2⟩
   |succ k=>rw[hk] at hb;simp at hb
 ·intro b b' blk blk' a1 a2 _ hb _ _ _ ho
  rw[hr b blk hb] at ho
  simp at ho
 ·intro b a' ha'
  rcases Nat.lt_or_ge b ρ.length with hlt|hge
  ·rw[List.getElem?_append_left hlt] at ha';exact h.bound b a' ha'
  ·rw[List.getElem?_append_right hge] at ha'
   cases hk:b-ρ.length with
   |zero=>rw[hk] at ha';simp at ha';subst ha';exact ha
   |succ k=>rw[hk] at ha';simp at ha'
theorem slice_in {ρ:List RB} {m:AMem} {w:World} (h:Sim ρ m w) (hm:RoMem m) (hne:0<w.heap.size) {a:Addr} {len cap esz:Nat} (hlc:len≤cap)
  (hcell:cap≠0→ ∃v,w.cell? a=some v) {xs:List AVal} (hx:xs.length=len*esz) (hc: ∀(i:Nat) x,xs[i]? =some x→ ∃v,w.cell? (a.add i)=some v∧VR ρ x v):
  ∃ρ' m' s,ρ<+:ρ'∧m<+:m'∧RoMem m'∧Sim ρ' m' w∧VR ρ' s (.slice (some a) len cap)∧Sl m' esz s len xs:=by
 by_cases hcap:cap=0
 ·subst hcap
  obtain rfl:len=0:=by omega
  obtain rfl:xs= []:=List.eq_nil_of_length_eq_zero (by simpa using hx)
  obtain ⟨h1,h2⟩:=h.ro hm (a:=⟨0,0,0,0⟩) [] hne (by simp)
  refine ⟨_,_,.slice m.length 0 0 0 none,List.prefix_append _ _,List.prefix_append _ _,h2,h1,?_,.inr ⟨_,_,_,_,rfl,⟨by omega,.inl rfl⟩,.inl ⟨rfl,rfl⟩⟩⟩
  simp only[VR]
  exact ⟨⟨0,0,0,0⟩,a,0,rfl,by rw[←h.len];simp,by simp,by omega,by simp,by omega,by simp⟩
 ·obtain ⟨v0,hv0⟩:=hcell hcap
  have hs:=World.cell?_spot hv0
  obtain ⟨b,off,sp⟩:=a
  simp only at hs
  subst hs
  have hb:b<w.heap.size:=by
   rcases Nat.lt_or_ge b w.heap.size with hlt|hge
   ·exact hlt
   ·unfold World.cell? at hv0
    simp only[Array.getElem?_eq_none hge] at hv0
    simp at hv0
  obtain ⟨h1,h2⟩:=h.ro hm (a:=⟨b,off,0,0⟩) xs hb fun i x hx=>by
   obtain ⟨v,h1,h2⟩:=hc i x hx
   rw[Go.WideShapes.add_plain] at h1
   exact ⟨v,h1,h2⟩
  refine ⟨_,_,.slice m.length 0 len cap none,List.prefix_append _ _,List.prefix_append _ _,h2,h1,?_,.inr ⟨_,_,_,_,rfl,⟨hlc,.inl rfl⟩,?_⟩⟩
  ·simp only[VR]
   exact ⟨⟨b,off,0,0⟩,_,cap,rfl,by rw[←h.len];simp,by simp,hlc,by simp,by omega,by simp⟩
  ·by_cases hl:len=0
   ·subst hl
    exact .inl ⟨rfl,List.eq_nil_of_length_eq_zero (by simpa using hx)⟩
   ·refine .inr ⟨hl,xs,by simp[readB,ABlk.cells],?_⟩
    have h0:0+len*esz≤xs.length:=by omega
    unfold readN
    rw[if_pos h0,List.drop_zero,List.take_of_length_le (by omega)]
def Enters (w:World) (vs:List Value) (Rep:AMem→List AVal→Prop):Prop:=
 ∀ρ m,Sim ρ m w→RoMem m→ ∃ρ' m' xs,ρ<+:ρ'∧m<+:m'∧RoMem m'∧Sim ρ' m' w∧VRs ρ' xs vs∧Rep m' xs
variable {H:Type} {enc:TypeId×Value→H} {P:Program} {w:World} {base:Nat} {spare:Nat→Bool} {held:Bool}
structure ModeT (P:Program) where
 tT:TypeId
 tM:TypeId
 tI:TypeId
 eI:TypeId
 tS:TypeId
 eS:TypeId
 k0:TypeId
 k1:TypeId
 k4:TypeId
 k5:TypeId
 fs:Array Field
 hT:P.underlying tT=some (.slice tM)
 hM:P.underlying tM=some (.struct fs)
 hI:P.underlying tI=some (.slice eI)
 hi:P.underlying eI=some (.int .i64)
 hS:P.underlying tS=some (.slice eS)
 hs:P.underlying eS=some .string
 h0:P.underlying k0=some (.int .i64)
 h1:P.underlying k1=some (.int .i64)
 h4:P.underlying k4=some (.int .i64)
 h5:P.underlying k5=some .bool
 cM:P.cellsOf tM=6
 ci:P.cellsOf eI=1
 cs:P.cellsOf eS=1
 c0:P.cellsOf k0=1
 c1:P.cellsOf k1=1
 cI:P.cellsOf tI=1
 cS:P.cellsOf tS=1
 c4:P.cellsOf k4=1
 c5:P.cellsOf k5=1
 bi:P.bytesOf eI=8
 bs:P.bytesOf eS=16
 bM:1≤P.bytesOf tM
 sz:fs.size=6
 f0:(fs[0]?).map (fun f=>(f.type,f.offset))=some (k0,0)
 f1:(fs[1]?).map (fun f=>(f.type,f.offset))=some (k1,1)
 f2:(fs[2]?).map (fun f=>(f.type,f.offset))=some (tI,2)
 f3:(fs[3]?).map (fun f=>(f.type,f.offset))=some (tS,3)
 f4:(fs[4]?).map (fun f=>(f.type,f.offset))=some (k4,4)
 f5:(fs[5]?).map (fun f=>(f.type,f.offset))=some (k5,5)
theorem field_of {fs:Array Field} {i:Nat} {t:TypeId} {o:Nat} (h:(fs[i]?).map (fun f=>(f.type,f.offset))=some (t,o)): ∃f,fs[i]? =some f∧f.type=t∧f.offset=o:=by
 cases hf:fs[i]? with
 |none=>rw[hf] at h;simp at h
 |some f=>rw[hf] at h;simp at h;exact ⟨f,rfl,h.1,h.2⟩
theorem weights_parts {e:TypeId} {fs:Array Field} (ht:P.underlying e=some (.struct fs)) {xs:List (DataW H×List MemPlace)} {i:Nat} {f:Field} {y:DataW H×List MemPlace} (hf:fs[i]? =some f) (hy:xs[i]? =some y) {B:Nat}
  (h:((DataW.agg (xs.map (·.1))).weights P e).all (· ≤B)=true):(y.1.weights P f.type).all (· ≤B)=true:=by
 simp only[DataW.weights,ht] at h
 rw[List.all_eq_true] at h ⊢
 intro n hn
 exact h n (DataW.weights_mem_each (j:=i) (t:=f.type) (d:=y.1) (by simp[hf]) (by simp[hy]) n hn)
theorem below_of_evol {ρ ρ':List RB} {m m':AMem} {w':World} (hm:RoMem m) (h:Evol ρ m w ρ' m' w'):Below w.heap.size w w':=
 ⟨h.os,h.tape,h.output,h.size,fun k hk=>h.frame k hk fun ⟨b,blk,a,hb,ho,_⟩=>by rw[hm b blk hb] at ho;cases ho⟩
end Go.Proofs.YtodhalcpnmddjaaDoor.Ax
namespace Go.Proofs.YtodhalcpnmddjaaDoor.Ax
open Go Go.RowKit
variable {H:Type} {enc:TypeId×Value→H} {P:Program} {w:World} {base:Nat} {held:Bool}
theorem enters_slF {α:Type} {wd:Nat} {f:α→List AVal} [hf:SCell wd f] {t e:TypeId} (hwd:1≤wd) (hT:P.underlying t=some (.slice e)) (hc:P.cellsOf e=wd) (hB1:1≤P.bytesOf e)
  (hel: ∀{fuel:Nat} {cs:List Value} {x:DataW H×List MemPlace},DataW.trod enc P w base (fun _=>true) held fuel e cs=some x→ ∃y:α,Enters w cs (fun _ xs=>xs=f y)) {fuel:Nat} {cs:List Value}
  (hne: ∀a len cap,cs= [.slice (some a) len cap]→0<w.heap.size) {x:DataW H×List MemPlace} (h:DataW.trod enc P w base (fun _=>true) held fuel t cs=some x):
  ∃l:List α,Enters w cs (fun m xs=> ∃s,xs= [s]∧SlF wd f m s l)∧(∀B,(x.1.weights P t).all (· ≤B)=true→l.length≤B):=by
 rcases Go.Deep.open_slice hT h with ⟨rfl,rfl⟩|⟨a,len,cap,mm,n,D,Pl,rfl,_,hlc,_,hmm,rfl,hle⟩
 ·exact ⟨[],fun ρ m hs hm=>⟨ρ,m,[.nilslice],List.prefix_refl _,List.prefix_refl _,hm,hs,by simp[VRs,VR],.nilslice,rfl,SlF.nil⟩,by simp⟩
 ·replace hne:=hne _ _ _ rfl
  simp only[if_true] at hmm
  subst hmm
  rw[hc] at hle
  have hmd: ∀i,i<len→ ∃(cs':List Value) (y:α),w.cells? base (a.add (i*wd)) wd=some cs'∧Enters w cs' (fun _ xs=>xs=f y):=fun i hi=>by
   obtain ⟨cs',h1,h2⟩:=hle i (by omega)
   obtain ⟨y,h3⟩:=hel h2
   exact ⟨cs',y,h1,h3⟩
  have hl: ∃l:List α,l.length=len∧ ∀(i:Nat) y,l[i]? =some y→ ∃(cs':List Value),w.cells? base (a.add (i*wd)) wd=some cs'∧Enters w cs' (fun _ xs=>xs=f y):=by
   have: ∀k,k≤len→ ∃l:List α,l.length=k∧ ∀(i:Nat) y,l[i]? =some y→ ∃(cs':List Value),w.cells? base (a.add (i*wd)) wd=some cs'∧Enters w cs' (fun _ xs=>xs=f y):=by
    intro k
    induction k with
    |zero=>exact fun _=>⟨[],rfl,by simp⟩
    |succ k ih=>
     intro hk
     obtain ⟨l,h1,h2⟩:=ih (by omega)
     obtain ⟨cs',y,h3,h4⟩:=hmd k (by omega)
     refine ⟨l++ [y],by simp[h1],fun i y' hi=>?_⟩
     rcases Nat.lt_or_ge i l.length with hlt|hge
     ·rw[List.getElem?_append_left hlt] at hi;exact h2 i y' hi
     ·rw[List.getElem?_append_right hge] at hi
      cases hj:i-l.length with
      |zero=>
       rw[hj] at hi
       simp only[List.getElem?_cons_zero,Option.some.injEq] at hi
       subst hi
       obtain rfl:i=k:=by omega
       exact ⟨cs',h3,h4⟩
      |succ j=>rw[hj] at hi;simp at hi
   exact this len (Nat.le_refl _)
  obtain ⟨l,hlen,hl⟩:=hl
  refine ⟨l,fun ρ m hs hm=>?_,fun B hB=>?_⟩
  ·have key: ∀k,k≤len→ ∃(ρ':List RB) (m':AMem),ρ<+:ρ'∧m<+:m'∧RoMem m'∧Sim ρ' m' w∧(∀(i:Nat) x,((l.take k).flatMap f)[i]? =some x→ ∃v,w.cell? (a.add i)=some v∧VR ρ' x v):=by
    intro k
    induction k with
    |zero=>exact fun _=>⟨ρ,m,List.prefix_refl _,List.prefix_refl _,hm,hs,by simp⟩
    |succ k ih=>
     intro hk
     obtain ⟨ρ1,m1,h1,h2,h3,h4,h6⟩:=ih (by omega)
     have hkl:k<l.length:=by omega
     obtain ⟨cs',c1,c2⟩:=hl k l[k] (List.getElem?_eq_getElem hkl)
     obtain ⟨ρ2,m2,ys,g1,g2,g3,g4,g5,rfl⟩:=c2 ρ1 m1 h4 h3
     obtain ⟨_,c3,c4⟩:=World.cells?_some c1
     have hfl:((l.take k).flatMap f).length=k*wd:=by rw[flat_len,List.length_take,Nat.min_eq_left (by omega)]
     refine ⟨ρ2,m2,h1.trans g1,h2.trans g2,g3,g4,fun i x hx=>?_⟩
     rw[List.take_add_one,List.getElem?_eq_getElem hkl,Option.toList_some,List.flatMap_append,List.flatMap_cons,List.flatMap_nil,List.append_nil] at hx
     rcases Nat.lt_or_ge i (k*wd) with hlt|hge
     ·rw[List.getElem?_append_left (by omega)] at hx
      obtain ⟨v,hv,hr⟩:=h6 i x hx
      exact ⟨v,hv,VR.mono g1 x v hr⟩
     ·rw[List.getElem?_append_right (by omega),hfl] at hx
      have hj:=(List.getElem?_eq_some_iff.1 hx).1
      rw[hf.len] at hj
      obtain ⟨v,hv,hr⟩:=g5.get _ x hx
      refine ⟨v,?_,hr⟩
      have:=c4 (i-k*wd) hj
      rw[Addr.add_add,hv] at this
      rw[←this]
      congr 2
      omega
   obtain ⟨ρ1,m1,h1,h2,h3,h4,h6⟩:=key len (Nat.le_refl _)
   rw[List.take_of_length_le (by omega)] at h6
   obtain ⟨ρ',m',s,g1,g2,g3,g4,g5,g6⟩:=slice_in (esz:=wd) h4 h3 hne hlc (fun hcap=>by
    obtain ⟨cs',c1,_⟩:=hle 0 (by omega)
    obtain ⟨_,c3,c4⟩:=World.cells?_some c1
    have:=c4 0 (by omega)
    rw[Addr.add_add] at this
    rw[List.getElem?_eq_getElem (by omega)] at this
    exact ⟨_,by simpa[Addr.add] using this⟩) (xs:=l.flatMap f) (by rw[flat_len,hlen]) h6
   exact ⟨ρ',m',[s],h1.trans g1,h2.trans g2,g3,g4,by simp only[VRs];exact ⟨_,_,rfl,g5,rfl⟩,s,rfl,by unfold SlF;rw[hlen];exact g6⟩
  ·simp only[DataW.weights,hT,List.all_cons,Bool.and_eq_true,decide_eq_true_eq,List.all_append] at hB
   obtain ⟨b1,_⟩:=hB
   simp only[List.length_map,List.length_range] at b1
   have h3:len≤(len+(mm-len))*P.bytesOf e:=by
    calc len≤(len+(mm-len))*1:=by omega
     _≤_:=Nat.mul_le_mul_left _ hB1
   omega
end Go.Proofs.YtodhalcpnmddjaaDoor.Ax
namespace Go.Proofs.YtodhalcpnmddjaaDoor
open Go Ax Go.ChangeShapes Go.WideShapes Go.ChangeAt Go.RowKit
set_option maxRecDepth 100000
theorem under3: Tryd.prog.underlying 3=some (.int .i64):=by kernel_rfl
theorem under2: Tryd.prog.underlying 2=some (.int .i64):=by kernel_rfl
theorem under4: Tryd.prog.underlying 4=some .bool:=by kernel_rfl
theorem cells2: Tryd.prog.cellsOf 2=1:=by kernel_rfl
theorem cells3: Tryd.prog.cellsOf 3=1:=by kernel_rfl
theorem laidOut:laidOutB Tryd.prog=true:=by kernel_rfl
theorem own0:ownKnob Tryd.prog.godebug=none:=by kernel_rfl
def laidL:List (String×DataW Unit):= [("math/bits.deBruijn32tab",Rows.laid_math_bits_deBruijn32tab),("math/bits.deBruijn64tab",Rows.laid_math_bits_deBruijn64tab),("internal/strconv.uint64pow10",Rows.laid_internal_strconv_uint64pow10)]
noncomputable def tyPow:TypeId:=((Tryd.prog.globals[0]?).map (·.type)).getD 0
theorem gPowT:(Tryd.prog.globals[0]?).map (·.type)=some tyPow:=by kernel_rfl
theorem underPow: ∃e,Tryd.prog.underlying tyPow=some (.array 20 e)∧ Tryd.prog.underlying e=some (.int .u64)∧ Tryd.prog.cellsOf e=1∧ Tryd.prog.cellsOf tyPow=20:=by
 refine ⟨((match Tryd.prog.underlying tyPow with|some (.array _ e)=>e|_=>0)),by kernel_rfl,by kernel_rfl,by kernel_rfl,by kernel_rfl⟩
theorem pow_is {W:World} (hL:laidMetH Tryd.prog laidL W):Lib.TabIs Tryd.prog W "internal/strconv.uint64pow10" .u64 Lib.pow10Tab:=by
 have hL':laidMet Tryd.prog laidL W:=hL
 obtain ⟨g,t,cs,fuel,q,h1,h2,h3,h4⟩:=Lib.laidMet.reads hL' (n:= "internal/strconv.uint64pow10") (d:=Rows.laid_internal_strconv_uint64pow10) (by simp[laidL])
 obtain rfl:=Option.some.inj (gPow.symm.trans h1)
 obtain rfl:=Option.some.inj (gPowT.symm.trans h2)
 obtain ⟨e,e1,e2,e3,e4⟩:=underPow
 unfold Lib.TabIs
 rw[h3]
 have hd:(Rows.laid_internal_strconv_uint64pow10:DataW Unit)=Lib.tabData .u64 Lib.pow10Tab:=rfl
 rw[hd] at h4
 rw[←Lib.cells_of_tab e1 e2 e3 e4 h4]
theorem pow_heap {W:World} (hL:laidMetH Tryd.prog laidL W):0<W.heap.size:=by
 have hv:=pow_is hL
 unfold Lib.TabIs World.var? at hv
 rw[gPow] at hv
 simp only[Option.bind_some] at hv
 rcases Nat.eq_zero_or_pos W.heap.size with h0|h0
 ·rw[Array.getElem?_eq_none (by omega)] at hv
  simp at hv
 ·exact h0
theorem glob_of {ρ:List RB} {m:AMem} {W:World} (hL:laidMetH Tryd.prog laidL W) (hro:RoMem m):Glob ρ m W:=by
 have ht:=pow_is hL
 intro p hp
 obtain ⟨e0,e1,e2⟩:=pow_cells p hp
 have hv:=ht
 unfold Lib.TabIs World.var? at hv
 rw[gPow] at hv
 simp only[Option.bind_some] at hv
 rw[e0]
 cases hh:W.heap[0]? with
 |none=>rw[hh] at hv;simp at hv
 |some o=>
  rw[hh] at hv
  cases o<;>simp only[reduceCtorEq,Option.some.injEq] at hv
  rename_i arr t fz
  subst hv
  refine ⟨(Array.getElem?_eq_some_iff.1 hh).1,fun ho=>?_,fun i x hx=>?_,_,t,fz,rfl,by rw[e1];simp[Lib.pow10Tab]⟩
  ·obtain ⟨b,blk,a,hb,hown,_⟩:=ho
   rw[hro b blk hb] at hown
   cases hown
  ·have hi:i<20:=by have:=(List.getElem?_eq_some_iff.1 hx).1;omega
   rw[e2 i hi] at hx
   cases hx
   have:=ht.cell gPow i (by rw[Lib.pow10Tab_length];exact hi)
   rw[Lib.pow10Tab_at i hi] at this
   exact ⟨_,this,by simp[VR]⟩
theorem i64_of {n:Int} (h:(Lit.int .i64 n).wf=true):i64 n:=by
 simp only[Lit.wf,Bool.and_eq_true,decide_eq_true_eq] at h
 obtain ⟨h1,h2⟩:=h
 have e1:IntKind.i64.min= -9223372036854775808:=by decide
 have e2:IntKind.i64.max=9223372036854775807:=by decide
 rw[e1] at h1
 rw[e2] at h2
 exact ⟨h1,h2⟩
def Opn (t:TypeId) {α:Type} (Rep:α→AMem→AVal→Prop):Prop:=
 ∀{H:Type} {enc:TypeId×Value→H} {W:World} {r:Reach} {b0:Nat} {v:Value} {d:DataW H} {ps:List MemPlace},0<W.heap.size→Value.okWide Tryd.prog W r b0 t v→DataW.Trod enc Tryd.prog W 0 (fun _=>true) true t v d ps→(d.weights Tryd.prog t).all (· ≤reachBytes)=true→
  ∃y:α,∀ρ m,Sim ρ m W→RoMem m→ ∃ρ' m' x,ρ<+:ρ'∧m<+:m'∧RoMem m'∧Sim ρ' m' W∧VR ρ' x v∧Rep y m' x
def iR (a:Int) (_:AMem) (x:AVal):Prop:=x= .int .i64 a∧i64 a
theorem opn_int:Opn 3 iR:=fun {H enc W r b0 v d ps} _ hv hd _=>by
 obtain ⟨a,rfl,rfl,rfl,w⟩:=open_int under3 hv hd
 exact ⟨a,fun ρ m hs hm=>⟨ρ,m,.int .i64 a,List.prefix_refl _,List.prefix_refl _,hm,hs,by simp[VR],rfl,i64_of w⟩⟩
theorem liftedR3 {os:Os} {F:Stop.Interp} (started:os.Started) {H:Type} {enc:TypeId×Value→H} {f:FuncId} {fn:Func} {s:ChangeSpec} {conds:List PathCond} {ta tb tc:TypeId} {α β γ:Type} {RA:α→AMem→AVal→Prop} {RB:β→AMem→AVal→Prop} {RC:γ→AMem→AVal→Prop}
  (oA:Opn ta RA) (oB:Opn tb RB) (oC:Opn tc RC) (mA: ∀a m m' x,m<+:m'→RA a m x→RA a m' x) (mB: ∀a m m' x,m<+:m'→RB a m x→RB a m' x) (cA: Tryd.prog.readableRec ta=true) (cA':ta< Tryd.prog.types.size) (cB: Tryd.prog.readableRec tb=true) (cB':tb< Tryd.prog.types.size) (cC: Tryd.prog.readableRec tc=true) (cC':tc< Tryd.prog.types.size)
  (noInit: Tryd.checked.prog.inits.idxOf? f=none) (hfn: Tryd.checked.prog.funcs[f]? =some fn) (hp:fn.params= #[ta,tb,tc]) (hr:fn.resultTypes= #[4]) (hs:s.vars= [])
  (hsf: ∀d1 d2 d3:DataW H,s.fn H [d1,d2,d3]={results:= [.lit (.bool true)],args:= [d1,d2,d3]})
  (witness: ∃(w:World) (tape:Tape) (i:Input),w.os=os∧(w.forCall tape i).Shaped Tryd.checked.prog∧i.vars= []∧Input.okWide Tryd.checked.prog (w.forCall tape i) .any w.heap.size f i∧
   (OpenSpec.ofChange s).preRow enc Tryd.prog fn conds false laidL (w.forCall tape i).memory i.args∧({}:Assume).holds Tryd.checked.prog (lone (Frame.enter Tryd.checked.prog f i.args .normal) [] (w.forCall tape i)))
  (law: ∀a b c m x y z,RA a m x→RB b m y→RC c m z→ACalls Tryd.prog f [x,y,z] m fun v _=>v= .bool true):
  ReturnsInHanded {} Tryd.checked os f .any ((OpenSpec.ofChange s).preRow enc Tryd.prog fn conds false laidL) (((OpenSpec.ofChange s).at F).post enc Tryd.prog fn false true false false):=by
 refine returnsInHanded_of_row (C:= Tryd.checked) (s:=OpenSpec.ofChange s) own0 started noInit hfn witness ?_
 intro W base args ds gs before hval0 hW _ _ hsz0 hL _ _
 show Calls _ _ _ _ fun e W'=> ∃v,e= .returned v∧s.post enc Tryd.prog fn false true false false W args v W'
 replace hW:DataW.Whole enc Tryd.prog fn.params.toList s.vars false W args.toList ds gs before:=hW
 have hW':=hW
 rw[hp] at hval0 hsz0
 obtain ⟨p,q,hA,hV,rfl,_,_⟩:=hW
 rw[hp] at hA
 rw[hs] at hV
 obtain ⟨v0,v1,v2,d0,d1,d2,p0,p1,p2,rfl,rfl,rfl,h0,h1,h2⟩:=trodAll_three hA
 obtain ⟨rfl,rfl⟩:=trodVars_none hV
 have hwt: ∀(j:Nat) (t:TypeId) (d:DataW H),[ta,tb,tc][j]? =some t→ [d0,d1,d2][j]? =some d→(d.weights Tryd.prog t).all (· ≤reachBytes)=true:=fun j t d ht hd=>by
  rw[List.all_eq_true] at hsz0 ⊢
  intro n hn
  exact hsz0 n (DataW.weights_mem_each (j:=j) (t:=t) (d:=d) (by rcases j with _|_|_|j<;>simp_all) (by rcases j with _|_|_|j<;>simp_all) n hn)
 have hne:0<W.heap.size:=pow_heap hL
 obtain ⟨a,ea⟩:=oA hne (hval0 0 ta v0 rfl rfl) h0 (hwt 0 ta d0 rfl rfl)
 obtain ⟨b,eb⟩:=oB hne (hval0 1 tb v1 rfl rfl) h1 (hwt 1 tb d1 rfl rfl)
 obtain ⟨c,ec⟩:=oC hne (hval0 2 tc v2 rfl rfl) h2 (hwt 2 tc d2 rfl rfl)
 obtain ⟨ρ1,m1,x,_,_,hro1,hsim1,hvr1,hR1⟩:=ea [] [] (Sim.nil W) RoMem.nil
 obtain ⟨ρ2,m2,y,hp2,hm2,hro2,hsim2,hvr2,hR2⟩:=eb ρ1 m1 hsim1 hro1
 obtain ⟨ρ3,m3,z,hp3,hm3,hro,hsim,hvr3,hR3⟩:=ec ρ2 m2 hsim2 hro2
 have hlt: ∀x∈p0++(p1++(p2++ [])),x.block<W.heap.size:=fun x hx=>hW'.lt x (by simpa using hx)
 refine ((law a b c m3 x y z (mA _ _ _ _ (hm2.trans hm3) hR1) (mB _ _ _ _ hm3 hR2) hR3).2 ρ3 W #[v0,v1,v2] hsim (glob_of hL hro) (by simp only[VRs];exact ⟨_,_,rfl,VR.mono (hp2.trans hp3) _ _ hvr1,_,_,rfl,VR.mono hp3 _ _ hvr2,_,_,rfl,hvr3,rfl⟩)).mono fun e W' h=>?_
 obtain ⟨v',v,m'',ρ'',rfl,rfl,hv,_,hev⟩:=h
 simp only[VR] at hv
 subst hv
 have hb:=below_of_evol hro hev
 refine ⟨_,rfl,[d0,d1,d2],[],_,[],p0++(p1++(p2++ [])),[],hW',?_,?_,?_,hb.frame _,fun h=>by cases h⟩
 ·rw[hr]
  show DataW.TrodAll enc _ W' _ _ _ [4] _ (s.fn H [d0,d1,d2]).results []
  rw[hsf]
  exact trodAll_mk1 (shut_bool under4 true)
 ·rw[hp]
  show DataW.TrodAll enc _ W' _ _ _ [ta,tb,tc] _ (s.fn H [d0,d1,d2]).args _
  rw[hsf]
  exact trodAll_cons_mk (Below.trod laidOut cA cA' h0 hb fun x hx=>hlt x (by simp[hx])) (trodAll_cons_mk (Below.trod laidOut cB cB' h1 hb fun x hx=>hlt x (by simp[hx])) (trodAll_cons_mk (Below.trod laidOut cC cC' h2 hb fun x hx=>hlt x (by simp[hx])) trodAll_mk0))
 ·show DataW.TrodVars enc _ W' _ s.vars (s.fn H [d0,d1,d2]).vars _
  rw[hsf,hs]
  rfl
end Go.Proofs.YtodhalcpnmddjaaDoor
namespace Go.Proofs.YtodhalcpnmddjaaDoor
open Go Ax Go.ChangeShapes Go.WideShapes Go.ChangeAt Go.RowKit
set_option maxRecDepth 100000
def FlatT (t:TypeId) (n:Nat):Prop:=
 ∀{H:Type} {enc:TypeId×Value→H} {W:World} {base:Nat} {held:Bool} {fuel:Nat} {cs:List Value} {x:DataW H×List MemPlace},DataW.trod enc Tryd.prog W base (fun _=>true) held fuel t cs=some x→
  ∃zs:List Int,zs.length=n∧cs=zs.map (Value.int .i64)∧ ∀z∈zs,i64 z
theorem flat_int {t:TypeId} (ht: Tryd.prog.underlying t=some (.int .i64)):FlatT t 1:=fun {H enc W base held fuel cs x} h=>by
 obtain ⟨n,rfl,_,hw⟩:=DataW.trod_int ht h
 exact ⟨[n],rfl,rfl,fun z hz=>by simp at hz;subst hz;exact i64_of hw⟩
def FA (fs:Array Field):Nat→Nat→List (TypeId×Nat)→Prop
 |_,_,[]=>True
 |k,o,p::L=>(fs[k]?).map (fun f=>(f.type,f.offset))=some (p.1,o)∧FA fs (k+1) (o+p.2) L
def sumN (L:List (TypeId×Nat)):Nat:=(L.map (·.2)).sum
theorem flat_fields {fs:Array Field} {H:Type} {enc:TypeId×Value→H} {W:World} {base:Nat} {held:Bool} {n:Nat} {cs:List Value} {xs:List (DataW H×List MemPlace)} (hx:xs.length=fs.size)
  (hall: ∀(i:Nat) (f:Field),fs[i]? =some f→DataW.trod enc Tryd.prog W base (fun _=>true) held n f.type ((cs.drop f.offset).take (Tryd.prog.cellsOf f.type))=xs[i]?):
  ∀(L:List (TypeId×Nat)) (k o:Nat),(∀p∈L,FlatT p.1 p.2∧ Tryd.prog.cellsOf p.1=p.2)→FA fs k o L→ ∃zs:List Int,zs.length=sumN L∧(cs.drop o).take (sumN L)=zs.map (Value.int .i64)∧ ∀z∈zs,i64 z
 | [],k,o,_,_=>⟨[],rfl,by simp[sumN],by simp⟩
 |p::L,k,o,hL,⟨hk,hF⟩=>by
  obtain ⟨hp,hc⟩:=hL p List.mem_cons_self
  obtain ⟨f,hf,ht,ho⟩:=field_of hk
  have e:=hall k f hf
  rw[ht,ho,hc] at e
  have hkl:k<xs.length:=by rw[hx];exact (Array.getElem?_eq_some_iff.1 hf).1
  rw[List.getElem?_eq_getElem hkl] at e
  obtain ⟨zs,h1,h2,h3⟩:=hp e
  obtain ⟨zs',g1,g2,g3⟩:=flat_fields hx hall L (k+1) (o+p.2) (fun q hq=>hL q (List.mem_cons_of_mem _ hq)) hF
  have hs:sumN (p::L)=p.2+sumN L:=by simp[sumN]
  refine ⟨zs++zs',by rw[List.length_append,h1,g1,hs],?_,fun z hz=>?_⟩
  ·rw[hs,List.take_add,h2,List.drop_drop,g2,List.map_append]
  ·rcases List.mem_append.1 hz with h|h
   ·exact h3 z h
   ·exact g3 z h
theorem flat_struct {t:TypeId} {fs:Array Field} {L:List (TypeId×Nat)} {n:Nat} (ht: Tryd.prog.underlying t=some (.struct fs)) (hc: Tryd.prog.cellsOf t=n) (hn:sumN L=n) (hL: ∀p∈L,FlatT p.1 p.2∧ Tryd.prog.cellsOf p.1=p.2) (hF:FA fs 0 0 L):FlatT t n:=fun {H enc W base held fuel cs x} h=>by
 obtain ⟨xs,k,_,rfl,hl,hxl,hall⟩:=DataW.trod_struct ht h
 rw[hc] at hl
 obtain ⟨zs,h1,h2,h3⟩:=flat_fields hxl hall L 0 0 hL hF
 rw[hn] at h1 h2
 rw[List.drop_zero,List.take_of_length_le (by omega)] at h2
 exact ⟨zs,h1,h2,h3⟩
theorem flat_vrs (ρ:List RB): ∀zs:List Int,VRs ρ (zs.map (AVal.int .i64)) (zs.map (Value.int .i64))
 | []=>by simp[VRs]
 |z::zs=>by simp only[List.map_cons,VRs,VR];exact ⟨_,_,rfl,rfl,flat_vrs ρ zs⟩
theorem agg_of {t:TypeId} {W:World} {r:Reach} {b0:Nat} {v:Value} {fs:Array Field} (ht: Tryd.prog.underlying t=some (.struct fs)) (hv:Value.okWide Tryd.prog W r b0 t v): ∃cs,v= .agg cs:=by
 simp only[Value.okWide,ht] at hv
 obtain ⟨cs,h1,_⟩:=hv
 exact ⟨cs,h1⟩
def flR (n:Nat) (zs:List Int) (_:AMem) (x:AVal):Prop:=x= .agg (zs.map (AVal.int .i64))∧zs.length=n∧ ∀z∈zs,i64 z
theorem opn_flat {t:TypeId} {n:Nat} (hf:FlatT t n) (ha: ∀{W:World} {r:Reach} {b0:Nat} {v:Value},Value.okWide Tryd.prog W r b0 t v→ ∃cs,v= .agg cs):Opn t (flR n):=fun {H enc W r b0 v d ps} _ hv hd _=>by
 obtain ⟨cs,rfl⟩:=ha hv
 obtain ⟨fuel,hd⟩:=hd
 obtain ⟨zs,h1,h2,h3⟩:=hf hd
 have h2:cs.toList=zs.map (Value.int .i64):=h2
 refine ⟨zs,fun ρ m hs hm=>⟨ρ,m,.agg (zs.map (AVal.int .i64)),List.prefix_refl _,List.prefix_refl _,hm,hs,?_,rfl,h1,h3⟩⟩
 simp only[VR]
 exact ⟨cs,rfl,by rw[h2];exact flat_vrs ρ zs⟩
noncomputable def fsOf (t:TypeId):Array Field:=match Tryd.prog.underlying t with|some (.struct fs)=>fs|_=> #[]
theorem underBD: Tryd.prog.underlying 83=some (.struct (fsOf 83)):=by kernel_rfl
theorem underDM: Tryd.prog.underlying 92=some (.struct (fsOf 92)):=by kernel_rfl
theorem underCT: Tryd.prog.underlying 66=some (.struct (fsOf 66)):=by kernel_rfl
theorem underDS: Tryd.prog.underlying 26=some (.struct (fsOf 26)):=by kernel_rfl
theorem underLDM: Tryd.prog.underlying 24=some (.slice 92):=by kernel_rfl
theorem flatBD:FlatT 83 2:=flat_struct (L:= [(2,1),(2,1)]) underBD (by kernel_rfl) rfl (by simp only[List.mem_cons,List.not_mem_nil,or_false,or_self,forall_eq];exact ⟨flat_int under2,cells2⟩) ⟨by kernel_rfl,by kernel_rfl,trivial⟩
theorem cellsBD: Tryd.prog.cellsOf 83=2:=by kernel_rfl
theorem flatDM:FlatT 92 3:=flat_struct (L:= [(83,2),(3,1)]) underDM (by kernel_rfl) rfl (fun p hp=>by
 simp only[List.mem_cons,List.not_mem_nil,or_false] at hp
 rcases hp with rfl|rfl
 ·exact ⟨flatBD,cellsBD⟩
 ·exact ⟨flat_int under3,cells3⟩) ⟨by kernel_rfl,by kernel_rfl,trivial⟩
theorem flatCT:FlatT 66 4:=flat_struct (L:= [(3,1),(2,1),(2,1),(2,1)]) underCT (by kernel_rfl) rfl (fun p hp=>by
 simp only[List.mem_cons,List.not_mem_nil,or_false] at hp
 rcases hp with rfl|rfl|rfl|rfl
 ·exact ⟨flat_int under3,cells3⟩
 all_goals exact ⟨flat_int under2,cells2⟩) ⟨by kernel_rfl,by kernel_rfl,by kernel_rfl,by kernel_rfl,trivial⟩
theorem opn_cut:Opn 66 (flR 4):=opn_flat flatCT (agg_of underCT)
end Go.Proofs.YtodhalcpnmddjaaDoor
namespace Go.Proofs.YtodhalcpnmddjaaDoor
open Go Ax Go.ChangeShapes Go.WideShapes Go.ChangeAt Go.RowKit
set_option maxRecDepth 100000
def BdW:Type:={b:Int×Int // i64 b.1∧i64 b.2}
def bdW (b:BdW):List AVal:=bdC b.1
instance:SCell 2 bdW:=⟨fun _=>rfl,fun _=>rfl⟩
def bsR (bs:List (Int×Int)) (m:AMem) (x:AVal):Prop:=SlF 2 bdC m x bs∧bs.length≤reachBytes∧ ∀b∈bs,i64 b.1∧i64 b.2
theorem bsR.mono (bs:List (Int×Int)) (m m':AMem) (x:AVal) (hm:m<+:m') (h:bsR bs m x):bsR bs m' x:=⟨h.1.mono hm,h.2⟩
theorem flat_map_val {α β γ:Type} (g:α→β) (f:β→List γ) (l:List α):(l.map g).flatMap f=l.flatMap fun x=>f (g x):=by
 induction l with
 |nil=>rfl
 |cons x l ih=>rw[List.map_cons,List.flatMap_cons,List.flatMap_cons,ih]
def ssR (ss:List Int) (m:AMem) (x:AVal):Prop:=RInts m x ss∧ss.length≤reachBytes
theorem ssR.mono (ss:List Int) (m m':AMem) (x:AVal) (hm:m<+:m') (h:ssR ss m x):ssR ss m' x:=⟨Sl.mono h.1 hm,h.2⟩
def DmW:Type:={x:Dm // i64 x.l∧i64 x.u∧i64 x.s}
def dmW (x:DmW):List AVal:=dmC x.1
instance:SCell 3 dmW:=⟨fun _=>rfl,fun _=>rfl⟩
def dsR (d:Dsc) (m:AMem) (x:AVal):Prop:=DsR m x d∧d.ds.length≤reachBytes∧i64 d.b∧ ∀y∈d.ds,i64 y.l∧i64 y.u∧i64 y.s
theorem dsR.mono (d:Dsc) (m m':AMem) (x:AVal) (hm:m<+:m') (h:dsR d m x):dsR d m' x:=⟨h.1.mono hm,h.2⟩
theorem f0D:((fsOf 26)[0]?).map (fun f=>(f.type,f.offset))=some (3,0):=by kernel_rfl
theorem f1D:((fsOf 26)[1]?).map (fun f=>(f.type,f.offset))=some (24,1):=by kernel_rfl
theorem szD:(fsOf 26).size=2:=by kernel_rfl
theorem cD: Tryd.prog.cellsOf 26=2:=by kernel_rfl
theorem cLD: Tryd.prog.cellsOf 24=1:=by kernel_rfl
theorem cellsDM: Tryd.prog.cellsOf 92=3:=by kernel_rfl
theorem opn_dsc:Opn 26 dsR:=fun {H enc W r b0 v d ps} hne hv hd hw=>by
 obtain ⟨fuel,hd⟩:=hd
 obtain ⟨cs,rfl⟩:=agg_of underDS hv
 obtain ⟨xs,n,_,hxe,hl,hxl,hall⟩:=DataW.trod_struct underDS hd
 rw[cD] at hl
 rw[szD] at hxl
 have hcl: ∃c0 c1,cs.toList= [c0,c1]:=by
  have h2:cs.toList.length=2:=hl
  match hcs:cs.toList,h2 with
  | [c0,c1],_=>exact ⟨c0,c1,rfl⟩
 obtain ⟨c0,c1,hcs⟩:=hcl
 have hvc:(Value.agg cs).cells=cs:=rfl
 obtain ⟨x0,x1,rfl⟩: ∃c0 c1,xs= [c0,c1]:=by
  match xs,hxl with
  | [c0,c1],_=>exact ⟨_,_,rfl⟩
 obtain ⟨g0,a0,t0,o0⟩:=field_of f0D
 obtain ⟨g1,a1,t1,o1⟩:=field_of f1D
 have e0:=hall 0 g0 a0
 have e1:=hall 1 g1 a1
 rw[t0,o0,cells3,hvc,hcs] at e0
 rw[t1,o1,cLD,hvc,hcs] at e1
 simp only[List.drop_zero,List.drop_succ_cons,List.take_succ_cons,List.take_zero,List.getElem?_cons_zero,List.getElem?_cons_succ] at e0 e1
 obtain ⟨z,hz,_,hzw⟩:=DataW.trod_int under3 e0
 simp only[List.cons.injEq,and_true] at hz
 subst hz
 obtain ⟨l,hent,hbd⟩:=enters_slF (enc:=enc) (f:=dmW) (by omega) underLDM cellsDM (of_decide_eq_true (by kernel_rfl)) (fun {fuel cs x} h=>by
  obtain ⟨zs,h1,rfl,h3⟩:=flatDM h
  obtain ⟨a,b,c,rfl⟩: ∃a b c,zs= [a,b,c]:=by
   match zs,h1 with
   | [a,b,c],_=>exact ⟨_,_,_,rfl⟩
  refine ⟨⟨⟨a,b,c⟩,h3 a (by simp),h3 b (by simp),h3 c (by simp)⟩,fun ρ m hs hm=>⟨ρ,m,_,List.prefix_refl _,List.prefix_refl _,hm,hs,flat_vrs ρ [a,b,c],rfl⟩⟩) (fun _ _ _ _=>hne) e1
 refine ⟨⟨z,l.map (·.1)⟩,fun ρ m hs hm=>?_⟩
 obtain ⟨ρ',m',xs,k1,k2,k3,k4,k5,s,rfl,k6⟩:=hent ρ m hs hm
 simp only[VRs] at k5
 obtain ⟨v1,_,e,k5,rfl⟩:=k5
 simp only[List.cons.injEq,and_true] at e
 subst e
 refine ⟨ρ',m',.agg [.int .i64 z,s],k1,k2,k3,k4,?_,⟨s,rfl,?_,fun b hb=>?_⟩,?_,i64_of hzw,fun y hy=>?_⟩
 ·simp only[VR,VRs]
  exact ⟨cs,rfl,_,_,hcs,rfl,_,_,rfl,k5,rfl⟩
 ·unfold SlF at k6 ⊢
  rw[List.length_map,flat_map_val]
  exact k6
 ·cases s<;>simp only[AVal.blk,reduceCtorEq,Option.some.injEq] at hb
  subst hb
  simp only[VR] at k5
  obtain ⟨a,_,_,_,h2,_⟩:=k5
  rw[←k4.len]
  exact (List.getElem?_eq_some_iff.1 h2).1
 ·rw[List.length_map]
  refine hbd _ ?_
  simp only[Prod.mk.injEq] at hxe
  obtain ⟨rfl,rfl⟩:=hxe
  have:=weights_parts (i:=1) underDS a1 (y:=x1) (by simp) hw
  rw[t1] at this
  exact this
 ·obtain ⟨y,_,rfl⟩:=List.mem_map.1 hy
  exact y.2
end Go.Proofs.YtodhalcpnmddjaaDoor
namespace Go.Proofs.YtodhalcpnmddjaaDoor
open Go Ax Go.ChangeShapes Go.WideShapes Go.ChangeAt Go.RowKit
set_option maxRecDepth 100000
def litsOf:DataW Unit→Array Value
 | .agg ds=>(ds.map fun| .lit l=>l.value|_=> .bool false).toArray
 |_=> #[]
noncomputable def setCells (a:Array Value):Obj→Obj
 | .cells _ t frozen=> .cells a t frozen
 |o=>o
noncomputable def laidWorld (os:Os):World:=
 {World.holding Tryd.prog os ⟨#[],#[],[]⟩ with heap:=((((World.holding Tryd.prog os ⟨#[],#[],[]⟩).heap.modify 0 (setCells (litsOf Rows.laid_internal_strconv_uint64pow10))).modify 2 (setCells (litsOf Rows.laid_math_bits_deBruijn32tab))).modify 3 (setCells (litsOf Rows.laid_math_bits_deBruijn64tab)))}
end Go.Proofs.YtodhalcpnmddjaaDoor
namespace Go.Proofs.YtodhalcpnmddjaaDoor
open Go Ax Go.ChangeShapes Go.WideShapes Go.ChangeAt Go.RowKit
set_option maxRecDepth 100000
end Go.Proofs.YtodhalcpnmddjaaDoor
