/- Layer 22's laws.  Conditions: none beyond those stated. -/
import Derived.Orders
import Derived.Laws.Sem
import Derived.Laws.World
import Derived.Below
import Derived.Laws.Entries
import GoSem.Extern.Table
import Derived.Laws.StructEq
import Derived.Lib.Builder
import Derived.Lib.UnsafeStr
import Derived.KernelRfl
import Derived.Laws.Slices
import Derived.MapKept
import Derived.Laws.BytesString
import Derived.Tactics
import Derived.TacticsIn
import Derived.OrdersIn
set_option linter.unusedSimpArgs false
set_option linter.unusedVariables false
set_option linter.unusedSectionVars false
namespace Go.Proofs.YtodhalcpnmddjaaDoor.Ax
open Go
inductive AVal where
 |undef
 |bool (b:Bool)
 |int (k:IntKind) (n:Int)
 |str (s:ByteArray)
 |nilptr
 |ptr (b o:Nat)
 |gptr (g o:Nat)
 |nilslice
 |slice (b o len cap:Nat) (gr:Option Nat)
 |nilmap
 |map (b:Nat)
 |nilfunc
 |func (fn:Fn) (first captured:List AVal)
 |niliface
 |iface (t:TypeId) (v:AVal)
 |agg (cs:List AVal)
 |tuple (vs:List AVal)
 deriving Inhabited
structure RB where
 block:Nat
 off:Nat
 esz:Nat:=0
 ext:Nat:=0
 deriving Inhabited
mutual
def VR (ρ:List RB):AVal→Value→Prop
 | .undef,_=>True
 | .bool b,v=>v= .bool b
 | .int k n,v=>v= .int k n
 | .str s,v=>v= .string s
 | .nilptr,v=>v= .pointer none
 | .ptr b o,v=> ∃a,ρ[b]? =some a∧v= .pointer (some ⟨a.block,a.off+o,none⟩)
 | .gptr g o,v=>v= .pointer (some ⟨g,o,none⟩)
 | .nilslice,v=>v= .slice none 0 0
 | .slice b o len cap gr,v=> ∃a a' c,v= .slice (some a') len c∧ρ[b]? =some a∧(c≠0→a'=⟨a.block,a.off+o,none⟩)∧len≤c∧(gr=none→c=cap)∧cap≤c∧(∀e,gr=some e→a.esz=e∧(c≠0→o+c*e≤a.ext))
 | .nilmap,v=>v= .map none
 | .map b,v=> ∃a,ρ[b]? =some a∧v= .map (some a.block)
 | .nilfunc,v=>v= .nilFunc
 | .func fn fs cs,v=> ∃fs' cs',v= .func fn fs' cs'∧VRs ρ fs fs'.toList∧VRs ρ cs cs'.toList
 | .niliface,v=>v= .nilIface
 | .iface t x,v=> ∃x',v= .iface t x'∧VR ρ x x'
 | .agg cs,v=> ∃cs',v= .agg cs'∧VRs ρ cs cs'.toList
 | .tuple cs,v=> ∃cs',v= .tuple cs'∧VRs ρ cs cs'.toList
def VRs (ρ:List RB):List AVal→List Value→Prop
 | [],vs=>vs= []
 |x::xs,vs=> ∃v vs',vs=v::vs'∧VR ρ x v∧VRs ρ xs vs'
end
theorem VRs.length {ρ:List RB}: ∀{xs:List AVal} {vs:List Value},VRs ρ xs vs→vs.length=xs.length
 | [],vs,h=>by simp only[VRs] at h;subst h;rfl
 |x::xs,vs,h=>by
  simp only[VRs] at h
  obtain ⟨v,vs',rfl,_,h⟩:=h
  simp[VRs.length h]
theorem VRs.get {ρ:List RB}: ∀{xs:List AVal} {vs:List Value},VRs ρ xs vs→ ∀(i:Nat) x,xs[i]? =some x→ ∃v,vs[i]? =some v∧VR ρ x v
 | [],_,_,i,x,hx=>by simp at hx
 |y::xs,vs,h,i,x,hx=>by
  simp only[VRs] at h
  obtain ⟨v,vs',rfl,hv,h⟩:=h
  cases i with
  |zero=>simp only[List.getElem?_cons_zero,Option.some.injEq] at hx;subst hx;exact ⟨v,by simp,hv⟩
  |succ i=>simpa using VRs.get h i x (by simpa using hx)
theorem VRs.of_get {ρ:List RB}: ∀{xs:List AVal} {vs:List Value},vs.length=xs.length→(∀(i:Nat) x v,xs[i]? =some x→vs[i]? =some v→VR ρ x v)→VRs ρ xs vs
 | [],vs,hl,_=>by simp only[VRs];exact List.eq_nil_of_length_eq_zero (by simpa using hl)
 |y::xs,vs,hl,h=>by
  simp only[VRs]
  cases vs with
  |nil=>simp at hl
  |cons v vs=>exact ⟨v,vs,rfl,h 0 y v (by simp) (by simp),VRs.of_get (by simpa using hl) fun i x u hx hu=>h (i+1) x u (by simpa using hx) (by simpa using hu)⟩
theorem VRs.append {ρ:List RB}: ∀{xs ys:List AVal} {vs us:List Value},VRs ρ xs vs→VRs ρ ys us→VRs ρ (xs++ys) (vs++us)
 | [],_,_,_,h,k=>by simp only[VRs] at h;subst h;simpa using k
 |x::xs,ys,vs,us,h,k=>by
  simp only[VRs] at h
  obtain ⟨v,vs',rfl,hv,h⟩:=h
  simp only[List.cons_append,VRs]
  exact ⟨v,vs'++us,rfl,hv,VRs.append h k⟩
theorem prefix_get {α:Type} {l l':List α} (hp:l<+:l') {i:Nat} {x:α} (h:l[i]? =some x):l'[i]? =some x:=by
 obtain ⟨t,rfl⟩:=hp
 rw[List.getElem?_append_left]
 ·exact h
 ·exact (List.getElem?_eq_some_iff.1 h).1
mutual
theorem VR.mono {ρ ρ':List RB} (hp:ρ<+:ρ'): ∀(x:AVal) (v:Value),VR ρ x v→VR ρ' x v
 | .undef,_,_=>by simp[VR]
 | .bool _,_,h=>by simpa[VR] using h
 | .int _ _,_,h=>by simpa[VR] using h
 | .str _,_,h=>by simpa[VR] using h
 | .nilptr,_,h=>by simpa[VR] using h
 | .ptr b o,v,h=>by
  simp only[VR] at h ⊢
  obtain ⟨a,ha,h⟩:=h
  exact ⟨a,prefix_get hp ha,h⟩
 | .gptr _ _,_,h=>by simpa[VR] using h
 | .nilslice,_,h=>by simpa[VR] using h
 | .slice b o l c ex,v,h=>by
  simp only[VR] at h ⊢
  obtain ⟨a,a',c',hv,ha,h⟩:=h
  exact ⟨a,a',c',hv,prefix_get hp ha,h⟩
 | .nilmap,_,h=>by simpa[VR] using h
 | .map b,v,h=>by
  simp only[VR] at h ⊢
  obtain ⟨a,ha,h⟩:=h
  exact ⟨a,prefix_get hp ha,h⟩
 | .nilfunc,_,h=>by simpa[VR] using h
 | .func fn fs cs,v,h=>by
  simp only[VR] at h ⊢
  obtain ⟨fs',cs',hv,h1,h2⟩:=h
  exact ⟨fs',cs',hv,VRs.mono hp fs _ h1,VRs.mono hp cs _ h2⟩
 | .niliface,_,h=>by simpa[VR] using h
 | .iface t x,v,h=>by
  simp only[VR] at h ⊢
  obtain ⟨x',hv,h1⟩:=h
  exact ⟨x',hv,VR.mono hp x _ h1⟩
 | .agg cs,v,h=>by
  simp only[VR] at h ⊢
  obtain ⟨x',hv,h1⟩:=h
  exact ⟨x',hv,VRs.mono hp cs _ h1⟩
 | .tuple cs,v,h=>by
  simp only[VR] at h ⊢
  obtain ⟨x',hv,h1⟩:=h
  exact ⟨x',hv,VRs.mono hp cs _ h1⟩
theorem VRs.mono {ρ ρ':List RB} (hp:ρ<+:ρ'): ∀(xs:List AVal) (vs:List Value),VRs ρ xs vs→VRs ρ' xs vs
 | [],_,h=>by simpa[VRs] using h
 |x::xs,vs,h=>by
  simp only[VRs] at h ⊢
  obtain ⟨v,vs',rfl,h1,h2⟩:=h
  exact ⟨v,vs',rfl,VR.mono hp x v h1,VRs.mono hp xs vs' h2⟩
end
def AVal.cells:AVal→List AVal
 | .agg cs=>cs
 |x=> [x]
def AVal.one:AVal→Bool
 | .undef| .agg _| .tuple _=>false
 |_=>true
theorem VR.cells {ρ:List RB} {x:AVal} {v:Value} (hx: ∀y,x≠ .undef→x=y→True) (hu:x≠ .undef) (h:VR ρ x v):VRs ρ x.cells v.cells.toList:=by
 cases x with
 |undef=>exact absurd rfl hu
 |agg cs=>
  simp only[VR] at h
  obtain ⟨cs',rfl,h⟩:=h
  simpa[AVal.cells,Value.cells] using h
 |_=>
  have hc:v.cells.toList= [v]:=by
   simp only[VR] at h
   first
    |(subst h;rfl)
    |(obtain ⟨_,_,rfl⟩:=h;rfl)
    |(obtain ⟨_,rfl,_⟩:=h;rfl)
    |(obtain ⟨_,_,_,rfl,_⟩:=h;rfl)
    |(obtain ⟨_,_,rfl,_⟩:=h;rfl)
  rw[hc]
  simp only[AVal.cells,VRs]
  exact ⟨v,[],rfl,h,rfl⟩
theorem VR.one {ρ:List RB} {x:AVal} {v:Value} (hu:x.one=true) (h:VR ρ x v):v.oneCell'=true:=by
 cases x<;>simp only[AVal.one,Bool.false_eq_true] at hu<;>simp only[VR] at h
 all_goals first
  |(subst h;rfl)
  |(obtain ⟨_,_,rfl⟩:=h;rfl)
  |(obtain ⟨_,rfl,_⟩:=h;rfl)
  |(obtain ⟨_,_,_,rfl,_⟩:=h;rfl)
  |(obtain ⟨_,_,rfl,_⟩:=h;rfl)
def ofCell:Value→Option AVal
 | .bool b=>some (.bool b)
 | .int k n=>some (.int k n)
 | .string s=>some (.str s)
 | .pointer none=>some .nilptr
 | .slice none 0 0=>some .nilslice
 | .map none=>some .nilmap
 | .nilFunc=>some .nilfunc
 | .nilIface=>some .niliface
 |_=>none
theorem ofCell_VR {v:Value} {x:AVal} (h:ofCell v=some x) (ρ:List RB):VR ρ x v:=by
 unfold ofCell at h
 split at h<;>simp only[Option.some.injEq,reduceCtorEq] at h<;>subst h<;>simp[VR]
def ofCells:List Value→Option (List AVal)
 | []=>some []
 |v::vs=>match ofCell v,ofCells vs with
  |some x,some xs=>some (x::xs)
  |_,_=>none
theorem ofCells_VR: ∀{vs:List Value} {xs:List AVal},ofCells vs=some xs→ ∀(ρ:List RB),VRs ρ xs vs
 | [],xs,h,ρ=>by simp only[ofCells,Option.some.injEq] at h;subst h;simp[VRs]
 |v::vs,xs,h,ρ=>by
  simp only[ofCells] at h
  split at h
  ·rename_i x xs' hx hxs
   simp only[Option.some.injEq] at h
   subst h
   simp only[VRs]
   exact ⟨v,vs,rfl,ofCell_VR hx ρ,ofCells_VR hxs ρ⟩
  ·simp at h
def ofValue:Value→Option AVal
 | .agg cs=>(ofCells cs.toList).map .agg
 |v=>ofCell v
theorem ofValue_VR {v:Value} {x:AVal} (h:ofValue v=some x) (ρ:List RB):VR ρ x v:=by
 unfold ofValue at h
 split at h
 ·simp only[Option.map_eq_some_iff] at h
  obtain ⟨xs,hxs,rfl⟩:=h
  simp only[VR]
  exact ⟨_,rfl,ofCells_VR hxs ρ⟩
 ·exact ofCell_VR h ρ
def globs:List (Nat×List AVal):= [(0, [.int .u64 1, .int .u64 10, .int .u64 100, .int .u64 1000, .int .u64 10000, .int .u64 100000, .int .u64 1000000, .int .u64 10000000, .int .u64 100000000, .int .u64 1000000000, .int .u64 10000000000, .int .u64 100000000000, .int .u64 1000000000000, .int .u64 10000000000000, .int .u64 100000000000000, .int .u64 1000000000000000, .int .u64 10000000000000000, .int .u64 100000000000000000, .int .u64 1000000000000000000, .int .u64 10000000000000000000])]
def gcells (g:Nat):Option (List AVal):=(globs.find? fun p=>p.1==g).map (·.2)
abbrev AFrame:=List AVal
inductive Arg where
 |t (n:Nat)
 |c (x:AVal)
 deriving Inhabited
def AFrame.ev (a:AFrame):Arg→AVal
 | .t n=>a.getD n .undef
 | .c x=>x
def cArg:Operand→Option Arg
 | .tmp t=>some (.t t)
 | .const v=>(ofValue v).map .c
 | .func f=>some (.c (.func (.func f) [] []))
 | .global g=>some (.c (.gptr g 0))
def AFrame.putO (a:AFrame) (d:Option Nat) (x:AVal):AFrame:=
 match d with
 |some d=>a.set d x
 |none=>a
structure FR (ρ:List RB) (a:AFrame) (tmps:Array Value):Prop where
 len:a.length=tmps.size
 rel: ∀(i:Nat) (x:AVal),a[i]? =some x→ ∃v,tmps[i]? =some v∧VR ρ x v
theorem FR.mono {ρ ρ':List RB} {a:AFrame} {tmps:Array Value} (h:FR ρ a tmps) (hp:ρ<+:ρ'):FR ρ' a tmps:=
 ⟨h.len,fun i x hx=>let ⟨v,hv,hr⟩:=h.rel i x hx;⟨v,hv,VR.mono hp x v hr⟩⟩
theorem FR.put {ρ:List RB} {a:AFrame} {act:Act} (h:FR ρ a act.tmps) (d:Option Nat) {x:AVal} {v:Value} (hv:VR ρ x v):FR ρ (a.putO d x) (act.put d v).tmps:=by
 cases d with
 |none=>exact h
 |some d=>
  refine ⟨by simp[AFrame.putO,Act.put,h.len],fun i y hy=>?_⟩
  simp only[AFrame.putO,List.getElem?_set] at hy
  simp only[Act.put,Array.getElem?_setIfInBounds]
  by_cases hd:d=i
  ·subst hd
   simp only[if_true] at hy ⊢
   have hl:d<a.length:=by
    rcases Nat.lt_or_ge d a.length with hl|hl
    ·exact hl
    ·rw[if_neg (by omega)] at hy;simp at hy
   rw[if_pos hl] at hy
   have:d<act.tmps.size:=h.len▸hl
   simp only[Option.some.injEq] at hy
   subst hy
   exact ⟨v,by simp[this],hv⟩
  ·simp only[hd,if_false] at hy ⊢
   exact h.rel i y hy
theorem FR.ev {ρ:List RB} {a:AFrame} {act:Act} (h:FR ρ a act.tmps) {x:Operand} {y:Arg} (hx:cArg x=some y):VR ρ (a.ev y) (act.eval x):=by
 cases x with
 |tmp t=>
  simp only[cArg,Option.some.injEq] at hx
  subst hx
  simp only[AFrame.ev,Act.eval]
  cases ha:a[t]? with
  |none=>simp[List.getD,ha,VR]
  |some x=>
   obtain ⟨v,hv,hr⟩:=h.rel t x ha
   simp only[List.getD,ha,Option.getD_some,Array.getD_eq_getD_getElem?,hv]
   exact hr
 |const v=>
  simp only[cArg,Option.map_eq_some_iff] at hx
  obtain ⟨u,hu,rfl⟩:=hx
  exact ofValue_VR hu ρ
 |global g=>simp only[cArg,Option.some.injEq] at hx;subst hx;simp[AFrame.ev,VR,Act.eval]
 |func f=>
  simp only[cArg,Option.some.injEq] at hx
  subst hx
  simp[AFrame.ev,Act.eval,VR,VRs]
def AFrame.le:AFrame→AFrame→Prop
 | [],[]=>True
 |x::xs,y::ys=>(x= .undef∨x=y)∧AFrame.le xs ys
 |_,_=>False
theorem AFrame.le.fr {ρ:List RB}: ∀{a b:AFrame} {vs:List Value},AFrame.le a b→vs.length=b.length→(∀(i:Nat) x,b[i]? =some x→ ∃v,vs[i]? =some v∧VR ρ x v)→
  a.length=vs.length∧ ∀(i:Nat) x,a[i]? =some x→ ∃v,vs[i]? =some v∧VR ρ x v
 | [],[],vs,_,hl,_=>⟨by simpa using hl.symm,by simp⟩
 |x::xs,y::ys,vs,h,hl,hr=>by
  simp only[AFrame.le] at h
  cases vs with
  |nil=>simp at hl
  |cons v vs=>
   obtain ⟨h1,h2⟩:=AFrame.le.fr (vs:=vs) h.2 (by simpa using hl) (fun i x hx=>by simpa using hr (i+1) x (by simpa using hx))
   refine ⟨by simp[h1],fun i z hz=>?_⟩
   cases i with
   |zero=>
    simp only[List.getElem?_cons_zero,Option.some.injEq] at hz
    subst hz
    rcases h.1 with rfl|rfl
    ·exact ⟨v,by simp,by simp[VR]⟩
    ·obtain ⟨u,hu,hv⟩:=hr 0 x (by simp)
     exact ⟨u,hu,hv⟩
   |succ i=>simpa using h2 i z (by simpa using hz)
 | [],_::_,_,h,_,_=>by simp[AFrame.le] at h
 |_::_,[],_,h,_,_=>by simp[AFrame.le] at h
theorem FR.weaken {ρ:List RB} {a b:AFrame} {tmps:Array Value} (h:FR ρ b tmps) (hl:a.le b):FR ρ a tmps:=by
 obtain ⟨h1,h2⟩:=AFrame.le.fr (ρ:=ρ) (vs:=tmps.toList) hl (by simp[h.len]) (fun i x hx=>by
  obtain ⟨v,hv,hr⟩:=h.rel i x hx
  exact ⟨v,by simpa using hv,hr⟩)
 exact ⟨by simpa using h1,fun i x hx=>by
  obtain ⟨v,hv,hr⟩:=h2 i x hx
  exact ⟨v,by simpa using hv,hr⟩⟩
theorem AFrame.le_refl: ∀(a:AFrame),a.le a
 | []=>trivial
 |_::xs=>⟨.inr rfl,AFrame.le_refl xs⟩
end Go.Proofs.YtodhalcpnmddjaaDoor.Ax
namespace Go.Proofs.YtodhalcpnmddjaaDoor.Ax
open Go
inductive ABlk where
 |dead
 |ro (cells:List AVal)
 |own (cells:List AVal) (ty:TypeId) (grown:Option Nat)
 |mp (es:List (Int×AVal))
 |obj (l:Nat) (o:Obj) (vs:List AVal) (us:List Value)
 deriving Inhabited
def ABlk.isOwn:ABlk→Bool
 | .own .. =>true
 | .mp _=>true
 | .obj .. =>true
 |_=>false
def ABlk.live:ABlk→Bool
 | .dead=>false
 |_=>true
def ABlk.cells:ABlk→Option (List AVal)
 | .dead=>none
 | .ro cs=>some cs
 | .own cs _ _=>some cs
 | .mp _=>none
 | .obj .. =>none
abbrev AMem:=List ABlk
def at_ (a:RB) (o:Nat):Addr:=⟨a.block,a.off+o,none⟩
def MapL (ρ:List RB):List (Int×AVal)→List MapEntry→Prop
 | [],l=>l= []
 |(k,x)::es,l=> ∃e l',l=e::l'∧e.key= .int .i64 k∧VR ρ x e.val∧MapL ρ es l'
theorem MapL.mono {ρ ρ':List RB} (hp:ρ<+:ρ'): ∀{es:List (Int×AVal)} {l:List MapEntry},MapL ρ es l→MapL ρ' es l
 | [],_,h=>h
 |(_,_)::_,_,⟨e,l',h1,h2,h3,h4⟩=>⟨e,l',h1,h2,VR.mono hp _ _ h3,h4.mono hp⟩
def BlkOK (ρ:List RB) (w:World) (a:RB):ABlk→Prop
 | .dead=>True
 | .ro cs=> ∀(i:Nat) x,cs[i]? =some x→ ∃v,w.cell? (at_ a i)=some v∧VR ρ x v
 | .own cs ty gr=> ∃arr,w.heap[a.block]? =some (.cells arr ty (0,0))∧a.off+cs.length≤arr.size∧(gr=none→a.off+cs.length=arr.size∧a.off=0)∧(∀e,gr=some e→a.esz=e∧a.off+a.ext=arr.size)∧
   ∀(i:Nat) x,cs[i]? =some x→ ∃v,arr[a.off+i]? =some v∧VR ρ x v
 | .mp es=> ∃arr clock,w.heap[a.block]? =some (.map arr clock)∧MapL ρ es arr.toList
 | .obj l o vs us=>a.block=l∧w.heap[a.block]? =some o∧VRs ρ vs us
structure Sim (ρ:List RB) (m:AMem) (w:World):Prop where
 len:ρ.length=m.length
 ok: ∀(b:Nat) blk a,m[b]? =some blk→ρ[b]? =some a→BlkOK ρ w a blk
 sep: ∀(b b':Nat) blk blk' a a',b≠b'→m[b]? =some blk→m[b']? =some blk'→ρ[b]? =some a→ρ[b']? =some a'→blk.isOwn=true→blk'.live=true→a.block≠a'.block
 bound: ∀(b:Nat) a,ρ[b]? =some a→a.block<w.heap.size
def Owned (ρ:List RB) (m:AMem) (r:Nat):Prop:= ∃(b:Nat) (blk:ABlk) (a:RB),m[b]? =some blk∧blk.isOwn=true∧ρ[b]? =some a∧a.block=r
structure Evol (ρ:List RB) (m:AMem) (w:World) (ρ':List RB) (m':AMem) (w':World):Prop where
 pre:ρ<+:ρ'
 os:w'.os=w.os
 tape:w'.tape=w.tape
 output:w'.output=w.output
 size:w.heap.size≤w'.heap.size
 frame: ∀r,r<w.heap.size→ ¬Owned ρ m r→w'.heap[r]? =w.heap[r]?
 own: ∀r,Owned ρ' m' r→w.heap.size≤r∨Owned ρ m r
theorem Evol.refl (ρ:List RB) (m:AMem) (w:World):Evol ρ m w ρ m w:=⟨List.prefix_refl _,rfl,rfl,rfl,Nat.le_refl _,fun _ _ _=>rfl,fun _ h=> .inr h⟩
theorem Evol.trans {ρ:List RB} {m:AMem} {w:World} {ρ':List RB} {m':AMem} {w':World} {ρ'':List RB} {m'':AMem} {w'':World} (h:Evol ρ m w ρ' m' w') (k:Evol ρ' m' w' ρ'' m'' w''):Evol ρ m w ρ'' m'' w'':=
 ⟨h.pre.trans k.pre,k.os.trans h.os,k.tape.trans h.tape,k.output.trans h.output,Nat.le_trans h.size k.size,fun r hr hn=>by
  rw[k.frame r (Nat.lt_of_lt_of_le hr h.size),h.frame r hr hn]
  intro ho
  rcases h.own r ho with h1|h1
  ·omega
  ·exact hn h1,fun r hr=>by
  rcases k.own r hr with h1|h1
  ·exact .inl (Nat.le_trans h.size h1)
  ·exact h.own r h1⟩
structure SameHeap (w w':World):Prop where
 heap:w'.heap=w.heap
 os:w'.os=w.os
 tape:w'.tape=w.tape
 output:w'.output=w.output
theorem BlkOK.same {ρ:List RB} {w w':World} {a:RB} {blk:ABlk} (h:w'.heap=w.heap) (k:BlkOK ρ w a blk):BlkOK ρ w' a blk:=by
 cases blk with
 |dead=>trivial
 |ro cs=>intro i x hx;obtain ⟨v,hv,hr⟩:=k i x hx;exact ⟨v,by unfold World.cell? at hv ⊢;rw[h];exact hv,hr⟩
 |own cs ty gr=>obtain ⟨arr,h1,h2⟩:=k;exact ⟨arr,by rw[h];exact h1,h2⟩
 |mp es=>obtain ⟨arr,c,h1,h2⟩:=k;exact ⟨arr,c,by rw[h];exact h1,h2⟩
 |obj l o vs us=>obtain ⟨h1,h2,h3⟩:=k;exact ⟨h1,by rw[h];exact h2,h3⟩
theorem Sim.same {ρ:List RB} {m:AMem} {w w':World} (h:SameHeap w w') (k:Sim ρ m w):Sim ρ m w':=
 ⟨k.len,fun b blk a hb ha=>(k.ok b blk a hb ha).same h.heap,k.sep,fun b a ha=>by rw[h.heap];exact k.bound b a ha⟩
theorem Evol.same {ρ:List RB} {m:AMem} {w w':World} (h:SameHeap w w'):Evol ρ m w ρ m w':=
 ⟨List.prefix_refl _,h.os,h.tape,h.output,by rw[h.heap];exact Nat.le_refl _,fun _ _ _=>by rw[h.heap],fun _ h=> .inr h⟩
def Glob (ρ:List RB) (m:AMem) (w:World):Prop:= ∀p∈globs,p.1<w.heap.size∧ ¬Owned ρ m p.1∧(∀(i:Nat) x,p.2[i]? =some x→ ∃v,w.cell? ⟨p.1,i,none⟩=some v∧VR [] x v)∧ ∃arr t fz,w.heap[p.1]? =some (.cells arr t fz)∧arr.size=p.2.length
theorem Glob.evol {ρ ρ':List RB} {m m':AMem} {w w':World} (h:Glob ρ m w) (e:Evol ρ m w ρ' m' w'):Glob ρ' m' w':=fun p hp=>by
 obtain ⟨h1,h2,h3,arr,t,fz,h4,h5⟩:=h p hp
 refine ⟨Nat.lt_of_lt_of_le h1 e.size,fun ho=>?_,fun i x hx=>?_,arr,t,fz,by rw[e.frame _ h1 h2];exact h4,h5⟩
 ·rcases e.own _ ho with h|h
  ·omega
  ·exact h2 h
 ·obtain ⟨v,hv,hr⟩:=h3 i x hx
  exact ⟨v,by unfold World.cell? at hv ⊢;simp only at hv ⊢;rw[e.frame _ h1 h2];exact hv,hr⟩
theorem Glob.get {ρ:List RB} {m:AMem} {w:World} (h:Glob ρ m w) {g:Nat} {cs:List AVal} {i:Nat} {x:AVal} (hg:gcells g=some cs) (hx:cs[i]? =some x): ∃v,w.cell? ⟨g,i,none⟩=some v∧VR ρ x v:=by
 unfold gcells at hg
 simp only[Option.map_eq_some_iff] at hg
 obtain ⟨p,hp,rfl⟩:=hg
 have hm:=List.mem_of_find?_eq_some hp
 have he:=List.find?_some hp
 simp only[beq_iff_eq] at he
 subst he
 obtain ⟨v,hv,hr⟩:=(h p hm).2.2.1 i x hx
 exact ⟨v,hv,VR.mono (List.nil_prefix) x v hr⟩
theorem BlkOK.mono {ρ ρ':List RB} (hp:ρ<+:ρ') {w:World} {a:RB} {blk:ABlk} (k:BlkOK ρ w a blk):BlkOK ρ' w a blk:=by
 cases blk with
 |dead=>trivial
 |ro cs=>intro i x hx;obtain ⟨v,hv,hr⟩:=k i x hx;exact ⟨v,hv,VR.mono hp x v hr⟩
 |own cs ty gr=>
  obtain ⟨arr,h1,h2,h3,h3',h4⟩:=k
  exact ⟨arr,h1,h2,h3,h3',fun i x hx=>by obtain ⟨v,hv,hr⟩:=h4 i x hx;exact ⟨v,hv,VR.mono hp x v hr⟩⟩
 |mp es=>obtain ⟨arr,c,h1,h2⟩:=k;exact ⟨arr,c,h1,h2.mono hp⟩
 |obj l o vs us=>obtain ⟨h1,h2,h3⟩:=k;exact ⟨h1,h2,VRs.mono hp _ _ h3⟩
theorem BlkOK.heap {ρ:List RB} {w w':World} {a:RB} {blk:ABlk} (h:w'.heap[a.block]? =w.heap[a.block]?) (k:BlkOK ρ w a blk):BlkOK ρ w' a blk:=by
 cases blk with
 |dead=>trivial
 |ro cs=>
  intro i x hx
  obtain ⟨v,hv,hr⟩:=k i x hx
  refine ⟨v,?_,hr⟩
  unfold World.cell? at hv ⊢
  simp only[at_] at hv ⊢
  rw[h];exact hv
 |own cs ty gr=>obtain ⟨arr,h1,h2⟩:=k;exact ⟨arr,by rw[h];exact h1,h2⟩
 |mp es=>obtain ⟨arr,c,h1,h2⟩:=k;exact ⟨arr,c,by rw[h];exact h1,h2⟩
 |obj l o vs us=>obtain ⟨h1,h2,h3⟩:=k;exact ⟨h1,by rw[h];exact h2,h3⟩
theorem Sim.alloc {ρ:List RB} {m:AMem} {w:World} (h:Sim ρ m w) {cs:List AVal} {ty:TypeId} {arr:Array Value} {gr:Option Nat} {ez ext:Nat}
  (hl:cs.length≤arr.size) (hg:gr=none→cs.length=arr.size) (hg': ∀e,gr=some e→ez=e∧ext=arr.size) (hc: ∀(i:Nat) x,cs[i]? =some x→ ∃v,arr[i]? =some v∧VR ρ x v) (o0:Nat):
  Sim (ρ++ [⟨w.heap.size,0,ez,ext⟩]) (m++ [.own cs ty gr]) {w with heap:=w.heap.push (.cells arr ty),drawn:=w.drawn+o0}∧
  Evol ρ m w (ρ++ [⟨w.heap.size,0,ez,ext⟩]) (m++ [.own cs ty gr]) {w with heap:=w.heap.push (.cells arr ty),drawn:=w.drawn+o0}:=by
 have hp:ρ<+:ρ++ [(⟨w.heap.size,0,ez,ext⟩:RB)]:=List.prefix_append _ _
 have hold: ∀r,r<w.heap.size→(w.heap.push (.cells arr ty))[r]? =w.heap[r]? :=fun r hr=>by rw[Array.getElem?_push,if_neg (by omega)]
 have hsplit: ∀(b:Nat) blk a,(m++ [ABlk.own cs ty gr])[b]? =some blk→(ρ++ [(⟨w.heap.size,0,ez,ext⟩:RB)])[b]? =some a→
   (m[b]? =some blk∧ρ[b]? =some a∧a.block<w.heap.size∧b<m.length)∨(b=m.length∧blk= .own cs ty gr∧a=⟨w.heap.size,0,ez,ext⟩):=by
  intro b blk a hb ha
  rcases Nat.lt_or_ge b m.length with hlt|hge
  ·rw[List.getElem?_append_left hlt] at hb
   rw[List.getElem?_append_left (by rw[h.len];exact hlt)] at ha
   exact .inl ⟨hb,ha,h.bound b a ha,hlt⟩
  ·rw[List.getElem?_append_right hge] at hb
   rw[List.getElem?_append_right (by rw[h.len];exact hge),h.len] at ha
   cases hk:b-m.length with
   |zero=>
    rw[hk] at hb ha
    simp only[List.getElem?_cons_zero,Option.some.injEq] at hb ha
    exact .inr ⟨by omega,hb.symm,ha.symm⟩
   |succ k=>rw[hk] at hb;simp at hb
 refine ⟨⟨by simp[h.len],?_,?_,?_⟩,⟨hp,rfl,rfl,rfl,by simp,fun r hr _=>hold r hr,?_⟩⟩
 ·intro b blk a hb ha
  rcases hsplit b blk a hb ha with ⟨hb,ha,hlt,_⟩|⟨_,rfl,rfl⟩
  ·exact ((h.ok b blk a hb ha).mono hp).heap (hold _ hlt)
  ·refine ⟨arr,by simp,by simpa using hl,by simpa using hg,by simpa using hg',fun i x hx=>?_⟩
   obtain ⟨v,hv,hr⟩:=hc i x hx
   exact ⟨v,by simpa using hv,VR.mono hp x v hr⟩
 ·intro b b' blk blk' a a' hne hb hb' ha ha' ho hlv
  rcases hsplit b blk a hb ha with ⟨hb,ha,hlt,_⟩|⟨h1,rfl,rfl⟩<;>rcases hsplit b' blk' a' hb' ha' with ⟨hb',ha',hlt',_⟩|⟨h1',rfl,rfl⟩
  ·exact h.sep b b' blk blk' a a' hne hb hb' ha ha' ho hlv
  ·simp only;omega
  ·simp only;omega
  ·omega
 ·intro b a ha
  simp only[Array.size_push]
  rcases Nat.lt_or_ge b ρ.length with hlt|hge
  ·rw[List.getElem?_append_left hlt] at ha
   have:=h.bound b a ha
   omega
  ·rw[List.getElem?_append_right hge] at ha
   cases hk:b-ρ.length with
   |zero=>rw[hk] at ha;simp only[List.getElem?_cons_zero,Option.some.injEq] at ha;subst ha;simp only;omega
   |succ k=>rw[hk] at ha;simp at ha
 ·rintro r ⟨b,blk,a,hb,ho,ha,rfl⟩
  rcases hsplit b blk a hb ha with ⟨hb,ha,hlt,_⟩|⟨_,rfl,rfl⟩
  ·exact .inr ⟨b,blk,a,hb,ho,ha,rfl⟩
  ·exact .inl (Nat.le_refl _)
theorem Sim.read {ρ:List RB} {m:AMem} {w:World} (h:Sim ρ m w) {b:Nat} {blk:ABlk} {cs:List AVal} (hb:m[b]? =some blk) (hc:blk.cells=some cs) {a:RB} (ha:ρ[b]? =some a) {i:Nat} {x:AVal} (hx:cs[i]? =some x):
  ∃v,w.cell? (at_ a i)=some v∧VR ρ x v:=by
 have hok:=h.ok b blk a hb ha
 cases blk with
 |dead=>simp[ABlk.cells] at hc
 |ro cs'=>simp only[ABlk.cells,Option.some.injEq] at hc;subst hc;exact hok i x hx
 |own cs' ty gr=>
  simp only[ABlk.cells,Option.some.injEq] at hc
  subst hc
  obtain ⟨arr,h1,_,_,_,h4⟩:=hok
  obtain ⟨v,hv,hr⟩:=h4 i x hx
  exact ⟨v,by unfold World.cell?;simp only[at_];rw[h1];simpa using hv,hr⟩
 |mp es=>simp[ABlk.cells] at hc
 |obj l o vs us=>simp[ABlk.cells] at hc
theorem Sim.write {ρ:List RB} {m:AMem} {w:World} (h:Sim ρ m w) {b:Nat} {cs:List AVal} {ty:TypeId} {gr:Option Nat} (hb:m[b]? =some (.own cs ty gr)) {a:RB} (ha:ρ[b]? =some a) {i:Nat} (hi:i<cs.length) {x:AVal} {v:Value} (hv:VR ρ x v):
  Sim ρ (m.set b (.own (cs.set i x) ty gr)) (w.setCell (at_ a i) v)∧Evol ρ m w ρ (m.set b (.own (cs.set i x) ty gr)) (w.setCell (at_ a i) v)∧(w.cell? (at_ a i)).isSome=true∧w.frozen? (at_ a i)=false:=by
 obtain ⟨arr,h1,h2,h3,h3',h4⟩:=h.ok b _ a hb ha
 have hbl:b<m.length:=(List.getElem?_eq_some_iff.1 hb).1
 have hlt:a.block<w.heap.size:=h.bound b a ha
 have hnew:(w.setCell (at_ a i) v).heap[a.block]? =some (.cells (arr.setIfInBounds (a.off+i) v) ty (0,0)):=by
  simp only[World.setCell,at_,Array.getElem?_modify,h1,if_true]
  rfl
 have hother: ∀r,r≠a.block→(w.setCell (at_ a i) v).heap[r]? =w.heap[r]? :=fun r hr=>by
  simp only[World.setCell,at_,Array.getElem?_modify]
  rw[if_neg (by omega)]
 have hget: ∀(b':Nat) blk,(m.set b (.own (cs.set i x) ty gr))[b']? =some blk→(b'=b∧blk= .own (cs.set i x) ty gr)∨(b'≠b∧m[b']? =some blk):=by
  intro b' blk hb'
  rw[List.getElem?_set] at hb'
  by_cases he:b=b'
  ·subst he
   rw[if_pos rfl,if_pos hbl,Option.some.injEq] at hb'
   exact .inl ⟨rfl,hb'.symm⟩
  ·rw[if_neg he] at hb'
   exact .inr ⟨fun e=>he e.symm,hb'⟩
 refine ⟨⟨by simp[h.len],?_,?_,?_⟩,⟨List.prefix_refl _,rfl,rfl,rfl,by simp[World.setCell],?_,?_⟩,?_,?_⟩
 ·intro b' blk a' hb' ha'
  rcases hget b' blk hb' with ⟨rfl,rfl⟩|⟨hne,hb'⟩
  ·rw[ha] at ha'
   simp only[Option.some.injEq] at ha'
   subst ha'
   refine ⟨_,hnew,by simpa using h2,by simpa using h3,by simpa using h3',fun j y hy=>?_⟩
   rw[List.getElem?_set] at hy
   rw[Array.getElem?_setIfInBounds]
   by_cases hij:i=j
   ·subst hij
    rw[if_pos rfl,if_pos hi,Option.some.injEq] at hy
    subst hy
    exact ⟨v,by rw[if_pos rfl,if_pos (by omega)],hv⟩
   ·rw[if_neg hij] at hy
    rw[if_neg (by omega)]
    exact h4 j y hy
  ·cases hlv:blk.live with
   |false=>cases blk<;>simp_all[ABlk.live,BlkOK]
   |true=>
    have:=h.sep b b' _ blk a a' (Ne.symm hne) hb hb' ha ha' rfl hlv
    exact (h.ok b' blk a' hb' ha').heap (hother _ (Ne.symm this))
 ·intro b1 b2 blk1 blk2 a1 a2 hne hb1 hb2 ha1 ha2 ho hlv
  rcases hget b1 blk1 hb1 with ⟨rfl,rfl⟩|⟨hne1,hb1'⟩<;>rcases hget b2 blk2 hb2 with ⟨rfl,rfl⟩|⟨hne2,hb2'⟩
  ·exact absurd rfl hne
  ·exact h.sep b1 b2 _ blk2 a1 a2 hne hb hb2' ha1 ha2 rfl hlv
  ·exact h.sep b1 b2 blk1 _ a1 a2 hne hb1' hb ha1 ha2 ho rfl
  ·exact h.sep b1 b2 blk1 blk2 a1 a2 hne hb1' hb2' ha1 ha2 ho hlv
 ·intro b' a' ha'
  simp only[World.setCell,Array.size_modify]
  exact h.bound b' a' ha'
 ·intro r hr hn
  refine hother r fun e=>hn ⟨b,_,a,hb,rfl,ha,e.symm⟩
 ·rintro r ⟨b',blk,a',hb',ho,ha',rfl⟩
  rcases hget b' blk hb' with ⟨rfl,rfl⟩|⟨hne,hb'⟩
  ·exact .inr ⟨b',_,a',hb,rfl,ha',rfl⟩
  ·exact .inr ⟨b',blk,a',hb',ho,ha',rfl⟩
 ·unfold World.cell?
  simp only[at_]
  rw[h1]
  simp only[Option.isSome_none,Bool.false_eq_true,if_false]
  rw[Array.getElem?_eq_getElem (by omega)]
  rfl
 ·unfold World.frozen?
  simp only[at_]
  rw[h1]
  simp
theorem Sim.newMap {ρ:List RB} {m:AMem} {w:World} (h:Sim ρ m w):
  Sim (ρ++ [⟨w.heap.size,0,0,0⟩]) (m++ [.mp []]) {w with heap:=w.heap.push (.map #[] 0)}∧Evol ρ m w (ρ++ [⟨w.heap.size,0,0,0⟩]) (m++ [.mp []]) {w with heap:=w.heap.push (.map #[] 0)}:=by
 have hp:ρ<+:ρ++ [(⟨w.heap.size,0,0,0⟩:RB)]:=List.prefix_append _ _
 have hold: ∀r,r<w.heap.size→(w.heap.push (.map #[] 0))[r]? =w.heap[r]? :=fun r hr=>by rw[Array.getElem?_push,if_neg (by omega)]
 have hsplit: ∀(b:Nat) blk a,(m++ [ABlk.mp []])[b]? =some blk→(ρ++ [(⟨w.heap.size,0,0,0⟩:RB)])[b]? =some a→
   (m[b]? =some blk∧ρ[b]? =some a∧a.block<w.heap.size∧b<m.length)∨(b=m.length∧blk= .mp []∧a=⟨w.heap.size,0,0,0⟩):=by
  intro b blk a hb ha
  rcases Nat.lt_or_ge b m.length with hlt|hge
  ·rw[List.getElem?_append_left hlt] at hb
   rw[List.getElem?_append_left (by rw[h.len];exact hlt)] at ha
   exact .inl ⟨hb,ha,h.bound b a ha,hlt⟩
  ·rw[List.getElem?_append_right hge] at hb
   rw[List.getElem?_append_right (by rw[h.len];exact hge),h.len] at ha
   cases hk:b-m.length with
   |zero=>
    rw[hk] at hb ha
    simp only[List.getElem?_cons_zero,Option.some.injEq] at hb ha
    exact .inr ⟨by omega,hb.symm,ha.symm⟩
   |succ k=>rw[hk] at hb;simp at hb
 refine ⟨⟨by simp[h.len],?_,?_,?_⟩,⟨hp,rfl,rfl,rfl,by simp,fun r hr _=>hold r hr,?_⟩⟩
 ·intro b blk a hb ha
  rcases hsplit b blk a hb ha with ⟨hb,ha,hlt,_⟩|⟨_,rfl,rfl⟩
  ·exact ((h.ok b blk a hb ha).mono hp).heap (hold _ hlt)
  ·exact ⟨#[],0,by simp,rfl⟩
 ·intro b b' blk blk' a a' hne hb hb' ha ha' ho hlv
  rcases hsplit b blk a hb ha with ⟨hb,ha,hlt,_⟩|⟨h1,rfl,rfl⟩<;>rcases hsplit b' blk' a' hb' ha' with ⟨hb',ha',hlt',_⟩|⟨h1',rfl,rfl⟩
  ·exact h.sep b b' blk blk' a a' hne hb hb' ha ha' ho hlv
  ·simp only;omega
  ·simp only;omega
  ·omega
 ·intro b a ha
  simp only[Array.size_push]
  rcases Nat.lt_or_ge b ρ.length with hlt|hge
  ·rw[List.getElem?_append_left hlt] at ha
   have:=h.bound b a ha
   omega
  ·rw[List.getElem?_append_right hge] at ha
   cases hk:b-ρ.length with
   |zero=>rw[hk] at ha;simp only[List.getElem?_cons_zero,Option.some.injEq] at ha;subst ha;simp only;omega
   |succ k=>rw[hk] at ha;simp at ha
 ·rintro r ⟨b,blk,a,hb,ho,ha,rfl⟩
  rcases hsplit b blk a hb ha with ⟨hb,ha,hlt,_⟩|⟨_,rfl,rfl⟩
  ·exact .inr ⟨b,blk,a,hb,ho,ha,rfl⟩
  ·exact .inl (Nat.le_refl _)
theorem Sim.newObj {ρ:List RB} {m:AMem} {w:World} (h:Sim ρ m w) (o:Obj) {vs:List AVal} {us:List Value} (hvs:VRs ρ vs us):
  Sim (ρ++ [⟨w.heap.size,0,0,0⟩]) (m++ [.obj w.heap.size o vs us]) {w with heap:=w.heap.push o}∧Evol ρ m w (ρ++ [⟨w.heap.size,0,0,0⟩]) (m++ [.obj w.heap.size o vs us]) {w with heap:=w.heap.push o}:=by
 have hp:ρ<+:ρ++ [(⟨w.heap.size,0,0,0⟩:RB)]:=List.prefix_append _ _
 have hold: ∀r,r<w.heap.size→(w.heap.push o)[r]? =w.heap[r]? :=fun r hr=>by rw[Array.getElem?_push,if_neg (by omega)]
 have hsplit: ∀(b:Nat) blk a,(m++ [ABlk.obj w.heap.size o vs us])[b]? =some blk→(ρ++ [(⟨w.heap.size,0,0,0⟩:RB)])[b]? =some a→
   (m[b]? =some blk∧ρ[b]? =some a∧a.block<w.heap.size∧b<m.length)∨(b=m.length∧blk= .obj w.heap.size o vs us∧a=⟨w.heap.size,0,0,0⟩):=by
  intro b blk a hb ha
  rcases Nat.lt_or_ge b m.length with hlt|hge
  ·rw[List.getElem?_append_left hlt] at hb
   rw[List.getElem?_append_left (by rw[h.len];exact hlt)] at ha
   exact .inl ⟨hb,ha,h.bound b a ha,hlt⟩
  ·rw[List.getElem?_append_right hge] at hb
   rw[List.getElem?_append_right (by rw[h.len];exact hge),h.len] at ha
   cases hk:b-m.length with
   |zero=>
    rw[hk] at hb ha
    simp only[List.getElem?_cons_zero,Option.some.injEq] at hb ha
    exact .inr ⟨by omega,hb.symm,ha.symm⟩
   |succ k=>rw[hk] at hb;simp at hb
 refine ⟨⟨by simp[h.len],?_,?_,?_⟩,⟨hp,rfl,rfl,rfl,by simp,fun r hr _=>hold r hr,?_⟩⟩
 ·intro b blk a hb ha
  rcases hsplit b blk a hb ha with ⟨hb,ha,hlt,_⟩|⟨_,rfl,rfl⟩
  ·exact ((h.ok b blk a hb ha).mono hp).heap (hold _ hlt)
  ·exact ⟨rfl,by simp,VRs.mono hp _ _ hvs⟩
 ·intro b b' blk blk' a a' hne hb hb' ha ha' ho hlv
  rcases hsplit b blk a hb ha with ⟨hb,ha,hlt,_⟩|⟨h1,rfl,rfl⟩<;>rcases hsplit b' blk' a' hb' ha' with ⟨hb',ha',hlt',_⟩|⟨h1',rfl,rfl⟩
  ·exact h.sep b b' blk blk' a a' hne hb hb' ha ha' ho hlv
  ·simp only;omega
  ·simp only;omega
  ·omega
 ·intro b a ha
  simp only[Array.size_push]
  rcases Nat.lt_or_ge b ρ.length with hlt|hge
  ·rw[List.getElem?_append_left hlt] at ha
   have:=h.bound b a ha
   omega
  ·rw[List.getElem?_append_right hge] at ha
   cases hk:b-ρ.length with
   |zero=>rw[hk] at ha;simp only[List.getElem?_cons_zero,Option.some.injEq] at ha;subst ha;simp only;omega
   |succ k=>rw[hk] at ha;simp at ha
 ·rintro r ⟨b,blk,a,hb,ho,ha,rfl⟩
  rcases hsplit b blk a hb ha with ⟨hb,ha,hlt,_⟩|⟨_,rfl,rfl⟩
  ·exact .inr ⟨b,blk,a,hb,ho,ha,rfl⟩
  ·exact .inl (Nat.le_refl _)
theorem Sim.setMap {ρ:List RB} {m:AMem} {w:World} (h:Sim ρ m w) {b:Nat} {es es':List (Int×AVal)} (hb:m[b]? =some (.mp es)) {a:RB} (ha:ρ[b]? =some a) {arr':Array MapEntry} {clock':Nat} (hv:MapL ρ es' arr'.toList):
  Sim ρ (m.set b (.mp es')) {w with heap:=w.heap.setIfInBounds a.block (.map arr' clock')}∧Evol ρ m w ρ (m.set b (.mp es')) {w with heap:=w.heap.setIfInBounds a.block (.map arr' clock')}:=by
 have hbl:b<m.length:=(List.getElem?_eq_some_iff.1 hb).1
 have hlt:a.block<w.heap.size:=h.bound b a ha
 have hnew:(w.heap.setIfInBounds a.block (.map arr' clock'))[a.block]? =some (.map arr' clock'):=by
  rw[Array.getElem?_setIfInBounds,if_pos rfl,if_pos hlt]
 have hother: ∀r,r≠a.block→(w.heap.setIfInBounds a.block (.map arr' clock'))[r]? =w.heap[r]? :=fun r hr=>by
  rw[Array.getElem?_setIfInBounds,if_neg (by omega)]
 have hget: ∀(b':Nat) blk,(m.set b (.mp es'))[b']? =some blk→(b'=b∧blk= .mp es')∨(b'≠b∧m[b']? =some blk):=by
  intro b' blk hb'
  rw[List.getElem?_set] at hb'
  by_cases he:b=b'
  ·subst he
   rw[if_pos rfl,if_pos hbl,Option.some.injEq] at hb'
   exact .inl ⟨rfl,hb'.symm⟩
  ·rw[if_neg he] at hb'
   exact .inr ⟨fun e=>he e.symm,hb'⟩
 refine ⟨⟨by simp[h.len],?_,?_,?_⟩,⟨List.prefix_refl _,rfl,rfl,rfl,by simp,?_,?_⟩⟩
 ·intro b' blk a' hb' ha'
  rcases hget b' blk hb' with ⟨rfl,rfl⟩|⟨hne,hb'⟩
  ·rw[ha] at ha'
   simp only[Option.some.injEq] at ha'
   subst ha'
   exact ⟨arr',clock',hnew,hv⟩
  ·cases hlv:blk.live with
   |false=>cases blk<;>simp_all[ABlk.live,BlkOK]
   |true=>
    have:=h.sep b b' _ blk a a' (Ne.symm hne) hb hb' ha ha' rfl hlv
    exact (h.ok b' blk a' hb' ha').heap (hother _ (Ne.symm this))
 ·intro b1 b2 blk1 blk2 a1 a2 hne hb1 hb2 ha1 ha2 ho hlv
  rcases hget b1 blk1 hb1 with ⟨rfl,rfl⟩|⟨hne1,hb1'⟩<;>rcases hget b2 blk2 hb2 with ⟨rfl,rfl⟩|⟨hne2,hb2'⟩
  ·exact absurd rfl hne
  ·exact h.sep b1 b2 _ blk2 a1 a2 hne hb hb2' ha1 ha2 rfl hlv
  ·exact h.sep b1 b2 blk1 _ a1 a2 hne hb1' hb ha1 ha2 ho rfl
  ·exact h.sep b1 b2 blk1 blk2 a1 a2 hne hb1' hb2' ha1 ha2 ho hlv
 ·intro b' a' ha'
  simp only[Array.size_setIfInBounds]
  exact h.bound b' a' ha'
 ·intro r hr hn
  refine hother r fun e=>hn ⟨b,_,a,hb,rfl,ha,e.symm⟩
 ·rintro r ⟨b',blk,a',hb',ho,ha',rfl⟩
  rcases hget b' blk hb' with ⟨rfl,rfl⟩|⟨hne,hb'⟩
  ·exact .inr ⟨b',_,a',hb,rfl,ha',rfl⟩
  ·exact .inr ⟨b',blk,a',hb',ho,ha',rfl⟩
theorem Sim.setObj {ρ:List RB} {m:AMem} {w:World} (h:Sim ρ m w) {b:Nat} {blk0:ABlk} (hb:m[b]? =some blk0) (hbo:blk0.isOwn=true) {a:RB} (ha:ρ[b]? =some a) (o:Obj) {vs:List AVal} {us:List Value} (hv:VRs ρ vs us):
  Sim ρ (m.set b (.obj a.block o vs us)) {w with heap:=w.heap.setIfInBounds a.block o}∧Evol ρ m w ρ (m.set b (.obj a.block o vs us)) {w with heap:=w.heap.setIfInBounds a.block o}:=by
 have hbl:b<m.length:=(List.getElem?_eq_some_iff.1 hb).1
 have hlt:a.block<w.heap.size:=h.bound b a ha
 have hnew:(w.heap.setIfInBounds a.block o)[a.block]? =some o:=by
  rw[Array.getElem?_setIfInBounds,if_pos rfl,if_pos hlt]
 have hother: ∀r,r≠a.block→(w.heap.setIfInBounds a.block o)[r]? =w.heap[r]? :=fun r hr=>by
  rw[Array.getElem?_setIfInBounds,if_neg (by omega)]
 have hget: ∀(b':Nat) blk,(m.set b (.obj a.block o vs us))[b']? =some blk→(b'=b∧blk= .obj a.block o vs us)∨(b'≠b∧m[b']? =some blk):=by
  intro b' blk hb'
  rw[List.getElem?_set] at hb'
  by_cases he:b=b'
  ·subst he
   rw[if_pos rfl,if_pos hbl,Option.some.injEq] at hb'
   exact .inl ⟨rfl,hb'.symm⟩
  ·rw[if_neg he] at hb'
   exact .inr ⟨fun e=>he e.symm,hb'⟩
 refine ⟨⟨by simp[h.len],?_,?_,?_⟩,⟨List.prefix_refl _,rfl,rfl,rfl,by simp,?_,?_⟩⟩
 ·intro b' blk a' hb' ha'
  rcases hget b' blk hb' with ⟨rfl,rfl⟩|⟨hne,hb'⟩
  ·rw[ha] at ha'
   simp only[Option.some.injEq] at ha'
   subst ha'
   exact ⟨rfl,hnew,hv⟩
  ·cases hlv:blk.live with
   |false=>cases blk<;>simp_all[ABlk.live,BlkOK]
   |true=>
    have:=h.sep b b' _ blk a a' (Ne.symm hne) hb hb' ha ha' hbo hlv
    exact (h.ok b' blk a' hb' ha').heap (hother _ (Ne.symm this))
 ·intro b1 b2 blk1 blk2 a1 a2 hne hb1 hb2 ha1 ha2 ho hlv
  rcases hget b1 blk1 hb1 with ⟨rfl,rfl⟩|⟨hne1,hb1'⟩<;>rcases hget b2 blk2 hb2 with ⟨rfl,rfl⟩|⟨hne2,hb2'⟩
  ·exact absurd rfl hne
  ·exact h.sep b1 b2 _ blk2 a1 a2 hne hb hb2' ha1 ha2 hbo hlv
  ·exact h.sep b1 b2 blk1 _ a1 a2 hne hb1' hb ha1 ha2 ho (by cases blk0<;>simp_all[ABlk.isOwn,ABlk.live])
  ·exact h.sep b1 b2 blk1 blk2 a1 a2 hne hb1' hb2' ha1 ha2 ho hlv
 ·intro b' a' ha'
  simp only[Array.size_setIfInBounds]
  exact h.bound b' a' ha'
 ·intro r hr hn
  refine hother r fun e=>hn ⟨b,_,a,hb,hbo,ha,e.symm⟩
 ·rintro r ⟨b',blk,a',hb',ho,ha',rfl⟩
  rcases hget b' blk hb' with ⟨rfl,rfl⟩|⟨hne,hb'⟩
  ·exact .inr ⟨b',_,a',hb,hbo,ha',rfl⟩
  ·exact .inr ⟨b',blk,a',hb',ho,ha',rfl⟩
theorem Sim.kill {ρ:List RB} {m:AMem} {w:World} (h:Sim ρ m w) (b:Nat):Sim ρ (m.set b .dead) w∧Evol ρ m w ρ (m.set b .dead) w:=by
 have hget: ∀(b':Nat) blk,(m.set b .dead)[b']? =some blk→blk= .dead∨m[b']? =some blk:=by
  intro b' blk hb'
  rw[List.getElem?_set] at hb'
  split at hb'
  ·split at hb'
   ·simp only[Option.some.injEq] at hb';exact .inl hb'.symm
   ·simp at hb'
  ·exact .inr hb'
 refine ⟨⟨by simp[h.len],?_,?_,h.bound⟩,⟨List.prefix_refl _,rfl,rfl,rfl,Nat.le_refl _,fun _ _ _=>rfl,?_⟩⟩
 ·intro b' blk a hb' ha
  rcases hget b' blk hb' with rfl|hb'
  ·trivial
  ·exact h.ok b' blk a hb' ha
 ·intro b1 b2 blk1 blk2 a1 a2 hne hb1 hb2 ha1 ha2 ho hlv
  rcases hget b1 blk1 hb1 with rfl|hb1
  ·simp[ABlk.isOwn] at ho
  rcases hget b2 blk2 hb2 with rfl|hb2
  ·simp[ABlk.live] at hlv
  exact h.sep b1 b2 blk1 blk2 a1 a2 hne hb1 hb2 ha1 ha2 ho hlv
 ·rintro r ⟨b',blk,a',hb',ho,ha',rfl⟩
  rcases hget b' blk hb' with rfl|hb'
  ·simp[ABlk.isOwn] at ho
  ·exact .inr ⟨b',blk,a',hb',ho,ha',rfl⟩
theorem Sim.junk {ρ:List RB} {m:AMem} {w:World} (h:Sim ρ m w) (o:Obj):Sim ρ m (w.alloc o)∧Evol ρ m w ρ m (w.alloc o):=by
 have hold: ∀r,r<w.heap.size→(w.alloc o).heap[r]? =w.heap[r]? :=fun r hr=>by
  show (w.heap.push o)[r]? =_
  rw[Array.getElem?_push,if_neg (by omega)]
 exact ⟨⟨h.len,fun b blk a hb ha=>(h.ok b blk a hb ha).heap (hold _ (h.bound b a ha)),h.sep,fun b a ha=>by have:=h.bound b a ha;simp;omega⟩,
  ⟨List.prefix_refl _,rfl,rfl,rfl,by simp,fun r hr _=>hold r hr,fun _ h=> .inr h⟩⟩
theorem Sim.turn {ρ:List RB} {m:AMem} {w:World} (h:Sim ρ m w) {r:Nat} {ds:Option (List Deferred)} (hr:w.heap[r]? =some (.deferred ds)) (hn: ¬Owned ρ m r) (o:Obj):Sim ρ m {w with heap:=w.heap.setIfInBounds r o}:=by
 have hold: ∀k,k≠r→({w with heap:=w.heap.setIfInBounds r o}:World).heap[k]? =w.heap[k]? :=fun k hk=>by
  show (w.heap.setIfInBounds r o)[k]? =_
  rw[Array.getElem?_setIfInBounds,if_neg (by omega)]
 refine ⟨h.len,fun b blk a hb ha=>?_,h.sep,fun b a ha=>by have:=h.bound b a ha;simpa using this⟩
 have hok:=h.ok b blk a hb ha
 by_cases he:a.block=r
 ·cases blk with
  |dead=>trivial
  |ro cs=>
   intro i x hx
   obtain ⟨v,hv,_⟩:=hok i x hx
   unfold World.cell? at hv
   simp only[at_] at hv
   rw[he,hr] at hv
   simp at hv
  |own cs ty gr=>exact absurd ⟨b,_,a,hb,rfl,ha,he⟩ hn
  |mp es=>exact absurd ⟨b,_,a,hb,rfl,ha,he⟩ hn
  |obj l o vs us=>exact absurd ⟨b,_,a,hb,rfl,ha,he⟩ hn
 ·exact hok.heap (hold _ he)
end Go.Proofs.YtodhalcpnmddjaaDoor.Ax
namespace Go.Proofs.YtodhalcpnmddjaaDoor.Ax
open Go
def binInt (op:BinOp) (k:IntKind) (x y:Int):Option AVal:=
 match op with
 | .add=>some (.int k (k.wrap (x+y)))
 | .sub=>some (.int k (k.wrap (x-y)))
 | .mul=>some (.int k (k.wrap (x*y)))
 | .quo=>if y=0 then none else some (.int k (k.wrap (x.tdiv y)))
 | .rem=>if y=0 then none else some (.int k (x.tmod y))
 | .and| .or| .xor| .andNot=>some (.int k (bits op k x y))
 | .eql=>some (.bool (x==y))
 | .neq=>some (.bool (x !=y))
 | .lss=>some (.bool (decide (x<y)))
 | .leq=>some (.bool (decide (x≤y)))
 | .gtr=>some (.bool (decide (x>y)))
 | .geq=>some (.bool (decide (x≥y)))
 | .shl| .shr=>none
def binShift (op:BinOp) (k:IntKind) (x y:Int):Option AVal:=
 if y<0 then none else
 match op with
 | .shl=>some (.int k (k.wrap (x*2^(min y.toNat k.bits))))
 | .shr=>some (.int k (x.fdiv (2^(min y.toNat k.bits))))
 |_=>none
def binStr (op:BinOp) (x y:ByteArray):Option AVal:=
 match op with
 | .add=>if x.size+y.size≤9223372036854775807 then some (.str (x++y)) else none
 | .eql=>some (.bool (x.toList==y.toList))
 | .neq=>some (.bool (!(x.toList==y.toList)))
 | .lss=>some (.bool (Op.bytesLess x.toList y.toList))
 | .leq=>some (.bool (Op.bytesLess x.toList y.toList||x.toList==y.toList))
 | .gtr=>some (.bool (!(Op.bytesLess x.toList y.toList||x.toList==y.toList)))
 | .geq=>some (.bool (!(Op.bytesLess x.toList y.toList)))
 |_=>none
def binE (op:BinOp) (x y:AVal):Option AVal:=
 match x,y with
 | .int k a,.int k' b=>match op with
  | .shl| .shr=>binShift op k a b
  |_=>if k=k' then binInt op k a b else none
 | .str a,.str b=>binStr op a b
 |_,_=>none
theorem binInt_ok {P:Program} {w:World} {op:BinOp} {t:TypeId} {X Y:Operand} {k:IntKind} {a b:Int} {x:AVal} (hs:op≠ .shl∧op≠ .shr) (h:binInt op k a b=some x) (ρ:List RB):
  ∃v,(do eqGuard op t X Y (.int k a) (.int k b);binOp op t (.int k a) (.int k b):Sem Value).run P w= .ok v w∧VR ρ x v:=by
 rw[eqGuard_at_int]
 cases op<;>simp only[binInt,reduceCtorEq,Option.some.injEq] at h
 case quo=>split at h<;>simp only[reduceCtorEq,Option.some.injEq] at h;subst h;exact ⟨_,by simp[binOp_quo,Op.intDiv, *];rfl,by simp[VR]⟩
 case rem=>split at h<;>simp only[reduceCtorEq,Option.some.injEq] at h;subst h;exact ⟨_,by simp[binOp_rem,Op.intDiv, *];rfl,by simp[VR]⟩
 all_goals
  subst h
  exact ⟨_,by first|(simp[binOp,Op.intArith,Op.intCmp];rfl)|(simp[binOp,Op.intArith,Op.intCmp,intBits_and,intBits_or,intBits_xor,intBits_andNot];rfl),by simp[VR,bits]⟩
theorem binE_ok {P:Program} {w:World} {op:BinOp} {t:TypeId} {X Y:Operand} {x y z:AVal} {u v:Value} {ρ:List RB} (hx:VR ρ x u) (hy:VR ρ y v) (h:binE op x y=some z):
  ∃r,(do eqGuard op t X Y u v;binOp op t u v:Sem Value).run P w= .ok r w∧VR ρ z r:=by
 unfold binE at h
 split at h
 ·rename_i k a k' b
  simp only[VR] at hx hy
  subst hx hy
  split at h
  ·rw[eqGuard_at_int]
   unfold binShift at h
   split at h
   ·simp at h
   ·simp only[Option.some.injEq] at h
    subst h
    exact ⟨_,by simp[binOp_shl,Op.shift, *];rfl,by simp[VR]⟩
  ·rw[eqGuard_at_int]
   unfold binShift at h
   split at h
   ·simp at h
   ·simp only[Option.some.injEq] at h
    subst h
    exact ⟨_,by simp[binOp_shr,Op.shift, *];rfl,by simp[VR]⟩
  ·rename_i h1 h2
   split at h
   ·rename_i hk
    subst hk
    exact binInt_ok ⟨h1,h2⟩ h ρ
   ·simp at h
 ·rename_i a b
  simp only[VR] at hx hy
  subst hx hy
  rw[eqGuard_at_string]
  cases op<;>simp only[binStr,reduceCtorEq,Option.some.injEq] at h
  case add=>
   split at h
   ·rename_i hle
    simp only[Option.some.injEq] at h
    subst h
    refine ⟨_,?_,by simp[VR];rfl⟩
    simp only[binOp,Op.stringOp,Sem.run_bind,Sem.run_pure,Result.andThen_ok,Sem.run_ite,IntKind.max_i64]
    rw[if_neg (by omega)]
   ·simp at h
  all_goals
   subst h
   exact ⟨_,by simp[binOp,Op.stringOp];rfl,by simp[VR]⟩
 ·simp at h
def setN:List AVal→Nat→List AVal→List AVal
 |cs,_,[]=>cs
 |cs,o,x::xs=>setN (cs.set o x) (o+1) xs
theorem setN_length: ∀(xs cs:List AVal) (o:Nat),(setN cs o xs).length=cs.length
 | [],_,_=>rfl
 |x::xs,cs,o=>by simp[setN,setN_length xs]
def fillA:List AVal→List (Nat×Nat×AVal)→Option (List AVal)
 |cells,[]=>some cells
 |cells,(off,size,v)::rest=>
  if v.cells.length≠size∨off+v.cells.length>cells.length∨v.cells.all AVal.one=false then none else fillA (setN cells off v.cells) rest
def readN (cs:List AVal) (o n:Nat):Option (List AVal):=if o+n≤cs.length then some ((cs.drop o).take n) else none
inductive NilKind where
 |slice|ptr|map|func
 deriving DecidableEq
def isNilOf:NilKind→AVal→Option Bool
 | .slice,.nilslice| .ptr,.nilptr| .map,.nilmap| .func,.nilfunc=>some true
 | .slice,.slice .. | .ptr,.ptr .. | .map,.map _| .func,.func .. =>some false
 |_,_=>none
def eqC:List Bool→List AVal→List AVal→Option Bool
 | [],[],[]=>some true
 |true::ks,.bool a::xs,.bool b::ys=>(eqC ks xs ys).map fun r=>a==b&&r
 |false::ks,.int k a::xs,.int k' b::ys=>if k=k' then (eqC ks xs ys).map fun r=>a==b&&r else none
 |_,_,_=>none
inductive POp where
 |mov (x:Arg)
 |pick (c x y:Arg)
 |bin (op:BinOp) (x y:Arg)
 |eqB (neg:Bool) (x y:Arg)
 |eqN (k:NilKind) (neg:Bool) (x:Arg)
 |eqS (neg:Bool) (ks:List Bool) (x y:Arg)
 |un (op:UnOp) (x:Arg)
 |i2i (k:IntKind) (x:Arg)
 |build (zero:List AVal) (parts:List (Nat×Nat×Arg))
 |faddr (off:Nat) (x:Arg)
 |field (off size:Nat) (agg:Bool) (x:Arg)
 |iaddr (esz:Nat) (x i:Arg)
 |iaddrA (n esz:Nat) (x i:Arg)
 |ixs (x i:Arg)
 |ixa (n esz:Nat) (agg:Bool) (x i:Arg)
 |slice (esz:Nat) (x:Arg) (lo hi mx:Option Arg)
 |sliceA (n esz:Nat) (x:Arg) (lo hi:Option Arg)
 |sliceS (x:Arg) (lo hi:Option Arg)
 |nilck (x:Arg)
 |ext (x:Arg) (i:Nat)
 |mkfn (fn:Fn) (first captured:List Arg)
 |mkif (t:TypeId) (x:Arg)
 |len (x:Arg)
 |lenS (x:Arg)
 |cap (x:Arg)
 |max (x y:Arg)
 |sdata (x:Arg)
 |eqP (neg:Bool) (x y:Arg)
 |min (x y:Arg)
def bnd (a:AFrame) (x:Option Arg) (d:Nat):Option Nat:=
 match x with
 |none=>some d
 |some x=>match a.ev x with
  | .int _ n=>if 0≤n then some n.toNat else none
  |_=>none
def evSlice (esz:Nat) (v:AVal) (l h:Nat) (m:Option Nat):Option AVal:=
 match v with
 | .nilslice=>if l=0∧h=0∧m.getD 0=0 then some .nilslice else none
 | .slice b o _ cap gr=>if l≤h∧h≤m.getD cap∧m.getD cap≤cap∧(gr=none∨gr=some esz∨m.isSome=true) then some (.slice b (o+l*esz) (h-l) (m.getD cap-l) (if m.isSome then none else gr)) else none
 |_=>none
def ptrEq:AVal→AVal→Option Bool
 | .ptr b o,.ptr b' o'=>if b=b'∧o=o' then some true else none
 |_,_=>none
def POp.ev (a:AFrame):POp→Option AVal
 | .sdata x=>match a.ev x with
  | .nilslice=>some .nilptr
  | .slice b o n _ _=>if 0<n then some (.ptr b o) else none
  |_=>none
 | .eqP neg x y=>(ptrEq (a.ev x) (a.ev y)).map fun b=> .bool (if neg then !b else b)
 | .mov x=>some (a.ev x)
 | .pick c x y=>match a.ev c with
  | .bool b=>some (if b then a.ev x else a.ev y)
  |_=>none
 | .bin op x y=>binE op (a.ev x) (a.ev y)
 | .eqB neg x y=>match a.ev x,a.ev y with
  | .bool b,.bool c=>some (.bool (if neg then b !=c else b==c))
  |_,_=>none
 | .eqN k neg x=>(isNilOf k (a.ev x)).map fun b=> .bool (if neg then !b else b)
 | .eqS neg ks x y=>match a.ev x,a.ev y with
  | .agg xs,.agg ys=>(eqC ks xs ys).map fun b=> .bool (if neg then !b else b)
  |_,_=>none
 | .un op x=>match op,a.ev x with
  | .neg,.int k n=>some (.int k (k.wrap (0-n)))
  | .not,.bool b=>some (.bool (!b))
  |_,_=>none
 | .i2i k x=>match a.ev x with
  | .int _ n=>some (.int k (k.wrap n))
  |_=>none
 | .build zero parts=>(fillA zero (parts.map fun p=>(p.1,p.2.1,a.ev p.2.2))).map .agg
 | .faddr off x=>match a.ev x with
  | .ptr b o=>some (.ptr b (o+off))
  |_=>none
 | .field off size agg x=>match a.ev x with
  | .agg cs=>if agg then (readN cs off size).map .agg else cs[off]?
  |_=>none
 | .iaddr esz x i=>match a.ev x,a.ev i with
  | .slice b o l _ _,.int _ n=>if 0≤n∧n<l then some (.ptr b (o+n.toNat*esz)) else none
  |_,_=>none
 | .iaddrA l esz x i=>match a.ev x,a.ev i with
  | .ptr b o,.int _ n=>if 0≤n∧n<l then some (.ptr b (o+n.toNat*esz)) else none
  | .gptr b o,.int _ n=>if 0≤n∧n<l then some (.gptr b (o+n.toNat*esz)) else none
  |_,_=>none
 | .ixs x i=>match a.ev x,a.ev i with
  | .str s,.int _ n=>(if 0≤n then s[n.toNat]? else none).map fun b=> .int .u8 b.toNat
  |_,_=>none
 | .ixa l esz agg x i=>match a.ev x,a.ev i with
  | .agg cs,.int _ n=>if 0≤n∧n<l then (if agg then (readN cs (n.toNat*esz) esz).map .agg else cs[n.toNat*esz]?) else none
  |_,_=>none
 | .slice esz x lo hi mx=>match a.ev x,bnd a lo 0,mx with
  | .nilslice,some l,none=>(bnd a hi 0).bind fun h=>evSlice esz .nilslice l h none
  | .nilslice,some l,some m=>match hi with
   |some _=>(bnd a hi 0).bind fun h=>(bnd a (some m) 0).bind fun m=>evSlice esz .nilslice l h (some m)
   |none=>none
  | .slice b o n k ex,some l,none=>(bnd a hi n).bind fun h=>evSlice esz (.slice b o n k ex) l h none
  | .slice b o n k ex,some l,some m=>match hi with
   |some _=>(bnd a hi n).bind fun h=>(bnd a (some m) 0).bind fun m=>evSlice esz (.slice b o n k ex) l h (some m)
   |none=>none
  |_,_,_=>none
 | .sliceA n esz x lo hi=>match a.ev x,bnd a lo 0,bnd a hi n with
  | .ptr b o,some l,some h=>if l≤h∧h≤n then some (.slice b (o+l*esz) (h-l) (n-l) none) else none
  |_,_,_=>none
 | .sliceS x lo hi=>match a.ev x,bnd a lo 0 with
  | .str s,some l=>(bnd a hi s.size).bind fun h=>if l≤h∧h≤s.size then some (.str (s.extract l h)) else none
  |_,_=>none
 | .nilck x=>match a.ev x with
  | .ptr b o=>some (.ptr b o)
  | .func (.func f) fs cs=>some (.func (.func f) fs cs)
  |_=>none
 | .ext x i=>match a.ev x with
  | .tuple vs=>vs[i]?
  |_=>none
 | .mkfn fn fs cs=>some (.func fn (fs.map a.ev) (cs.map a.ev))
 | .mkif t x=>some (.iface t (a.ev x))
 | .lenS x=>match a.ev x with
  | .str s=>some (.int .i64 s.size)
  |_=>none
 | .len x=>match a.ev x with
  | .nilslice=>some (.int .i64 0)
  | .slice _ _ n _ _=>some (.int .i64 n)
  |_=>none
 | .cap x=>match a.ev x with
  | .nilslice=>some (.int .i64 0)
  | .slice _ _ _ c none=>some (.int .i64 c)
  |_=>none
 | .max x y=>match a.ev x,a.ev y with
  | .int k n,.int _ m=>some (.int k (if m>n then m else n))
  |_,_=>none
 | .min x y=>match a.ev x,a.ev y with
  | .int k n,.int _ m=>some (.int k (if m<n then m else n))
  |_,_=>none
end Go.Proofs.YtodhalcpnmddjaaDoor.Ax
namespace Go.Proofs.YtodhalcpnmddjaaDoor.Ax
open Go
def szOf (P:Program) (t:TypeId):Option Nat:=(P.info? t).map (·.size)
def aggOf (P:Program) (t:TypeId):Option Bool:=(P.underlying t).map fun d=>match d with| .struct _| .array _ _=>true|_=>false
def zeroOf (P:Program) (t:TypeId):Option (List AVal):=((P.info? t).bind (·.zero)).bind fun z=>ofCells z.cells.toList
theorem run_sizeOf {P:Program} {t:TypeId} {n:Nat} (h:szOf P t=some n) (w:World):(sizeOf t).run P w= .ok n w:=by
 simp only[szOf,Option.map_eq_some_iff] at h
 obtain ⟨i,hi,rfl⟩:=h
 simp[sizeOf,typeInfo,hi]
theorem run_isAgg {P:Program} {t:TypeId} {b:Bool} (h:aggOf P t=some b) (w:World):(isAgg t).run P w= .ok b w:=by
 simp only[aggOf,Option.map_eq_some_iff] at h
 obtain ⟨d,hd,rfl⟩:=h
 simp only[isAgg,Sem.run_bind,run_underlying hd,Result.andThen_ok]
 cases d<;>rfl
theorem run_zeroValue {P:Program} {t:TypeId} {cs:List AVal} (h:zeroOf P t=some cs) (w:World): ∃z,(zeroValue t).run P w= .ok z w∧ofCells z.cells.toList=some cs:=by
 simp only[zeroOf,Option.bind_eq_some_iff] at h
 obtain ⟨z,⟨i,hi,hz⟩,hc⟩:=h
 exact ⟨z,by simp[zeroValue,typeInfo,hi,hz],hc⟩
def POpOK (P:Program) (o:Oper) (p:POp):Prop:=
 ∀(ρ:List RB) (a:AFrame) (act:Act) (w:World) (x:AVal),FR ρ a act.tmps→p.ev a=some x→ ∃v,(execOp act.eval o).run P w= .ok (.value v) w∧VR ρ x v
def cArgs:List Operand→Option (List Arg)
 | []=>some []
 |x::xs=>match cArg x,cArgs xs with
  |some y,some ys=>some (y::ys)
  |_,_=>none
theorem cArgs_ev {ρ:List RB} {a:AFrame} {act:Act} (h:FR ρ a act.tmps): ∀{xs:List Operand} {ys:List Arg},cArgs xs=some ys→VRs ρ (ys.map a.ev) (xs.map act.eval)
 | [],ys,hx=>by simp only[cArgs,Option.some.injEq] at hx;subst hx;simp[VRs]
 |x::xs,ys,hx=>by
  simp only[cArgs] at hx
  split at hx
  ·rename_i y ys' hy hys
   simp only[Option.some.injEq] at hx
   subst hx
   simp only[List.map_cons,VRs]
   exact ⟨_,_,rfl,h.ev hy,cArgs_ev h hys⟩
  ·simp at hx
def nilKindOf:TypeDesc→Option NilKind
 | .slice _=>some .slice
 | .pointer _=>some .ptr
 | .map _ _=>some .map
 | .func _ _ _=>some .func
 |_=>none
def nilFits:NilKind→Operand→Bool
 | .slice,.const (.slice none 0 0)| .ptr,.const (.pointer none)| .map,.const (.map none)| .func,.const .nilFunc=>true
 |_,_=>false
def eqOp:BinOp→Option Bool
 | .eql=>some false
 | .neq=>some true
 |_=>none
def fldK (P:Program):List Field→Nat→Option (List Bool)
 | [],_=>some []
 |f::fs,i=>if f.name≠ "_" ∧f.offset=i then match P.underlying f.type with
   |some .bool=>(fldK P fs (i+1)).map (true:: ·)
   |some (.int _)=>(fldK P fs (i+1)).map (false:: ·)
   |_=>none
  else none
def flatS (P:Program) (t:TypeId):Option (List Bool):=
 match P.underlying t with
 |some (.struct fs)=>if P.stoodInHeld t=false∧P.eqGuardType P.depth t=false then fldK P fs.toList 0 else none
 |_=>none
def cBin (P:Program) (op:BinOp) (t:TypeId) (x y:Operand):Option POp:=
 match P.underlying t with
 |some .bool=>match eqOp op,cArg x,cArg y with
  |some neg,some x,some y=>some (.eqB neg x y)
  |_,_,_=>none
 |some d=>match nilKindOf d with
  |some k=>match eqOp op with
   |some neg=>if nilFits k y then (cArg x).map (.eqN k neg) else if nilFits k x then (cArg y).map (.eqN k neg) else match d,cArg x,cArg y with
    | .pointer te,some x,some y=>if (P.info? te).isSome then some (.eqP neg x y) else none
    |_,_,_=>none
   |none=>none
  |none=>match cArg x,cArg y with
   |some x,some y=>match eqOp op,flatS P t with
    |some neg,some ks=>some (.eqS neg ks x y)
    |_,_=>some (.bin op x y)
   |_,_=>none
 |none=>none
def cOpt:Option Operand→Option (Option Arg)
 |none=>some none
 |some x=>(cArg x).map some
def cSlice (P:Program) (t:TypeId) (x:Operand) (lo hi mx:Option Operand):Option POp:=
 match cArg x,cOpt lo,cOpt hi,cOpt mx with
 |some x,some lo,some hi,some mx=>match P.underlying t with
  |some (.slice e)=>(szOf P e).map fun s=> .slice s x lo hi mx
  |some .string=>if mx.isNone then some (.sliceS x lo hi) else none
  |some (.array n e)=>if mx.isNone then (szOf P e).map fun s=> .sliceA n s x lo hi else none
  |_=>none
 |_,_,_,_=>none
def cParts (places:Nat→Option (Nat×Nat)):List (Nat×Operand)→Option (List (Nat×Nat×Arg))
 | []=>some []
 |(i,x)::rest=>match places i,cArg x,cParts places rest with
  |some (o,s),some y,some ys=>some ((o,s,y)::ys)
  |_,_,_=>none
def cBuild (P:Program) (t:TypeId) (parts:List (Nat×Operand)):Option POp:=
 match zeroOf P t,P.underlying t with
 |some z,some (.struct fs)=>(cParts (fun i=>(fs[i]?).bind fun f=>(szOf P f.type).map fun s=>(f.offset,s)) parts).bind fun ps=>if fs.all (fun f=>(szOf P f.type).isSome) then some (.build z ps) else none
 |some z,some (.array _ e)=>(szOf P e).bind fun s=>(cParts (fun i=>some (i*s,s)) parts).map fun ps=> .build z ps
 |_,_=>none
def cPure (P:Program):Op→Option POp
 | .move x| .assign x=>(cArg x).map .mov
 | .pick c x y=>match cArg c,cArg x,cArg y with
  |some c,some x,some y=>some (.pick c x y)
  |_,_,_=>none
 | .binOp op t x y _=>cBin P op t x y
 | .unOp op _ x=>(cArg x).map (.un op)
 | .convert s d x=>match P.underlying s,P.underlying d with
  |some (.int _),some (.int k)=>(cArg x).map (.i2i k)
  |_,_=>none
 | .build t parts=>cBuild P t parts.toList
 | .fieldAddr s x f=>match P.underlying s with
  |some (.struct fs)=>match fs[f]? with
   |some g=>match szOf P g.type,cArg x with
    |some n,some x=>if n=0 then none else some (.faddr g.offset x)
    |_,_=>none
   |none=>none
  |_=>none
 | .field s x f=>match P.underlying s with
  |some (.struct fs)=>match fs[f]? with
   |some g=>match szOf P g.type,aggOf P g.type,cArg x with
    |some n,some b,some x=>some (.field g.offset n b x)
    |_,_,_=>none
   |none=>none
  |_=>none
 | .indexAddr t x i=>match cArg x,cArg i with
  |some x,some i=>match P.underlying t with
   |some (.slice e)=>(szOf P e).map fun s=> .iaddr s x i
   |some (.array n e)=>(szOf P e).map fun s=> .iaddrA n s x i
   |_=>none
  |_,_=>none
 | .index t x i=>match cArg x,cArg i with
  |some x,some i=>match P.underlying t with
   |some .string=>some (.ixs x i)
   |some (.array n e)=>match szOf P e,aggOf P e with
    |some s,some b=>some (.ixa n s b x i)
    |_,_=>none
   |_=>none
  |_,_=>none
 | .slice t x lo hi mx=>cSlice P t x lo hi mx
 | .nilCheck x=>(cArg x).map .nilck
 | .extract x i=>(cArg x).map fun x=> .ext x i
 | .makeFunc fn fs cs=>match cArgs fs.toList,cArgs cs.toList with
  |some fs,some cs=>some (.mkfn fn fs cs)
  |_,_=>none
 | .makeInterface t x=>match P.underlying t with
  |some (.interface _)=>none
  |some _=>(cArg x).map (.mkif t)
  |none=>none
 | .call {callee:= .builtin b,args,argTypes}=>match b,args.toList,argTypes.toList with
  | .len,[x],[t]=>match P.underlying t with
   |some .string=>(cArg x).map .lenS
   |some (.slice _)=>(cArg x).map .len
   |_=>none
  | .cap,[x],[t]=>match P.underlying t with
   |some (.slice _)=>(cArg x).map .cap
   |_=>none
  | .max,[x,y],_=>match cArg x,cArg y with
   |some x,some y=>some (.max x y)
   |_,_=>none
  | .min,[x,y],_=>match cArg x,cArg y with
   |some x,some y=>some (.min x y)
   |_,_=>none
  | .unsafeSliceData,[x],[t]=>match P.underlying t with
   |some (.slice _)=>(cArg x).map .sdata
   |_=>none
  |_,_,_=>none
 | .call {callee:= .value (.func f),args,..}=>match P.funcs[f]? with
  |some fn=>if fn.body.isNone=true∧fn.name= "internal/abi.NoEscape" ∧(Extern.allNextRows.lookup fn.origin).isNone=true then match args.toList with
   | [x]=>(cArg x).map .mov
   |_=>none
   else none
  |none=>none
 |_=>none
end Go.Proofs.YtodhalcpnmddjaaDoor.Ax
namespace Go.Proofs.YtodhalcpnmddjaaDoor.Ax
open Go
theorem VR.int_inv {ρ:List RB} {k:IntKind} {n:Int} {v:Value} (h:VR ρ (.int k n) v):v= .int k n:=by simpa[VR] using h
theorem VR.bool_inv {ρ:List RB} {b:Bool} {v:Value} (h:VR ρ (.bool b) v):v= .bool b:=by simpa[VR] using h
theorem ok_mov {P:Program} {o:Oper} {x:Operand} {y:Arg} (ho:o.op= .move x∨o.op= .assign x) (hx:cArg x=some y):POpOK P o (.mov y):=by
 intro ρ a act w z hf hz
 simp only[POp.ev,Option.some.injEq] at hz
 subst hz
 refine ⟨act.eval x,?_,hf.ev hx⟩
 rcases ho with ho|ho<;>simp[execOp,ho]
theorem ok_pick {P:Program} {o:Oper} {c x y:Operand} {c' x' y':Arg} (ho:o.op= .pick c x y) (hc:cArg c=some c') (hx:cArg x=some x') (hy:cArg y=some y'):POpOK P o (.pick c' x' y'):=by
 intro ρ a act w z hf hz
 simp only[POp.ev] at hz
 split at hz
 ·rename_i b hb
  simp only[Option.some.injEq] at hz
  subst hz
  have h1:=hf.ev hc
  rw[hb] at h1
  have h1:=h1.bool_inv
  refine ⟨if b then act.eval x else act.eval y,by simp[execOp,ho,h1,asBool],?_⟩
  cases b
  ·exact hf.ev hy
  ·exact hf.ev hx
 ·simp at hz
theorem ok_bin {P:Program} {o:Oper} {op:BinOp} {t yt:TypeId} {x y:Operand} {x' y':Arg} (ho:o.op= .binOp op t x y yt) (hx:cArg x=some x') (hy:cArg y=some y'):POpOK P o (.bin op x' y'):=by
 intro ρ a act w z hf hz
 simp only[POp.ev] at hz
 obtain ⟨r,hr,hv⟩:=binE_ok (P:=P) (w:=w) (t:=t) (X:=x) (Y:=y) (hf.ev hx) (hf.ev hy) hz
 refine ⟨r,?_,hv⟩
 simp only[execOp,ho]
 rw[Sem.run_bind,hr]
 rfl
section
variable {P:Program} {w:World} {t:TypeId} (n:Nat)
theorem eqIn_bool (ht:P.underlying t=some .bool) (a b:Bool):(Op.equalIn (n+1) t (.bool a) (.bool b)).run P w= .ok (a==b) w:=by simp[Op.equalIn,run_underlying ht]
theorem eqIn_sliceR {e:TypeId} (ht:P.underlying t=some (.slice e)) (a:Option Addr) (l c:Nat):(Op.equalIn (n+1) t (.slice a l c) (.slice none 0 0)).run P w= .ok a.isNone w:=by cases a<;>simp[Op.equalIn,run_underlying ht]
theorem eqIn_sliceL {e:TypeId} (ht:P.underlying t=some (.slice e)) (a:Option Addr) (l c:Nat):(Op.equalIn (n+1) t (.slice none 0 0) (.slice a l c)).run P w= .ok a.isNone w:=by simp[Op.equalIn,run_underlying ht]
theorem eqIn_ptrR {e:TypeId} (ht:P.underlying t=some (.pointer e)) (a:Option Addr):(Op.equalIn (n+1) t (.pointer a) (.pointer none)).run P w= .ok a.isNone w:=by cases a<;>simp[Op.equalIn,run_underlying ht]
theorem eqIn_ptrL {e:TypeId} (ht:P.underlying t=some (.pointer e)) (a:Option Addr):(Op.equalIn (n+1) t (.pointer none) (.pointer a)).run P w= .ok a.isNone w:=by simp[Op.equalIn,run_underlying ht]
theorem eqIn_mapR {k e:TypeId} (ht:P.underlying t=some (.map k e)) (a:Option Nat):(Op.equalIn (n+1) t (.map a) (.map none)).run P w= .ok a.isNone w:=by cases a<;>simp[Op.equalIn,run_underlying ht]
theorem eqIn_mapL {k e:TypeId} (ht:P.underlying t=some (.map k e)) (a:Option Nat):(Op.equalIn (n+1) t (.map none) (.map a)).run P w= .ok a.isNone w:=by simp[Op.equalIn,run_underlying ht]
theorem eqIn_funcN {p r:Array TypeId} {v:Bool} (ht:P.underlying t=some (.func p r v)):(Op.equalIn (n+1) t .nilFunc .nilFunc).run P w= .ok true w:=by simp[Op.equalIn,run_underlying ht]
theorem eqIn_funcR {p r:Array TypeId} {v:Bool} (ht:P.underlying t=some (.func p r v)) (f:Fn) (x y:Array Value):(Op.equalIn (n+1) t (.func f x y) .nilFunc).run P w= .ok false w:=by simp[Op.equalIn,run_underlying ht]
theorem eqIn_funcL {p r:Array TypeId} {v:Bool} (ht:P.underlying t=some (.func p r v)) (f:Fn) (x y:Array Value):(Op.equalIn (n+1) t .nilFunc (.func f x y)).run P w= .ok false w:=by simp[Op.equalIn,run_underlying ht]
end
theorem ok_eqB {P:Program} {o:Oper} {op:BinOp} {neg:Bool} {t yt:TypeId} {x y:Operand} {x' y':Arg} (ho:o.op= .binOp op t x y yt) (ht:P.underlying t=some .bool) (hop:eqOp op=some neg) (hx:cArg x=some x') (hy:cArg y=some y'):POpOK P o (.eqB neg x' y'):=by
 intro ρ a act w z hf hz
 simp only[POp.ev] at hz
 split at hz
 ·rename_i b c hb hc
  simp only[Option.some.injEq] at hz
  subst hz
  have h1:=hf.ev hx
  rw[hb] at h1
  have h1:=h1.bool_inv
  have h2:=hf.ev hy
  rw[hc] at h2
  have h2:=h2.bool_inv
  refine ⟨.bool (if neg then b !=c else b==c),?_,by simp[VR]⟩
  have he:(Op.equal t (.bool b) (.bool c)).run P w= .ok (b==c) w:=by
   exact eqIn_bool 9999 ht b c
  cases op<;>simp only[eqOp,Option.some.injEq,reduceCtorEq] at hop<;>subst hop<;>simp[execOp,ho,h1,h2,eqGuard_at_bool,binOp,he]
  cases b<;>cases c<;>rfl
 ·simp at hz
theorem eqF_ok {P:Program} {w:World} {ρ:List RB} {us vs:Array Value} (d:Nat): ∀(fs:List Field) (i:Nat) (ks:List Bool) (xs ys:List AVal) (r:Bool),fldK P fs i=some ks→VRs ρ xs (us.toList.drop i)→VRs ρ ys (vs.toList.drop i)→eqC ks xs ys=some r→(Op.eqFields (d+1) us vs fs).run P w= .ok r w
 | [],i,ks,xs,ys,r,hk,hx,hy,he=>by
  simp only[fldK,Option.some.injEq] at hk
  subst hk
  cases xs<;>cases ys<;>simp[eqC] at he
  simp[Op.eqFields,←he]
 |f::fs,i,ks,xs,ys,r,hk,hx,hy,he=>by
  simp only[fldK] at hk
  split at hk
  ·rename_i hn
   have hd: ∀{zs:Array Value} {z:Value} {rest:List Value},zs.toList.drop i=z::rest→zs[i]? =some z∧zs.toList.drop (i+1)=rest:=fun {zs z rest} h=>by
    refine ⟨?_,?_⟩
    ·have:=congrArg (·[0]?) h
     simpa using this
    ·have:=congrArg List.tail h
     simpa using this
   have hpart: ∀{b:Bool} {zs:Array Value} {z:Value},aggOf P f.type=some b→b=false→zs[i]? =some z→(part f.type zs f.offset).run P w= .ok z w:=fun {b zs z} hb hbf hz=>by
    subst hbf
    simp only[part,Sem.run_bind,run_isAgg hb,Result.andThen_ok]
    simp[hn.2,hz]
   split at hk
   ·rename_i ht
    simp only[Option.map_eq_some_iff] at hk
    obtain ⟨ks',hk,rfl⟩:=hk
    cases xs with
    |nil=>simp[eqC] at he
    |cons x xs=>
     cases ys with
     |nil=>cases x<;>simp[eqC] at he
     |cons y ys=>
      cases x<;>try (simp[eqC] at he;done)
      cases y<;>try (simp[eqC] at he;done)
      rename_i a b
      simp only[eqC,Option.map_eq_some_iff] at he
      obtain ⟨q,he,rfl⟩:=he
      simp only[VRs] at hx hy
      obtain ⟨u,us',h1,h2,h3⟩:=hx
      obtain ⟨v,vs',g1,g2,g3⟩:=hy
      obtain ⟨h4,rfl⟩:=hd h1
      obtain ⟨g4,rfl⟩:=hd g1
      have h2:=h2.bool_inv
      have g2:=g2.bool_inv
      subst h2 g2
      have hag:aggOf P f.type=some false:=by simp[aggOf,ht]
      have ih:=eqF_ok (w:=w) d fs (i+1) ks' xs ys q hk h3 g3 he
      simp only[Op.eqFields]
      rw[if_pos hn.1]
      simp only[Sem.run_bind,hpart hag rfl h4,hpart hag rfl g4,Result.andThen_ok,run_equalIn_bool' w d f.type a b ht]
      cases hab:(a==b)
      ·simp
      ·simp[ih]
   ·rename_i k0 ht
    simp only[Option.map_eq_some_iff] at hk
    obtain ⟨ks',hk,rfl⟩:=hk
    cases xs with
    |nil=>simp[eqC] at he
    |cons x xs=>
     cases ys with
     |nil=>cases x<;>simp[eqC] at he
     |cons y ys=>
      cases x<;>try (simp[eqC] at he;done)
      cases y<;>try (simp[eqC] at he;done)
      rename_i k a k' b
      simp only[eqC] at he
      split at he
      ·rename_i hkk
       subst hkk
       simp only[Option.map_eq_some_iff] at he
       obtain ⟨q,he,rfl⟩:=he
       simp only[VRs] at hx hy
       obtain ⟨u,us',h1,h2,h3⟩:=hx
       obtain ⟨v,vs',g1,g2,g3⟩:=hy
       obtain ⟨h4,rfl⟩:=hd h1
       obtain ⟨g4,rfl⟩:=hd g1
       have h2:=h2.int_inv
       have g2:=g2.int_inv
       subst h2 g2
       have hag:aggOf P f.type=some false:=by simp[aggOf,ht]
       have ih:=eqF_ok (w:=w) d fs (i+1) ks' xs ys q hk h3 g3 he
       simp only[Op.eqFields]
       rw[if_pos hn.1]
       simp only[Sem.run_bind,hpart hag rfl h4,hpart hag rfl g4,Result.andThen_ok,run_equalIn_int w d f.type k k0 a b ht]
       cases hab:(a==b)
       ·simp
       ·simp[ih]
      ·simp at he
   ·simp at hk
  ·simp at hk
theorem ok_eqS {P:Program} {o:Oper} {op:BinOp} {neg:Bool} {ks:List Bool} {t yt:TypeId} {x y:Operand} {x' y':Arg} (ho:o.op= .binOp op t x y yt) (hop:eqOp op=some neg) (hf':flatS P t=some ks) (hx:cArg x=some x') (hy:cArg y=some y'):POpOK P o (.eqS neg ks x' y'):=by
 intro ρ a act w z hf hz
 simp only[POp.ev] at hz
 split at hz
 ·rename_i xs ys he1 he2
  simp only[Option.map_eq_some_iff] at hz
  obtain ⟨r,hr,rfl⟩:=hz
  have h1:=hf.ev hx
  have h2:=hf.ev hy
  rw[he1] at h1
  rw[he2] at h2
  simp only[VR] at h1 h2
  obtain ⟨us,h1,h3⟩:=h1
  obtain ⟨vs,h2,h4⟩:=h2
  unfold flatS at hf'
  split at hf'
  ·rename_i fs ht
   split at hf'
   ·rename_i hg
    have hfo:P.fieldsOf t=fs:=by simp[Program.fieldsOf,ht]
    have ht':P.underlying t=some (.struct (P.fieldsOf t)):=by rw[hfo];exact ht
    have hE:(Op.equalIn 10000 t (.agg us) (.agg vs)).run P w= .ok r w:=by
     rw[run_equalIn_struct w 9999 t us vs ht' hg.1,hfo]
     exact eqF_ok 9998 fs.toList 0 ks xs ys r hf' (by simpa using h3) (by simpa using h4) hr
    refine ⟨.bool (if neg then !r else r),?_,by simp[VR]⟩
    cases op<;>simp only[eqOp,Option.some.injEq,reduceCtorEq] at hop<;>subst hop
    ·simp only[execOp,ho,h1,h2,Sem.run_bind,run_eqGuard_agg w _ t x y us vs hg.2,Result.andThen_ok,run_eql_struct,hE]
     rfl
    ·simp only[execOp,ho,h1,h2,Sem.run_bind,run_eqGuard_agg w _ t x y us vs hg.2,Result.andThen_ok,run_neq_struct,hE]
     rfl
   ·simp at hf'
  ·simp at hf'
 ·simp at hz
theorem isNilOf_eq {ρ:List RB} {k:NilKind} {x:AVal} {b:Bool} {u:Value} (h:isNilOf k x=some b) (hv:VR ρ x u):
  (k= .slice∧ ∃a l c,u= .slice a l c∧b=a.isNone)∨(k= .ptr∧ ∃a,u= .pointer a∧b=a.isNone)∨(k= .map∧ ∃a,u= .map a∧b=a.isNone)∨(k= .func∧((u= .nilFunc∧b=true)∨(∃f x y,u= .func f x y∧b=false))):=by
 cases k<;>cases x<;>simp only[isNilOf,Option.some.injEq,reduceCtorEq] at h<;>subst h<;>simp only[VR] at hv
 ·subst hv;exact .inl ⟨rfl,_,_,_,rfl,rfl⟩
 ·obtain ⟨_,_,_,rfl,_⟩:=hv;exact .inl ⟨rfl,_,_,_,rfl,rfl⟩
 ·subst hv;exact .inr (.inl ⟨rfl,_,rfl,rfl⟩)
 ·obtain ⟨_,_,rfl⟩:=hv;exact .inr (.inl ⟨rfl,_,rfl,rfl⟩)
 ·subst hv;exact .inr (.inr (.inl ⟨rfl,_,rfl,rfl⟩))
 ·obtain ⟨_,_,rfl⟩:=hv;exact .inr (.inr (.inl ⟨rfl,_,rfl,rfl⟩))
 ·subst hv;exact .inr (.inr (.inr ⟨rfl,.inl ⟨rfl,rfl⟩⟩))
 ·obtain ⟨_,_,rfl,_⟩:=hv;exact .inr (.inr (.inr ⟨rfl,.inr ⟨_,_,_,rfl,rfl⟩⟩))
theorem equal_nil {P:Program} {w:World} {t:TypeId} {d:TypeDesc} {k:NilKind} {n:Operand} {ρ:List RB} {x:AVal} {b:Bool} {u:Value} (ht:P.underlying t=some d) (hk:nilKindOf d=some k) (hn:nilFits k n=true) (h:isNilOf k x=some b) (hv:VR ρ x u) (act:Act):
  (Op.equal t u (act.eval n)).run P w= .ok b w∧(Op.equal t (act.eval n) u).run P w= .ok b w∧(∀op X Y,eqGuard op t X Y u (act.eval n)=pure ())∧(∀op X Y,eqGuard op t X Y (act.eval n) u=pure ()):=by
 rcases isNilOf_eq h hv with ⟨rfl,a,l,c,rfl,rfl⟩|⟨rfl,a,rfl,rfl⟩|⟨rfl,a,rfl,rfl⟩|⟨rfl,h1⟩
 ·unfold nilFits at hn
  split at hn<;>simp only[reduceCtorEq,Bool.false_eq_true] at*
  cases d<;>simp only[nilKindOf,reduceCtorEq,Option.some.injEq] at hk
  exact ⟨eqIn_sliceR 9999 ht a l c,eqIn_sliceL 9999 ht a l c,fun op X Y=>eqGuard_at_slice ..,fun op X Y=>eqGuard_at_slice ..⟩
 ·unfold nilFits at hn
  split at hn<;>simp only[reduceCtorEq,Bool.false_eq_true] at*
  cases d<;>simp only[nilKindOf,reduceCtorEq,Option.some.injEq] at hk
  exact ⟨eqIn_ptrR 9999 ht a,eqIn_ptrL 9999 ht a,fun op X Y=>eqGuard_at_pointer ..,fun op X Y=>eqGuard_at_pointer ..⟩
 ·unfold nilFits at hn
  split at hn<;>simp only[reduceCtorEq,Bool.false_eq_true] at*
  cases d<;>simp only[nilKindOf,reduceCtorEq,Option.some.injEq] at hk
  exact ⟨eqIn_mapR 9999 ht a,eqIn_mapL 9999 ht a,fun op X Y=>eqGuard_at_map ..,fun op X Y=>eqGuard_at_map ..⟩
 ·unfold nilFits at hn
  split at hn<;>simp only[reduceCtorEq,Bool.false_eq_true] at*
  cases d<;>simp only[nilKindOf,reduceCtorEq,Option.some.injEq] at hk
  rcases h1 with ⟨rfl,rfl⟩|⟨f,x,y,rfl,rfl⟩
  ·exact ⟨eqIn_funcN 9999 ht,eqIn_funcN 9999 ht,fun op X Y=>eqGuard_at_nilFunc ..,fun op X Y=>eqGuard_at_nilFunc ..⟩
  ·exact ⟨eqIn_funcR 9999 ht f x y,eqIn_funcL 9999 ht f x y,fun op X Y=>eqGuard_at_func ..,fun op X Y=>eqGuard_at_nilFunc ..⟩
theorem binOp_eql_at {t:TypeId} {u v:Value} (h: ∀k n,u≠ .int k n) (h2: ∀s,u≠ .string s) (h3: ∀k n,u≠ .float k n) (h4: ∀k n m,u≠ .complex k n m):binOp .eql t u v=(do pure (.bool (←Op.equal t u v)):Sem Value)∧binOp .neq t u v=(do pure (.bool (!(←Op.equal t u v))):Sem Value):=by
 cases u<;>simp_all[binOp]
theorem ok_eqN {P:Program} {o:Oper} {op:BinOp} {neg:Bool} {t yt:TypeId} {d:TypeDesc} {k:NilKind} {x y:Operand} {x':Arg} (ho:o.op= .binOp op t x y yt∨o.op= .binOp op t y x yt) (ht:P.underlying t=some d) (hk:nilKindOf d=some k) (hop:eqOp op=some neg) (hn:nilFits k y=true) (hx:cArg x=some x'):POpOK P o (.eqN k neg x'):=by
 intro ρ a act w z hf hz
 simp only[POp.ev,Option.map_eq_some_iff] at hz
 obtain ⟨b,hb,rfl⟩:=hz
 have hv:=hf.ev hx
 obtain ⟨h1,h2,h3,h4⟩:=equal_nil (w:=w) ht hk hn hb hv act
 refine ⟨.bool (if neg then !b else b),?_,by simp[VR]⟩
 have hu:(∀k n,act.eval x≠ .int k n)∧(∀s,act.eval x≠ .string s)∧(∀k n,act.eval x≠ .float k n)∧(∀k n m,act.eval x≠ .complex k n m):=by
  rcases isNilOf_eq hb hv with ⟨_,a,l,c,he,_⟩|⟨_,a,he,_⟩|⟨_,a,he,_⟩|⟨_,⟨he,_⟩|⟨f,x,y,he,_⟩⟩<;>simp[he]
 have hc:(∀k n,act.eval y≠ .int k n)∧(∀s,act.eval y≠ .string s)∧(∀k n,act.eval y≠ .float k n)∧(∀k n m,act.eval y≠ .complex k n m):=by
  unfold nilFits at hn
  split at hn<;>simp_all[Act.eval]
 rcases ho with ho|ho
 ·cases op<;>simp only[eqOp,Option.some.injEq,reduceCtorEq] at hop<;>subst hop
  ·simp only[execOp,ho,h3,(binOp_eql_at hu.1 hu.2.1 hu.2.2.1 hu.2.2.2 (t:=t)).1]
   simp[h1]
  ·simp only[execOp,ho,h3,(binOp_eql_at hu.1 hu.2.1 hu.2.2.1 hu.2.2.2 (t:=t)).2]
   simp[h1]
 ·cases op<;>simp only[eqOp,Option.some.injEq,reduceCtorEq] at hop<;>subst hop
  ·simp only[execOp,ho,h4,(binOp_eql_at hc.1 hc.2.1 hc.2.2.1 hc.2.2.2 (t:=t)).1]
   simp[h2]
  ·simp only[execOp,ho,h4,(binOp_eql_at hc.1 hc.2.1 hc.2.2.1 hc.2.2.2 (t:=t)).2]
   simp[h2]
theorem ok_un {P:Program} {o:Oper} {op:UnOp} {t:TypeId} {x:Operand} {x':Arg} (ho:o.op= .unOp op t x) (hx:cArg x=some x'):POpOK P o (.un op x'):=by
 intro ρ a act w z hf hz
 have hv:=hf.ev hx
 simp only[POp.ev] at hz
 split at hz
 ·rename_i k n he
  simp only[Option.some.injEq] at hz
  subst hz
  rw[he] at hv
  exact ⟨_,by simp[execOp,ho,hv.int_inv,Op.unary,Op.intArith];rfl,by simp[VR]⟩
 ·rename_i b he
  simp only[Option.some.injEq] at hz
  subst hz
  rw[he] at hv
  exact ⟨_,by simp[execOp,ho,hv.bool_inv,Op.unary];rfl,by simp[VR]⟩
 ·simp at hz
theorem ok_i2i {P:Program} {o:Oper} {s d:TypeId} {k0 k:IntKind} {x:Operand} {x':Arg} (ho:o.op= .convert s d x) (hs:P.underlying s=some (.int k0)) (hd:P.underlying d=some (.int k)) (hx:cArg x=some x'):POpOK P o (.i2i k x'):=by
 intro ρ a act w z hf hz
 have hv:=hf.ev hx
 simp only[POp.ev] at hz
 split at hz
 ·rename_i k' n he
  simp only[Option.some.injEq] at hz
  subst hz
  rw[he] at hv
  exact ⟨_,by simp[execOp,ho,hv.int_inv,convert,run_underlying hs,run_underlying hd,Conv.intToInt];rfl,by simp[VR]⟩
 ·simp at hz
theorem ok_faddr {P:Program} {o:Oper} {s:TypeId} {fs:Array Field} {f n:Nat} {g:Field} {x:Operand} {x':Arg} (ho:o.op= .fieldAddr s x f) (hs:P.underlying s=some (.struct fs)) (hg:fs[f]? =some g) (hn:szOf P g.type=some n) (h0:n≠0) (hx:cArg x=some x'):POpOK P o (.faddr g.offset x'):=by
 intro ρ a act w z hf hz
 have hv:=hf.ev hx
 simp only[POp.ev] at hz
 split at hz
 ·rename_i b of he
  simp only[Option.some.injEq] at hz
  subst hz
  rw[he] at hv
  simp only[VR] at hv
  obtain ⟨ad,hb,hv⟩:=hv
  refine ⟨.pointer (some ⟨ad.block,ad.off+of+g.offset,none⟩),?_,by simp only[VR];exact ⟨ad,hb,by simp[Nat.add_assoc]⟩⟩
  simp[execOp,ho,hv,Instr.fieldAt,run_underlying hs,hg,Instr.sureAddr,fieldPlace,run_sizeOf hn,h0,Addr.add_lit]
 ·simp at hz
theorem run_part {P:Program} {t:TypeId} {n:Nat} {b:Bool} (hn:szOf P t=some n) (hb:aggOf P t=some b) (ρ:List RB) {cs:List AVal} {cs':Array Value} (hc:VRs ρ cs cs'.toList) {off:Nat} {x:AVal} (h:(if b=true then (readN cs off n).map .agg else cs[off]?)=some x) (w:World):
  ∃v,(part t cs' off).run P w= .ok v w∧VR ρ x v:=by
 simp only[part,Sem.run_bind,run_isAgg hb,Result.andThen_ok]
 cases b with
 |true=>
  simp only[if_true,Option.map_eq_some_iff] at h
  obtain ⟨ys,hy,rfl⟩:=h
  refine ⟨.agg (cs'.extract off (off+n)),by simp[run_sizeOf hn],?_⟩
  simp only[VR]
  refine ⟨_,rfl,?_⟩
  unfold readN at hy
  split at hy
  ·rename_i hle
   simp only[Option.some.injEq] at hy
   subst hy
   have hl:=hc.length
   refine VRs.of_get (by simp;simp at hl;omega) fun i y u hy hu=>?_
   have hi:i<n:=by
    rcases Nat.lt_or_ge i n with h|h
    ·exact h
    ·simp[List.getElem?_take,Nat.not_lt.2 h] at hy
   simp only[List.getElem?_take,hi,if_true,List.getElem?_drop] at hy
   obtain ⟨u',hu',hr⟩:=hc.get _ y hy
   have:(cs'.extract off (off+n)).toList[i]? =cs'.toList[off+i]? :=by
    simp only[Array.toList_extract,List.extract_eq_take_drop,List.getElem?_take,List.getElem?_drop]
    rw[if_pos (by omega)]
   rw[this,hu'] at hu
   simp only[Option.some.injEq] at hu
   subst hu
   exact hr
  ·simp at hy
 |false=>
  simp only[Bool.false_eq_true,if_false] at h
  obtain ⟨v,hv,hr⟩:=hc.get _ x h
  refine ⟨v,?_,hr⟩
  have:cs'[off]? =some v:=by simpa using hv
  simp[this]
theorem ok_field {P:Program} {o:Oper} {s:TypeId} {fs:Array Field} {f n:Nat} {b:Bool} {g:Field} {x:Operand} {x':Arg} (ho:o.op= .field s x f) (hs:P.underlying s=some (.struct fs)) (hg:fs[f]? =some g) (hn:szOf P g.type=some n) (hb:aggOf P g.type=some b) (hx:cArg x=some x'):POpOK P o (.field g.offset n b x'):=by
 intro ρ a act w z hf hz
 have hv:=hf.ev hx
 simp only[POp.ev] at hz
 split at hz
 ·rename_i cs he
  rw[he] at hv
  simp only[VR] at hv
  obtain ⟨cs',hv,hc⟩:=hv
  obtain ⟨v,h1,h2⟩:=run_part hn hb ρ hc hz w
  exact ⟨v,by simp[execOp,ho,hv,Instr.field,run_underlying hs,hg,asAgg,h1],h2⟩
 ·simp at hz
theorem ok_iaddr {P:Program} {o:Oper} {t e:TypeId} {s:Nat} {x i:Operand} {x' i':Arg} (ho:o.op= .indexAddr t x i) (ht:P.underlying t=some (.slice e)) (hs:szOf P e=some s) (hx:cArg x=some x') (hi:cArg i=some i'):POpOK P o (.iaddr s x' i'):=by
 intro ρ a act w z hf hz
 have hv:=hf.ev hx
 have hw:=hf.ev hi
 simp only[POp.ev] at hz
 split at hz
 ·rename_i b of l c ex k n he hi
  split at hz
  ·rename_i hb
   simp only[Option.some.injEq] at hz
   subst hz
   rw[he] at hv
   rw[hi] at hw
   simp only[VR] at hv
   obtain ⟨ad,a',c',hv,had,ha',hlc,_⟩:=hv
   have hc:c'≠0:=by omega
   have ha':=ha' hc
   subst ha'
   refine ⟨.pointer (some ⟨ad.block,ad.off+of+n.toNat*s,none⟩),?_,by simp only[VR];exact ⟨ad,had,by simp[Nat.add_assoc]⟩⟩
   simp[execOp,ho,hv,hw.int_inv,Instr.indexAt,run_underlying ht,asIntOf,hb,run_sizeOf hs,Addr.add_lit]
  ·simp at hz
 ·simp at hz
theorem ok_iaddrA {P:Program} {o:Oper} {t e:TypeId} {l s:Nat} {x i:Operand} {x' i':Arg} (ho:o.op= .indexAddr t x i) (ht:P.underlying t=some (.array l e)) (hs:szOf P e=some s) (hx:cArg x=some x') (hi:cArg i=some i'):POpOK P o (.iaddrA l s x' i'):=by
 intro ρ a act w z hf hz
 have hv:=hf.ev hx
 have hw:=hf.ev hi
 simp only[POp.ev] at hz
 split at hz
 ·rename_i b of k n he hi
  split at hz
  ·rename_i hb
   simp only[Option.some.injEq] at hz
   subst hz
   rw[he] at hv
   rw[hi] at hw
   simp only[VR] at hv
   obtain ⟨ad,had,hv⟩:=hv
   refine ⟨.pointer (some ⟨ad.block,ad.off+of+n.toNat*s,none⟩),?_,by simp only[VR];exact ⟨ad,had,by simp[Nat.add_assoc]⟩⟩
   simp[execOp,ho,hv,hw.int_inv,Instr.indexAt,run_underlying ht,asIntOf,hb,run_sizeOf hs,Addr.add_lit,Instr.sureAddr]
  ·simp at hz
 ·rename_i b of k n he hi
  split at hz
  ·rename_i hb
   simp only[Option.some.injEq] at hz
   subst hz
   rw[he] at hv
   rw[hi] at hw
   simp only[VR] at hv
   refine ⟨.pointer (some ⟨b,of+n.toNat*s,none⟩),?_,by simp only[VR]⟩
   simp[execOp,ho,hv,hw.int_inv,Instr.indexAt,run_underlying ht,asIntOf,hb,run_sizeOf hs,Addr.add_lit,Instr.sureAddr]
  ·simp at hz
 ·simp at hz
theorem ok_ixs {P:Program} {o:Oper} {t:TypeId} {x i:Operand} {x' i':Arg} (ho:o.op= .index t x i) (ht:P.underlying t=some .string) (hx:cArg x=some x') (hi:cArg i=some i'):POpOK P o (.ixs x' i'):=by
 intro ρ a act w z hf hz
 have hv:=hf.ev hx
 have hw:=hf.ev hi
 simp only[POp.ev] at hz
 split at hz
 ·rename_i s k n he hi
  simp only[Option.map_eq_some_iff] at hz
  obtain ⟨u,hu,rfl⟩:=hz
  rw[he] at hv
  rw[hi] at hw
  simp only[VR] at hv
  exact ⟨_,by simp[execOp,ho,hv,hw.int_inv,Instr.index,run_underlying ht,asIntOf,hu];rfl,by simp[VR]⟩
 ·simp at hz
theorem ok_ixa {P:Program} {o:Oper} {t e:TypeId} {l s:Nat} {b:Bool} {x i:Operand} {x' i':Arg} (ho:o.op= .index t x i) (ht:P.underlying t=some (.array l e)) (hs:szOf P e=some s) (hb:aggOf P e=some b) (hx:cArg x=some x') (hi:cArg i=some i'):POpOK P o (.ixa l s b x' i'):=by
 intro ρ a act w z hf hz
 have hv:=hf.ev hx
 have hw:=hf.ev hi
 simp only[POp.ev] at hz
 split at hz
 ·rename_i cs k n he hi
  split at hz
  ·rename_i hn
   rw[he] at hv
   rw[hi] at hw
   simp only[VR] at hv
   obtain ⟨cs',hv,hc⟩:=hv
   obtain ⟨v,h1,h2⟩:=run_part hs hb ρ hc hz w
   exact ⟨v,by simp[execOp,ho,hv,hw.int_inv,Instr.index,run_underlying ht,asIntOf,hn,run_sizeOf hs,h1],h2⟩
  ·simp at hz
 ·simp at hz
theorem ok_nilck {P:Program} {o:Oper} {x:Operand} {x':Arg} (ho:o.op= .nilCheck x) (hx:cArg x=some x'):POpOK P o (.nilck x'):=by
 intro ρ a act w z hf hz
 have hv:=hf.ev hx
 simp only[POp.ev] at hz
 split at hz
 ·rename_i b of he
  simp only[Option.some.injEq] at hz
  subst hz
  rw[he] at hv
  refine ⟨act.eval x,?_,hv⟩
  simp only[VR] at hv
  obtain ⟨ad,_,hv⟩:=hv
  simp[execOp,ho,hv]
 ·rename_i f fs cs he
  simp only[Option.some.injEq] at hz
  subst hz
  rw[he] at hv
  refine ⟨act.eval x,?_,hv⟩
  simp only[VR] at hv
  obtain ⟨_,_,hv,_⟩:=hv
  simp[execOp,ho,hv]
 ·simp at hz
theorem ok_ext {P:Program} {o:Oper} {x:Operand} {i:Nat} {x':Arg} (ho:o.op= .extract x i) (hx:cArg x=some x'):POpOK P o (.ext x' i):=by
 intro ρ a act w z hf hz
 have hv:=hf.ev hx
 simp only[POp.ev] at hz
 split at hz
 ·rename_i vs he
  rw[he] at hv
  simp only[VR] at hv
  obtain ⟨vs',hv,hc⟩:=hv
  obtain ⟨u,hu,hr⟩:=hc.get _ z hz
  refine ⟨u,?_,hr⟩
  have:vs'[i]? =some u:=by simpa using hu
  simp[execOp,ho,hv,Instr.extract,this]
 ·simp at hz
theorem ok_mkfn {P:Program} {o:Oper} {fn:Fn} {fs cs:Array Operand} {fs' cs':List Arg} (ho:o.op= .makeFunc fn fs cs) (h1:cArgs fs.toList=some fs') (h2:cArgs cs.toList=some cs'):POpOK P o (.mkfn fn fs' cs'):=by
 intro ρ a act w z hf hz
 simp only[POp.ev,Option.some.injEq] at hz
 subst hz
 refine ⟨.func fn (fs.map act.eval) (cs.map act.eval),by simp[execOp,ho,Instr.makeFunc],?_⟩
 simp only[VR]
 exact ⟨_,_,rfl,by simpa using cArgs_ev hf h1,by simpa using cArgs_ev hf h2⟩
theorem ok_mkif {P:Program} {o:Oper} {t:TypeId} {d:TypeDesc} {x:Operand} {x':Arg} (ho:o.op= .makeInterface t x) (ht:P.underlying t=some d) (hd: ∀m,d≠ .interface m) (hx:cArg x=some x'):POpOK P o (.mkif t x'):=by
 intro ρ a act w z hf hz
 simp only[POp.ev,Option.some.injEq] at hz
 subst hz
 refine ⟨.iface t (act.eval x),?_,by simp only[VR];exact ⟨_,rfl,hf.ev hx⟩⟩
 simp only[execOp,ho,Instr.makeInterface,Sem.run_bind,run_underlying ht,Result.andThen_ok]
 cases d<;>first
  |rfl
  |exact absurd rfl (hd _)
theorem exec_builtin {P:Program} {o:Oper} {b:Builtin} {args:Array Operand} {tys:Array TypeId} {act:Act} {w:World} (ho:o.op= .call {callee:= .builtin b,args,argTypes:=tys}):
  ∃consts,(execOp act.eval o).run P w=(builtin b tys o.type consts (args.map act.eval)).run P w:=⟨_,by simp only[execOp,ho,resolve,pure_bind,invoke];rfl⟩
theorem ok_lenS {P:Program} {o:Oper} {t:TypeId} {x:Operand} {x':Arg} {args:Array Operand} {tys:Array TypeId} (ho:o.op= .call {callee:= .builtin .len,args,argTypes:=tys}) (ha:args.toList= [x]) (hty:tys.toList= [t]) (ht:P.underlying t=some .string) (hx:cArg x=some x'):POpOK P o (.lenS x'):=by
 intro ρ a act w z hf hz
 obtain rfl:args= #[x]:=by rw[←Array.toList_inj];simpa using ha
 obtain rfl:tys= #[t]:=by rw[←Array.toList_inj];simpa using hty
 have hv:=hf.ev hx
 simp only[POp.ev] at hz
 split at hz
 ·rename_i s he
  simp only[Option.some.injEq] at hz
  subst hz
  rw[he] at hv
  simp only[VR] at hv
  obtain ⟨c,hc⟩:=exec_builtin (act:=act) (w:=w) (P:=P) ho
  exact ⟨_,by rw[hc];simp[builtin,Builtin.len_,hv,run_underlying ht,goInt];rfl,by simp[VR]⟩
 ·simp at hz
theorem ok_len {P:Program} {o:Oper} {t e:TypeId} {x:Operand} {x':Arg} {args:Array Operand} {tys:Array TypeId} (ho:o.op= .call {callee:= .builtin .len,args,argTypes:=tys}) (ha:args.toList= [x]) (hty:tys.toList= [t]) (ht:P.underlying t=some (.slice e)) (hx:cArg x=some x'):POpOK P o (.len x'):=by
 intro ρ a act w z hf hz
 obtain rfl:args= #[x]:=by rw[←Array.toList_inj];simpa using ha
 obtain rfl:tys= #[t]:=by rw[←Array.toList_inj];simpa using hty
 have hv:=hf.ev hx
 obtain ⟨c,hc⟩:=exec_builtin (act:=act) (w:=w) (P:=P) ho
 simp only[POp.ev] at hz
 split at hz
 ·rename_i he
  simp only[Option.some.injEq] at hz
  subst hz
  rw[he] at hv
  simp only[VR] at hv
  exact ⟨_,by rw[hc];simp[builtin,Builtin.len_,hv,run_underlying ht,goInt];rfl,by simp[VR]⟩
 ·rename_i b of n k ex he
  simp only[Option.some.injEq] at hz
  subst hz
  rw[he] at hv
  simp only[VR] at hv
  obtain ⟨_,_,_,hv,_⟩:=hv
  exact ⟨_,by rw[hc];simp[builtin,Builtin.len_,hv,run_underlying ht,goInt];rfl,by simp[VR]⟩
 ·simp at hz
theorem run_eql_ptr_same {P:Program} (w:World) {tp te:TypeId} {j:TypeInfo} (a:Addr) (hp:P.underlying tp=some (.pointer te)) (hte:P.info? te=some j):
  (binOp .eql tp (.pointer (some a)) (.pointer (some a))).run P w= .ok (.bool true) w:=by
 have h: ∀d:Nat,(Op.equalIn (d+1) tp (.pointer (some a)) (.pointer (some a))).run P w= .ok true w:=fun d=>by
  simp[Op.equalIn,run_underlying hp,sizeOf,typeInfo,hte,run_sameAddr_same]
 simp only[binOp]
 simp[Op.equal,Op.maxDepth,h 9999]
theorem ok_eqP {P:Program} {o:Oper} {op:BinOp} {neg:Bool} {t yt te:TypeId} {x y:Operand} {x' y':Arg} (ho:o.op= .binOp op t x y yt) (ht:P.underlying t=some (.pointer te)) (hi:(P.info? te).isSome=true) (hop:eqOp op=some neg) (hx:cArg x=some x') (hy:cArg y=some y'):POpOK P o (.eqP neg x' y'):=by
 intro ρ a act w z hf hz
 simp only[POp.ev,Option.map_eq_some_iff] at hz
 obtain ⟨b,hb,rfl⟩:=hz
 have hv:=hf.ev hx
 have hw:=hf.ev hy
 obtain ⟨j,hj⟩:=Option.isSome_iff_exists.1 hi
 unfold ptrEq at hb
 split at hb
 ·rename_i B o1 B' o2 e1 e2
  split at hb
  ·rename_i he
   obtain ⟨rfl,rfl⟩:=he
   simp only[Option.some.injEq] at hb
   subst hb
   rw[e1] at hv
   rw[e2] at hw
   simp only[VR] at hv hw
   obtain ⟨A,hA,hv⟩:=hv
   obtain ⟨A',hA',hw⟩:=hw
   rw[hA] at hA'
   simp only[Option.some.injEq] at hA'
   subst hA'
   refine ⟨.bool (if neg then !true else true),?_,by simp[VR]⟩
   cases op<;>simp only[eqOp,Option.some.injEq,reduceCtorEq] at hop<;>subst hop
   ·simp only[execOp,ho,hv,hw,eqGuard_at_pointer]
    simp[run_eql_ptr_same w _ ht hj]
   ·simp only[execOp,ho,hv,hw,eqGuard_at_pointer]
    simp[Go.Lib.run_neq_ptr_same w _ ht hj]
  ·simp at hb
 ·simp at hb
theorem ok_sdata {P:Program} {o:Oper} {t e:TypeId} {x:Operand} {x':Arg} {args:Array Operand} {tys:Array TypeId} (ho:o.op= .call {callee:= .builtin .unsafeSliceData,args,argTypes:=tys}) (ha:args.toList= [x]) (hty:tys.toList= [t]) (ht:P.underlying t=some (.slice e)) (hx:cArg x=some x'):POpOK P o (.sdata x'):=by
 intro ρ a act w z hf hz
 obtain rfl:args= #[x]:=by rw[←Array.toList_inj];simpa using ha
 obtain rfl:tys= #[t]:=by rw[←Array.toList_inj];simpa using hty
 have hv:=hf.ev hx
 obtain ⟨c,hc⟩:=exec_builtin (act:=act) (w:=w) (P:=P) ho
 simp only[POp.ev] at hz
 split at hz
 ·rename_i he
  simp only[Option.some.injEq] at hz
  subst hz
  rw[he] at hv
  simp only[VR] at hv
  exact ⟨_,by rw[hc];simp[builtin,hv,Go.Lib.run_unsafeSliceData_nil];rfl,by simp[VR]⟩
 ·rename_i b of n k ex he
  split at hz
  ·rename_i h0
   simp only[Option.some.injEq] at hz
   subst hz
   rw[he] at hv
   simp only[VR] at hv
   obtain ⟨A,A',c',hv,hA,hA',hlc,_⟩:=hv
   have hc0:c'≠0:=by omega
   have:=hA' hc0
   subst this
   exact ⟨.pointer (some ⟨A.block,A.off+of,none⟩),by rw[hc];simp[builtin,hv,Go.Lib.run_unsafeSliceData_row w _ _ _ _ _ hc0],by simp only[VR];exact ⟨A,hA,rfl⟩⟩
  ·simp at hz
 ·simp at hz
theorem noEscape_next:Extern.allNextRows.lookup "internal/abi.NoEscape" =none:=by kernel_rfl
theorem noEscape_row (fn:Func) (h:fn.name= "internal/abi.NoEscape"):Extern.find fn=some Extern.AbiNoEscape.same:=by
 have h1:Extern.allGenericRows.lookup "internal/abi.NoEscape" =none:=by kernel_rfl
 have h2:Extern.allTypedRows.lookup "internal/abi.NoEscape" =none:=by kernel_rfl
 have h3:Extern.allRows.lookup "internal/abi.NoEscape" =some Extern.AbiNoEscape.same:=by kernel_rfl
 unfold Extern.find
 simp[h,h1,h2,h3]
theorem ok_noEscape {P:Program} {o:Oper} {f:FuncId} {fn:Func} {x:Operand} {x':Arg} {args:Array Operand} {tys:Array TypeId} (ho:o.op= .call {callee:= .value (.func f),args,argTypes:=tys}) (hfn:P.funcs[f]? =some fn) (hb:fn.body.isNone=true) (hn:fn.name= "internal/abi.NoEscape") (hor:(Extern.allNextRows.lookup fn.origin).isNone=true) (ha:args.toList= [x]) (hx:cArg x=some x'):POpOK P o (.mov x'):=by
 intro ρ a act w z hf hz
 obtain rfl:args= #[x]:=by rw[←Array.toList_inj];simpa using ha
 have hv:=hf.ev hx
 simp only[POp.ev,Option.some.injEq] at hz
 subst hz
 have hnx:Extern.findNext fn=none:=by
  unfold Extern.findNext
  have hor':Extern.allNextRows.lookup fn.origin=none:=by simpa using hor
  simp[hn,noEscape_next,hor']
 refine ⟨act.eval x,?_,hv⟩
 simp only[execOp,ho,resolve,Act.eval,Deferred.ofValue,pure_bind,invoke,callFunc,Sem.run_bind,run_program,Result.andThen_ok,hfn,hb,hn,hnx,noEscape_row fn hn]
 simp[Go.Lib.run_noEscape]
 cases x<;>simp[Act.eval]
theorem ok_cap {P:Program} {o:Oper} {t e:TypeId} {x:Operand} {x':Arg} {args:Array Operand} {tys:Array TypeId} (ho:o.op= .call {callee:= .builtin .cap,args,argTypes:=tys}) (ha:args.toList= [x]) (hty:tys.toList= [t]) (ht:P.underlying t=some (.slice e)) (hx:cArg x=some x'):POpOK P o (.cap x'):=by
 intro ρ a act w z hf hz
 obtain rfl:args= #[x]:=by rw[←Array.toList_inj];simpa using ha
 obtain rfl:tys= #[t]:=by rw[←Array.toList_inj];simpa using hty
 have hv:=hf.ev hx
 obtain ⟨c,hc⟩:=exec_builtin (act:=act) (w:=w) (P:=P) ho
 simp only[POp.ev] at hz
 split at hz
 ·rename_i he
  simp only[Option.some.injEq] at hz
  subst hz
  rw[he] at hv
  simp only[VR] at hv
  exact ⟨_,by rw[hc];simp[builtin,Builtin.cap_,hv,run_underlying ht,goInt];rfl,by simp[VR]⟩
 ·rename_i b of n k he0
  simp only[Option.some.injEq] at hz
  subst hz
  rw[he0] at hv
  simp only[VR] at hv
  obtain ⟨_,_,c',hv,_,_,_,he,_⟩:=hv
  have he:c'=k:=by simpa using he
  subst he
  exact ⟨_,by rw[hc];simp[builtin,Builtin.cap_,hv,run_underlying ht,goInt];rfl,by simp[VR]⟩
 ·simp at hz
theorem ok_max {P:Program} {o:Oper} {x y:Operand} {x' y':Arg} {args:Array Operand} {tys:Array TypeId} (ho:o.op= .call {callee:= .builtin .max,args,argTypes:=tys}) (ha:args.toList= [x,y]) (hx:cArg x=some x') (hy:cArg y=some y'):POpOK P o (.max x' y'):=by
 intro ρ a act w z hf hz
 obtain rfl:args= #[x,y]:=by rw[←Array.toList_inj];simpa using ha
 have hv:=hf.ev hx
 have hu:=hf.ev hy
 obtain ⟨c,hc⟩:=exec_builtin (act:=act) (w:=w) (P:=P) ho
 simp only[POp.ev] at hz
 split at hz
 ·rename_i k n k' m he he'
  simp only[Option.some.injEq] at hz
  subst hz
  rw[he] at hv
  rw[he'] at hu
  exact ⟨_,by rw[hc];simp[builtin,Builtin.max_,Builtin.max2,hv.int_inv,hu.int_inv];rfl,by simp[VR]⟩
 ·simp at hz
theorem ok_min {P:Program} {o:Oper} {x y:Operand} {x' y':Arg} {args:Array Operand} {tys:Array TypeId} (ho:o.op= .call {callee:= .builtin .min,args,argTypes:=tys}) (ha:args.toList= [x,y]) (hx:cArg x=some x') (hy:cArg y=some y'):POpOK P o (.min x' y'):=by
 intro ρ a act w z hf hz
 obtain rfl:args= #[x,y]:=by rw[←Array.toList_inj];simpa using ha
 have hv:=hf.ev hx
 have hu:=hf.ev hy
 obtain ⟨c,hc⟩:=exec_builtin (act:=act) (w:=w) (P:=P) ho
 simp only[POp.ev] at hz
 split at hz
 ·rename_i k n k' m he he'
  simp only[Option.some.injEq] at hz
  subst hz
  rw[he] at hv
  rw[he'] at hu
  exact ⟨_,by rw[hc];simp[builtin,Builtin.min_,Builtin.min2,hv.int_inv,hu.int_inv];rfl,by simp[VR]⟩
 ·simp at hz
theorem run_bound {P:Program} {k:IntKind} {n:Int} {y:Nat} {c:BoundsCode} (w:World) (h0:0≤n) (h1:n.toNat≤y):(Instr.sliceBound (.int k n) y c).run P w= .ok n.toNat w:=by
 have:n≤(y:Int):=by omega
 simp[Instr.sliceBound,asIntOf,h0,this]
theorem bnd_none {a:AFrame} {d:Nat} {l:Nat} (h:bnd a none d=some l):l=d:=by simpa[bnd] using h.symm
theorem bnd_some {ρ:List RB} {a:AFrame} {act:Act} (hf:FR ρ a act.tmps) {x:Operand} {x':Arg} (hx:cArg x=some x') {d l:Nat} (h:bnd a (some x') d=some l): ∃k n,act.eval x= .int k n∧0≤n∧n.toNat=l:=by
 have hv:=hf.ev hx
 simp only[bnd] at h
 split at h
 ·rename_i k n he
  split at h
  ·rename_i h0
   simp only[Option.some.injEq] at h
   rw[he] at hv
   exact ⟨k,n,hv.int_inv,h0,h⟩
  ·simp at h
 ·simp at h
theorem run_bounds {P:Program} {ρ:List RB} {a:AFrame} {act:Act} (hf:FR ρ a act.tmps) {lo hi mx:Option Operand} {lo' hi' mx':Option Arg} (hlo:cOpt lo=some lo') (hhi:cOpt hi=some hi') (hmx:cOpt mx=some mx')
  {isS:Bool} {len cap l h m:Nat} (h1:bnd a lo' 0=some l) (h2:bnd a hi' len=some h) (h3:bnd a mx' cap=some m) (hm:mx'.isSome=true→hi'.isSome=true) (hlh:l≤h) (hhm:hi'.isSome=true→h≤m) (hmc:m≤cap) (w:World):
  (Instr.sliceBounds isS len cap (lo.map act.eval) (hi.map act.eval) (mx.map act.eval)).run P w= .ok (l,h,m) w:=by
 have key: ∀(x:Option Operand) (x':Option Arg) (d r:Nat),cOpt x=some x'→bnd a x' d=some r→(x=none∧x'=none∧r=d)∨(∃y y' k n,x=some y∧x'=some y'∧act.eval y= .int k n∧0≤n∧n.toNat=r):=by
  intro x x' d r hx hr
  cases x with
  |none=>simp only[cOpt,Option.some.injEq] at hx;subst hx;exact .inl ⟨rfl,rfl,bnd_none hr⟩
  |some y=>
   simp only[cOpt,Option.map_eq_some_iff] at hx
   obtain ⟨y',hy,rfl⟩:=hx
   obtain ⟨k,n,h1,h2,h3⟩:=bnd_some hf hy hr
   exact .inr ⟨y,y',k,n,rfl,rfl,h1,h2,h3⟩
 rcases key mx mx' cap m hmx h3 with ⟨rfl,rfl,rfl⟩|⟨y3,y3',k3,n3,rfl,rfl,e3,p3,rfl⟩<;>rcases key hi hi' len h hhi h2 with ⟨rfl,rfl,rfl⟩|⟨y2,y2',k2,n2,rfl,rfl,e2,p2,rfl⟩<;>rcases key lo lo' 0 l hlo h1 with ⟨rfl,rfl,rfl⟩|⟨y1,y1',k1,n1,rfl,rfl,e1,p1,rfl⟩
 all_goals first
  |(simp at hm;done)
  |(simp only[Instr.sliceBounds,Option.map_some,Option.map_none,Sem.run_bind,Sem.run_pure,Result.andThen_ok, *]
    all_goals try simp only[Option.isSome_some,forall_const] at hhm
    all_goals first
     |rfl
     |(repeat (rw[run_bound (h0:=by assumption) (h1:=by first|assumption|omega)];try simp only[Result.andThen_ok])))
end Go.Proofs.YtodhalcpnmddjaaDoor.Ax
namespace Go.Proofs.YtodhalcpnmddjaaDoor.Ax
open Go
theorem evSlice_nil {esz l h:Nat} {m:Option Nat} {z:AVal} (hz:evSlice esz .nilslice l h m=some z):l=0∧h=0∧m.getD 0=0∧z= .nilslice:=by
 simp only[evSlice] at hz
 split at hz
 ·rename_i h1
  simp only[Option.some.injEq] at hz
  exact ⟨h1.1,h1.2.1,h1.2.2,hz.symm⟩
 ·simp at hz
theorem evSlice_some {esz b o n k l h:Nat} {ex:Option Nat} {m:Option Nat} {z:AVal} (hz:evSlice esz (.slice b o n k ex) l h m=some z):l≤h∧h≤m.getD k∧m.getD k≤k∧(ex=none∨ex=some esz∨m.isSome=true)∧z= .slice b (o+l*esz) (h-l) (m.getD k-l) (if m.isSome then none else ex):=by
 simp only[evSlice] at hz
 split at hz
 ·rename_i h1
  simp only[Option.some.injEq] at hz
  exact ⟨h1.1,h1.2.1,h1.2.2.1,h1.2.2.2,hz.symm⟩
 ·simp at hz
theorem run_slice_real {P:Program} {t e:TypeId} {s:Nat} (ht:P.underlying t=some (.slice e)) (hs:szOf P e=some s) (A:Option Addr) (n c l h m:Nat) (lo hi mx:Option Value) (w:World) (hb:(Instr.sliceBounds true n c lo hi mx).run P w= .ok (l,h,m) w):
  (Instr.sliceAt t (.slice A n c) lo hi mx).run P w= .ok (.slice (if m=l then A else A.map (·.add (l*s))) (h-l) (m-l)) w:=by
 simp only[Instr.sliceAt,Sem.run_bind,run_underlying ht,Result.andThen_ok,Instr.slice,hb,run_sizeOf hs]
 rfl
theorem ok_slice {P:Program} {o:Oper} {t e:TypeId} {s:Nat} {x:Operand} {lo hi mx:Option Operand} {x':Arg} {lo' hi' mx':Option Arg} (ho:o.op= .slice t x lo hi mx) (ht:P.underlying t=some (.slice e)) (hs:szOf P e=some s)
  (hx:cArg x=some x') (hlo:cOpt lo=some lo') (hhi:cOpt hi=some hi') (hmx:cOpt mx=some mx'):POpOK P o (.slice s x' lo' hi' mx'):=by
 intro ρ a act w z hf hz
 have hv:=hf.ev hx
 have hex:(execOp act.eval o).run P w=((Instr.sliceAt t (act.eval x) (lo.map act.eval) (hi.map act.eval) (mx.map act.eval)).run P w).andThen fun v w=> .ok (.value v) w:=by
  simp[execOp,ho]
 rw[hex]
 -- the two shapes of the value
 have nilc: ∀l h m,a.ev x'= .nilslice→bnd a lo' 0=some l→bnd a hi' 0=some h→bnd a mx' 0=some m→(mx'.isSome=true→hi'.isSome=true)→l=0→h=0→m=0→
   ∃v,(((Instr.sliceAt t (act.eval x) (lo.map act.eval) (hi.map act.eval) (mx.map act.eval)).run P w).andThen fun v w=> .ok (Next.value v) w)= .ok (.value v) w∧VR ρ .nilslice v:=by
  intro l h m he h1 h2 h3 hm e1 e2 e3
  subst e1 e2 e3
  rw[he] at hv
  simp only[VR] at hv
  rw[hv,run_slice_real ht hs none 0 0 0 0 0 _ _ _ w (run_bounds hf hlo hhi hmx h1 h2 h3 hm (Nat.le_refl _) (fun _=>Nat.le_refl _) (Nat.le_refl _) w)]
  exact ⟨_,rfl,by simp[VR]⟩
 have somec: ∀b of n k ex l h m,a.ev x'= .slice b of n k ex→bnd a lo' 0=some l→bnd a hi' n=some h→(mx'=none∧m=none∨ ∃q r,mx'=some q∧bnd a (some q) 0=some r∧m=some r∧hi'.isSome=true)→
   evSlice s (.slice b of n k ex) l h m=some z→
   ∃v,(((Instr.sliceAt t (act.eval x) (lo.map act.eval) (hi.map act.eval) (mx.map act.eval)).run P w).andThen fun v w=> .ok (Next.value v) w)= .ok (.value v) w∧VR ρ z v:=by
  intro b of n k ex l h m he h1 h2 h3 hz
  obtain ⟨q1,q2,q3,q4,rfl⟩:=evSlice_some hz
  rw[he] at hv
  simp only[VR] at hv
  obtain ⟨ad,A,c,hv,had,hA,hnc,hex,hkc,hgr⟩:=hv
  have hmr:bnd a mx' c=some (m.getD c):=by
   rcases h3 with ⟨rfl,rfl⟩|⟨q,r,rfl,hr,rfl,_⟩
   ·rfl
   ·unfold bnd at hr ⊢
    exact hr
  have hml:m.getD c≤c:=by
   cases m with
   |none=>exact Nat.le_refl _
   |some r=>simp only[Option.getD_some] at q3 ⊢;omega
  have hhm:h≤m.getD c:=by
   cases m with
   |none=>simp only[Option.getD_none] at q2 ⊢;omega
   |some r=>exact q2
  rw[hv,run_slice_real ht hs (some A) n c l h (m.getD c) _ _ _ w (run_bounds hf hlo hhi hmx h1 h2 hmr (by
   intro hs
   rcases h3 with ⟨rfl,rfl⟩|⟨q,r,rfl,hr,rfl,hq⟩
   ·simp at hs
   ·exact hq) q1 (fun _=>hhm) hml w)]
  refine ⟨_,rfl,?_⟩
  simp only[VR]
  refine ⟨ad,if m.getD c=l then A else A.add (l*s),m.getD c-l,?_,had,?_,by omega,?_,?_,?_⟩
  ·split<;>rfl
  ·intro hne
   rw[if_neg (by omega),hA (by omega),Addr.add_lit]
   simp[Nat.add_assoc]
  ·intro hn
   cases m with
   |none=>simp only[Option.isSome_none,Bool.false_eq_true,if_false] at hn;simp[hex hn]
   |some r=>rfl
  ·cases m with
   |none=>simp only[Option.getD_none];omega
   |some r=>exact Nat.le_refl _
  ·intro e hn
   cases m with
   |none=>
    simp only[Option.isSome_none,Bool.false_eq_true,if_false] at hn
    subst hn
    obtain ⟨g1,g2⟩:=hgr e rfl
    have hes:e=s:=by simpa using q4
    subst hes
    refine ⟨g1,fun hne=>?_⟩
    simp only[Option.getD_none] at hne q2 q3 ⊢
    have hlc:l≤c:=by omega
    have:=g2 (by omega)
    have h2:l*e+(c-l)*e=c*e:=by rw[←Nat.add_mul];congr 1;omega
    omega
   |some r=>simp at hn
 simp only[POp.ev] at hz
 split at hz
 ·rename_i l he h1
  simp only[Option.bind_eq_some_iff] at hz
  obtain ⟨h,h2,hz⟩:=hz
  obtain ⟨e1,e2,e3,rfl⟩:=evSlice_nil hz
  exact nilc l h 0 he h1 h2 (by simp[bnd]) (by simp) e1 e2 rfl
 ·rename_i l m he h1
  split at hz
  ·rename_i q
   simp only[Option.bind_eq_some_iff] at hz
   obtain ⟨h,h2,r,h3,hz⟩:=hz
   obtain ⟨e1,e2,e3,rfl⟩:=evSlice_nil hz
   exact nilc l h r he h1 h2 h3 (by simp) e1 e2 (by simpa using e3)
  ·simp at hz
 ·rename_i b of n k ex l he h1
  simp only[Option.bind_eq_some_iff] at hz
  obtain ⟨h,h2,hz⟩:=hz
  exact somec b of n k ex l h none he h1 h2 (.inl ⟨rfl,rfl⟩) hz
 ·rename_i b of n k ex l m he h1
  split at hz
  ·rename_i q
   simp only[Option.bind_eq_some_iff] at hz
   obtain ⟨h,h2,r,h3,hz⟩:=hz
   exact somec b of n k ex l h (some r) he h1 h2 (.inr ⟨m,r,rfl,h3,rfl,rfl⟩) hz
  ·simp at hz
 ·simp at hz
theorem ok_sliceS {P:Program} {o:Oper} {t:TypeId} {x:Operand} {lo hi:Option Operand} {x':Arg} {lo' hi':Option Arg} (ho:o.op= .slice t x lo hi none) (ht:P.underlying t=some .string)
  (hx:cArg x=some x') (hlo:cOpt lo=some lo') (hhi:cOpt hi=some hi'):POpOK P o (.sliceS x' lo' hi'):=by
 intro ρ a act w z hf hz
 have hv:=hf.ev hx
 simp only[POp.ev] at hz
 split at hz
 ·rename_i s l he h1
  simp only[Option.bind_eq_some_iff] at hz
  obtain ⟨h,h2,hz⟩:=hz
  split at hz
  ·rename_i hle
   simp only[Option.some.injEq] at hz
   subst hz
   rw[he] at hv
   simp only[VR] at hv
   have hb:=run_bounds (P:=P) (isS:=false) (cap:=s.size) (mx:=none) (mx':=none) (m:=s.size) hf hlo hhi rfl h1 h2 rfl (by simp) hle.1 (fun _=>hle.2) (Nat.le_refl _) w
   simp only[Option.map_none] at hb
   exact ⟨.string (s.extract l h),by simp[execOp,ho,hv,Instr.sliceAt,run_underlying ht,Instr.slice,hb],by simp[VR]⟩
  ·simp at hz
 ·simp at hz
theorem ok_sliceA {P:Program} {o:Oper} {t e:TypeId} {n s:Nat} {x:Operand} {lo hi:Option Operand} {x':Arg} {lo' hi':Option Arg} (ho:o.op= .slice t x lo hi none) (ht:P.underlying t=some (.array n e)) (hs:szOf P e=some s)
  (hx:cArg x=some x') (hlo:cOpt lo=some lo') (hhi:cOpt hi=some hi'):POpOK P o (.sliceA n s x' lo' hi'):=by
 intro ρ a act w z hf hz
 have hv:=hf.ev hx
 simp only[POp.ev] at hz
 split at hz
 ·rename_i b of l h he h1 h2
  split at hz
  ·rename_i hle
   simp only[Option.some.injEq] at hz
   subst hz
   rw[he] at hv
   simp only[VR] at hv
   obtain ⟨ad,had,hv⟩:=hv
   have hb:=run_bounds (P:=P) (isS:=false) (cap:=n) (mx:=none) (mx':=none) (m:=n) hf hlo hhi rfl h1 h2 rfl (by simp) hle.1 (fun _=>hle.2) (Nat.le_refl _) w
   simp only[Option.map_none] at hb
   refine ⟨_,by simp only[execOp,ho,hv,Instr.sliceAt,Sem.run_bind,run_underlying ht,Result.andThen_ok,Instr.sureAddr,Sem.run_pure,Option.map_none,hb,run_sizeOf hs];rfl,?_⟩
   simp only[VR]
   refine ⟨ad,_,n-l,rfl,had,fun hne=>?_,by omega,fun _=>rfl,Nat.le_refl _,by simp⟩
   rw[if_neg (by omega),Addr.add_lit]
   simp[Nat.add_assoc]
  ·simp at hz
 ·simp at hz
theorem fill_zip (vs:List Value): ∀(k:Nat) (cs:Array Value) (off:Nat),(∀(cells:List AVal) (ρ:List RB) (xs:List AVal),VRs ρ cells cs.toList→VRs ρ xs vs→VRs ρ (setN cells (off+k) xs) ((vs.zipIdx k).foldl (fun cs (c,j)=>cs.setIfInBounds (off+j) c) cs).toList):=by
 induction vs with
 |nil=>
  intro k cs off cells ρ xs hc hx
  cases xs with
  |nil=>simpa[setN] using hc
  |cons x xs=>simp only[VRs] at hx;obtain ⟨_,_,h,_⟩:=hx;simp at h
 |cons v vs ih=>
  intro k cs off cells ρ xs hc hx
  cases xs with
  |nil=>simp only[VRs] at hx;simp at hx
  |cons x xs=>
   simp only[VRs] at hx
   obtain ⟨v',vs',he,hv,hx⟩:=hx
   simp only[List.cons.injEq] at he
   obtain ⟨rfl,rfl⟩:=he
   simp only[List.zipIdx_cons,List.foldl_cons,setN]
   have:=ih (k+1) (cs.setIfInBounds (off+k) v) off (cells.set (off+k) x) ρ xs ?_ hx
   ·exact this
   ·have hl:=hc.length
    refine VRs.of_get (by simpa using hl) fun i y u hy hu=>?_
    rw[List.getElem?_set] at hy
    simp only[Array.toList_setIfInBounds,List.getElem?_set] at hu
    by_cases h:off+k=i
    ·subst h
     simp only[if_true] at hy hu
     split at hy
     ·split at hu
      ·simp only[Option.some.injEq] at hy hu
       subst hy hu
       exact hv
      ·simp at hu
     ·simp at hy
    ·rw[if_neg h] at hy hu
     obtain ⟨u',hu',hr⟩:=hc.get i y hy
     rw[hu'] at hu
     simp only[Option.some.injEq] at hu
     subst hu
     exact hr
theorem fill_ok {ρ:List RB} {a:AFrame} {act:Act} (hf:FR ρ a act.tmps) (places:Nat→Option (Nat×Nat)) (zs:List AVal): ∀(parts:List (Nat×Operand)) (ps:List (Nat×Nat×Arg)) (cells:List AVal) (cs:Array Value),cParts places parts=some ps→VRs ρ cells cs.toList→
  fillA cells (ps.map fun p=>(p.1,p.2.1,a.ev p.2.2))=some zs→ ∃cs',Instr.fill places cs (parts.map fun (i,x)=>(i,act.eval x))=some cs'∧VRs ρ zs cs'.toList
 | [],ps,cells,cs,hp,hc,hz=>by
  simp only[cParts,Option.some.injEq] at hp
  subst hp
  simp only[List.map_nil,fillA,Option.some.injEq] at hz
  subst hz
  exact ⟨cs,rfl,hc⟩
 |(i,x)::rest,ps,cells,cs,hp,hc,hz=>by
  simp only[cParts] at hp
  split at hp
  ·rename_i of s y ys h1 h2 h3
   simp only[Option.some.injEq] at hp
   subst hp
   simp only[List.map_cons,fillA] at hz
   split at hz
   ·simp at hz
   ·rename_i hn
    simp only[not_or,Nat.not_lt,Bool.not_eq_false,ne_eq,Classical.not_not,gt_iff_lt] at hn
    obtain ⟨n1,n2,n3⟩:=hn
    have hu:a.ev y≠ .undef:=by
     intro he
     rw[he] at n3
     simp[AVal.cells,AVal.one] at n3
    have hv:=VR.cells (fun _ _ _=>trivial) hu (hf.ev h2)
    have hlv:=hv.length
    have hlc:=hc.length
    simp only[Array.length_toList] at hlv hlc
    have hstep:=fill_zip (act.eval x).cells.toList 0 cs of cells ρ _ hc hv
    obtain ⟨cs',h5,h6⟩:=fill_ok hf places zs rest ys _ ((act.eval x).cells.zipIdx.foldl (fun cs (c,j)=>cs.setIfInBounds (of+j) c) cs) h3 (by
     rw[←Array.foldl_toList,Array.toList_zipIdx]
     simpa using hstep) hz
    refine ⟨cs',?_,h6⟩
    simp only[List.map_cons,Instr.fill,h1]
    rw[if_neg (by simp;omega)]
    exact h5
  ·simp at hp
theorem ok_build {P:Program} {o:Oper} {t:TypeId} {parts:Array (Nat×Operand)} {p:POp} (ho:o.op= .build t parts) (hp:cBuild P t parts.toList=some p):POpOK P o p:=by
 intro ρ a act w z hf hz
 have hpm:(parts.map fun (i,x)=>(i,act.eval x)).toList=parts.toList.map fun (i,x)=>(i,act.eval x):=by simp
 unfold cBuild at hp
 split at hp
 ·rename_i z0 fs hz0 hu
  simp only[Option.bind_eq_some_iff] at hp
  obtain ⟨ps,h1,hp⟩:=hp
  split at hp
  ·rename_i hall
   simp only[Option.some.injEq] at hp
   subst hp
   simp only[POp.ev,Option.map_eq_some_iff] at hz
   obtain ⟨zs,hzs,rfl⟩:=hz
   obtain ⟨zv,hzv,hzc⟩:=run_zeroValue hz0 w
   have hmap: ∀(l:List Field),l.all (fun f=>(szOf P f.type).isSome)=true→(l.mapM fun f=>(do pure (f.offset,←sizeOf f.type):Sem (Nat×Nat))).run P w= .ok (l.map fun f=>(f.offset,(szOf P f.type).getD 0)) w:=by
    intro l hl
    induction l with
    |nil=>simp
    |cons f l ih=>
     simp only[List.all_cons,Bool.and_eq_true] at hl
     obtain ⟨n,hn⟩:=Option.isSome_iff_exists.1 hl.1
     simp only[List.mapM_cons,Sem.run_bind,run_sizeOf hn,Result.andThen_ok,Sem.run_pure,ih hl.2,List.map_cons,hn,Option.getD_some]
   have hm:(fs.mapM fun f=>(do pure (f.offset,←sizeOf f.type):Sem (Nat×Nat))).run P w= .ok (fs.map fun f=>(f.offset,(szOf P f.type).getD 0)) w:=by
    rw[Array.mapM_eq_mapM_toList,Sem.run_map,hmap fs.toList (by simpa using hall)]
    simp[←Array.toList_map]
   have hplaces:cParts (fun i=>(fs.map fun f=>(f.offset,(szOf P f.type).getD 0))[i]?) parts.toList=some ps:=by
    rw[←h1]
    congr 1
    funext i
    simp only[Array.getElem?_map]
    cases hfi:fs[i]? with
    |none=>rfl
    |some f=>
     have:(szOf P f.type).isSome=true:=by
      have:=Array.all_eq_true_iff_forall_mem.1 hall f (Array.mem_of_getElem? hfi)
      exact this
     obtain ⟨n,hn⟩:=Option.isSome_iff_exists.1 this
     simp[hn]
   obtain ⟨cs',h5,h6⟩:=fill_ok hf _ zs parts.toList ps _ zv.cells hplaces (ofCells_VR hzc ρ) hzs
   refine ⟨.agg cs',?_,by simp only[VR];exact ⟨_,rfl,h6⟩⟩
   simp only[execOp,ho,Instr.build,Sem.run_bind,hzv,Result.andThen_ok,run_underlying hu,hm,hpm,h5]
   rfl
  ·simp at hp
 ·rename_i z0 n e hz0 hu
  simp only[Option.bind_eq_some_iff,Option.map_eq_some_iff] at hp
  obtain ⟨s,hs,ps,h1,rfl⟩:=hp
  simp only[POp.ev,Option.map_eq_some_iff] at hz
  obtain ⟨zs,hzs,rfl⟩:=hz
  obtain ⟨zv,hzv,hzc⟩:=run_zeroValue hz0 w
  obtain ⟨cs',h5,h6⟩:=fill_ok hf _ zs parts.toList ps _ zv.cells h1 (ofCells_VR hzc ρ) hzs
  refine ⟨.agg cs',?_,by simp only[VR];exact ⟨_,rfl,h6⟩⟩
  simp only[execOp,ho,Instr.build,Sem.run_bind,hzv,Result.andThen_ok,run_underlying hu,hpm,run_sizeOf hs,h5]
  rfl
 ·simp at hp
theorem cBin_ok {P:Program} {o:Oper} {op:BinOp} {t yt:TypeId} {x y:Operand} {p:POp} (ho:o.op= .binOp op t x y yt) (hp:cBin P op t x y=some p):POpOK P o p:=by
 unfold cBin at hp
 split at hp
 ·rename_i ht
  split at hp
  ·rename_i h1 h2 h3
   simp only[Option.some.injEq] at hp
   subst hp
   exact ok_eqB ho ht h1 h2 h3
  ·simp at hp
 ·rename_i d hd ht
  split at hp
  ·rename_i k hk
   split at hp
   ·rename_i neg hop
    split at hp
    ·rename_i hn
     simp only[Option.map_eq_some_iff] at hp
     obtain ⟨x',hx,rfl⟩:=hp
     exact ok_eqN (.inl ho) ht hk hop hn hx
    ·split at hp
     ·rename_i hn
      simp only[Option.map_eq_some_iff] at hp
      obtain ⟨x',hx,rfl⟩:=hp
      exact ok_eqN (.inr ho) ht hk hop hn hx
     ·split at hp
      ·rename_i te x1 y1 h2 h3
       split at hp
       ·rename_i hi
        simp only[Option.some.injEq] at hp
        subst hp
        exact ok_eqP ho ht hi hop h2 h3
       ·simp at hp
      ·simp at hp
   ·simp at hp
  ·split at hp
   ·rename_i h2 h3
    split at hp
    ·rename_i h4 h5
     simp only[Option.some.injEq] at hp
     subst hp
     exact ok_eqS ho h4 h5 h2 h3
    ·simp only[Option.some.injEq] at hp
     subst hp
     exact ok_bin ho h2 h3
   ·simp at hp
 ·simp at hp
theorem cSlice_ok {P:Program} {o:Oper} {t:TypeId} {x:Operand} {lo hi mx:Option Operand} {p:POp} (ho:o.op= .slice t x lo hi mx) (hp:cSlice P t x lo hi mx=some p):POpOK P o p:=by
 unfold cSlice at hp
 split at hp
 ·rename_i x' lo' hi' mx' hx hlo hhi hmx
  split at hp
  ·rename_i e ht
   simp only[Option.map_eq_some_iff] at hp
   obtain ⟨s,hs,rfl⟩:=hp
   exact ok_slice ho ht hs hx hlo hhi hmx
  ·rename_i ht
   split at hp
   ·rename_i hn
    simp only[Option.some.injEq] at hp
    subst hp
    cases mx with
    |none=>exact ok_sliceS ho ht hx hlo hhi
    |some m=>simp only[cOpt,Option.map_eq_some_iff] at hmx;obtain ⟨_,_,rfl⟩:=hmx;simp at hn
   ·simp at hp
  ·rename_i n e ht
   split at hp
   ·rename_i hn
    simp only[Option.map_eq_some_iff] at hp
    obtain ⟨s,hs,rfl⟩:=hp
    cases mx with
    |none=>exact ok_sliceA ho ht hs hx hlo hhi
    |some m=>simp only[cOpt,Option.map_eq_some_iff] at hmx;obtain ⟨_,_,rfl⟩:=hmx;simp at hn
   ·simp at hp
  ·simp at hp
 ·simp at hp
theorem cPure_ok {P:Program} {o:Oper} {p:POp} (hp:cPure P o.op=some p):POpOK P o p:=by
 cases ho:o.op<;>rw[ho] at hp<;>simp only[cPure,reduceCtorEq] at hp
 case move x=>simp only[Option.map_eq_some_iff] at hp;obtain ⟨y,hy,rfl⟩:=hp;exact ok_mov (.inl ho) hy
 case assign x=>simp only[Option.map_eq_some_iff] at hp;obtain ⟨y,hy,rfl⟩:=hp;exact ok_mov (.inr ho) hy
 case pick c x y=>
  split at hp
  ·rename_i h1 h2 h3
   simp only[Option.some.injEq] at hp
   subst hp
   exact ok_pick ho h1 h2 h3
  ·simp at hp
 case binOp op t x y yt=>exact cBin_ok ho hp
 case unOp op t x=>simp only[Option.map_eq_some_iff] at hp;obtain ⟨y,hy,rfl⟩:=hp;exact ok_un ho hy
 case convert s d x=>
  split at hp
  ·rename_i h1 h2
   simp only[Option.map_eq_some_iff] at hp
   obtain ⟨y,hy,rfl⟩:=hp
   exact ok_i2i ho h1 h2 hy
  ·simp at hp
 case build t ps=>exact ok_build ho hp
 case fieldAddr s x f=>
  split at hp
  ·rename_i h1
   split at hp
   ·rename_i h2
    split at hp
    ·rename_i h3 h4
     split at hp
     ·simp at hp
     ·rename_i h0
      simp only[Option.some.injEq] at hp
      subst hp
      exact ok_faddr ho h1 h2 h3 h0 h4
    ·simp at hp
   ·simp at hp
  ·simp at hp
 case field s x f=>
  split at hp
  ·rename_i h1
   split at hp
   ·rename_i h2
    split at hp
    ·rename_i h3 h4 h5
     simp only[Option.some.injEq] at hp
     subst hp
     exact ok_field ho h1 h2 h3 h4 h5
    ·simp at hp
   ·simp at hp
  ·simp at hp
 case indexAddr t x i=>
  split at hp
  ·rename_i h1 h2
   split at hp
   ·rename_i h3
    simp only[Option.map_eq_some_iff] at hp
    obtain ⟨s,hs,rfl⟩:=hp
    exact ok_iaddr ho h3 hs h1 h2
   ·rename_i h3
    simp only[Option.map_eq_some_iff] at hp
    obtain ⟨s,hs,rfl⟩:=hp
    exact ok_iaddrA ho h3 hs h1 h2
   ·simp at hp
  ·simp at hp
 case index t x i=>
  split at hp
  ·rename_i h1 h2
   split at hp
   ·rename_i h3
    simp only[Option.some.injEq] at hp
    subst hp
    exact ok_ixs ho h3 h1 h2
   ·rename_i h3
    split at hp
    ·rename_i h4 h5
     simp only[Option.some.injEq] at hp
     subst hp
     exact ok_ixa ho h3 h4 h5 h1 h2
    ·simp at hp
   ·simp at hp
  ·simp at hp
 case slice t x lo hi mx=>exact cSlice_ok ho hp
 case nilCheck x=>simp only[Option.map_eq_some_iff] at hp;obtain ⟨y,hy,rfl⟩:=hp;exact ok_nilck ho hy
 case extract x i=>simp only[Option.map_eq_some_iff] at hp;obtain ⟨y,hy,rfl⟩:=hp;exact ok_ext ho hy
 case makeFunc fn fs cs=>
  split at hp
  ·rename_i h1 h2
   simp only[Option.some.injEq] at hp
   subst hp
   exact ok_mkfn ho h1 h2
  ·simp at hp
 case makeInterface t x=>
  split at hp
  ·simp at hp
  ·rename_i d hd ht
   simp only[Option.map_eq_some_iff] at hp
   obtain ⟨y,hy,rfl⟩:=hp
   exact ok_mkif ho ht (fun m e=>hd m e) hy
  ·simp at hp
 case call c=>
  obtain ⟨callee,args,tys⟩:=c
  cases callee<;>try simp only[reduceCtorEq] at hp
  case builtin b=>
   split at hp
   ·rename_i h1 h2
    split at hp
    ·rename_i h3
     simp only[Option.map_eq_some_iff] at hp
     obtain ⟨y,hy,rfl⟩:=hp
     exact ok_lenS ho h1 h2 h3 hy
    ·rename_i h3
     simp only[Option.map_eq_some_iff] at hp
     obtain ⟨y,hy,rfl⟩:=hp
     exact ok_len ho h1 h2 h3 hy
    ·simp at hp
   ·rename_i h1 h2
    split at hp
    ·rename_i h3
     simp only[Option.map_eq_some_iff] at hp
     obtain ⟨y,hy,rfl⟩:=hp
     exact ok_cap ho h1 h2 h3 hy
    ·simp at hp
   ·rename_i h1
    split at hp
    ·rename_i h2 h3
     simp only[Option.some.injEq] at hp
     subst hp
     exact ok_max ho h1 h2 h3
    ·simp at hp
   ·rename_i h1
    split at hp
    ·rename_i h2 h3
     simp only[Option.some.injEq] at hp
     subst hp
     exact ok_min ho h1 h2 h3
    ·simp at hp
   ·rename_i h1 h2
    split at hp
    ·rename_i h3
     simp only[Option.map_eq_some_iff] at hp
     obtain ⟨y,hy,rfl⟩:=hp
     exact ok_sdata ho h1 h2 h3 hy
    ·simp at hp
   ·simp at hp
  case value v=>
   cases v<;>try simp only[reduceCtorEq] at hp
   case func f=>
    split at hp
    ·rename_i fn hfn
     split at hp
     ·rename_i hc
      split at hp
      ·rename_i x ha
       simp only[Option.map_eq_some_iff] at hp
       obtain ⟨y,hy,rfl⟩:=hp
       exact ok_noEscape ho hfn hc.1 hc.2.1 hc.2.2 ha hy
      ·simp at hp
     ·simp at hp
    ·simp at hp
end Go.Proofs.YtodhalcpnmddjaaDoor.Ax
namespace Go.Proofs.YtodhalcpnmddjaaDoor.Ax
open Go
def findE:List (Int×AVal)→Int→Option AVal
 | [],_=>none
 |(k,x)::es,n=>if k=n then some x else findE es n
def setE:List (Int×AVal)→Int→AVal→List (Int×AVal)
 | [],n,v=> [(n,v)]
 |(k,x)::es,n,v=>if k=n then (k,v)::es else (k,x)::setE es n v
def zeroV (P:Program) (t:TypeId):Option AVal:=
 match (P.info? t).bind (·.zero) with
 |some (.int k n)=>some (.int k n)
 |some (.bool b)=>some (.bool b)
 |some (.string s)=>some (.str s)
 |_=>none
theorem run_zeroV {P:Program} {t:TypeId} {x:AVal} (h:zeroV P t=some x) (w:World) (ρ:List RB): ∃z,(zeroValue t).run P w= .ok z w∧VR ρ x z:=by
 unfold zeroV at h
 split at h<;>simp only[Option.some.injEq,reduceCtorEq] at h
 all_goals
  rename_i hz
  simp only[Option.bind_eq_some_iff] at hz
  obtain ⟨i,hi,hz⟩:=hz
  subst h
  refine ⟨_,by simp[zeroValue,typeInfo,hi,hz];rfl,?_⟩
  simp[VR]
theorem findNow_ok {ρ:List RB} {ik:IntKind} {n:Int}: ∀{es:List (Int×AVal)} {l:List MapEntry} (i:Nat),MapL ρ es l→
  (findE es n=none∧Instr.findNow (.int ik) (.int .i64 n) l i=some none∧ ∀v val born,VR ρ v val→MapL ρ (setE es n v) (l++ [⟨.int .i64 n,val,born⟩]))∨
  (∃x e j,findE es n=some x∧Instr.findNow (.int ik) (.int .i64 n) l i=some (some (i+j,e.val))∧VR ρ x e.val∧l[j]? =some e∧e.key= .int .i64 n∧ ∀v val,VR ρ v val→MapL ρ (setE es n v) (l.modify j fun e=>{e with key:= .int .i64 n,val:=val}))
 | [],l,i,h=>by
  simp only[MapL] at h
  subst h
  exact .inl ⟨rfl,rfl,fun v val born hv=>⟨_,[],rfl,rfl,hv,rfl⟩⟩
 |(k,x)::es,l,i,⟨e,l',hl,h1,h2,h3⟩=>by
  subst hl
  by_cases hk:k=n
  ·subst hk
   refine .inr ⟨x,e,0,by simp[findE],by simp[Instr.findNow,Instr.sameNow,h1],h2,rfl,h1,fun v val hv=>?_⟩
   simp only[setE,if_true,List.modify_zero_cons]
   exact ⟨_,_,rfl,rfl,hv,h3⟩
  ·have hne:(n==k)=false:=by simpa using fun h=>hk h.symm
   rcases findNow_ok (ik:=ik) (n:=n) (i+1) h3 with ⟨g1,g2,g3⟩|⟨y,e',j,g1,g2,g3,g4,g5,g6⟩
   ·refine .inl ⟨by simp[findE,hk,g1],by simp[Instr.findNow,Instr.sameNow,h1,hne,g2],fun v val born hv=>?_⟩
    simp only[setE,hk,if_false]
    exact ⟨e,_,rfl,h1,h2,g3 v val born hv⟩
   ·refine .inr ⟨y,e',j+1,by simp[findE,hk,g1],by simp[Instr.findNow,Instr.sameNow,h1,hne,g2];omega,g3,by simpa using g4,g5,fun v val hv=>?_⟩
    simp only[setE,hk,if_false,List.modify_succ_cons]
    exact ⟨e,_,rfl,h1,h2,g6 v val hv⟩
theorem run_checkInt {P:Program} {w:World} {kt:TypeId} {ik:IntKind} {k:Value} (hd:P.underlying kt=some (.int ik)) (e:Bool):(Instr.checkKey e 10000 kt k).run P w= .ok () w:=by
 unfold Instr.checkKey
 simp only[Sem.run_bind,run_underlying hd,Result.andThen_ok]
 rfl
theorem lookup_ok {P:Program} {ρ:List RB} {m:AMem} {w:World} (hs:Sim ρ m w) {b:Nat} {es:List (Int×AVal)} (hb:m[b]? =some (.mp es)) {a:RB} (ha:ρ[b]? =some a) {t kt et:TypeId} {ik:IntKind} (ht:P.underlying t=some (.map kt et)) (hk:P.underlying kt=some (.int ik)) {z:AVal} (hz:zeroV P et=some z) (n:Int) (ok:Bool):
  ∃v,(Instr.lookup t (.map (some a.block)) (.int .i64 n) ok).run P w= .ok v w∧VR ρ (if ok then .tuple [(findE es n).getD z,.bool (findE es n).isSome] else (findE es n).getD z) v:=by
 obtain ⟨arr,clock,h1,h2⟩:=hs.ok b _ a hb ha
 obtain ⟨zv,z1,z2⟩:=run_zeroV hz w ρ
 have hfin: ∀(o:Option (Nat×Value)) (x:AVal) (s:Bool),Instr.findNow (.int ik) (.int .i64 n) arr.toList 0=some o→(match o with|some (_,v)=>VR ρ x v∧s=true|none=>x=z∧s=false)→
   ∃v,(Instr.lookup t (.map (some a.block)) (.int .i64 n) ok).run P w= .ok v w∧VR ρ (if ok then .tuple [x,.bool s] else x) v:=fun o x s ho hx=>by
  unfold Instr.lookup
  simp only[Sem.run_bind,run_underlying ht,Result.andThen_ok,MapKept.run_getObj_map h1,Sem.run_pure,run_checkInt hk,Instr.findKey,run_underlying hk,ho]
  cases o with
  |none=>
   obtain ⟨rfl,rfl⟩:=hx
   simp only[Sem.run_bind,z1,Result.andThen_ok,Sem.run_pure]
   cases ok
   ·exact ⟨zv,rfl,z2⟩
   ·exact ⟨_,rfl,by simp only[VR,if_true];exact ⟨_,rfl,zv,_,rfl,z2,_,_,rfl,rfl,rfl⟩⟩
  |some p=>
   obtain ⟨i,v⟩:=p
   obtain ⟨hx,rfl⟩:=hx
   simp only[Result.andThen_ok,Sem.run_pure]
   cases ok
   ·exact ⟨v,rfl,hx⟩
   ·exact ⟨_,rfl,by simp only[VR,if_true];exact ⟨_,rfl,v,_,rfl,hx,_,_,rfl,rfl,rfl⟩⟩
 rcases findNow_ok (ρ:=ρ) (ik:=ik) (n:=n) 0 h2 with ⟨g1,g2,_⟩|⟨x,e,j,g1,g2,g3,_⟩
 ·rw[g1];exact hfin _ z false g2 ⟨rfl,rfl⟩
 ·rw[g1];exact hfin _ x true g2 ⟨g3,rfl⟩
theorem mapset_ok {P:Program} {ρ:List RB} {m:AMem} {w:World} (hs:Sim ρ m w) {b:Nat} {es:List (Int×AVal)} (hb:m[b]? =some (.mp es)) {a:RB} (ha:ρ[b]? =some a) {t kt et:TypeId} {ik:IntKind} (ht:P.underlying t=some (.map kt et)) (hk:P.underlying kt=some (.int ik)) (n:Int) {v:AVal} {val:Value} (hv:VR ρ v val):
  ∃w',(Instr.mapUpdate t (.map (some a.block)) (.int .i64 n) val).run P w= .ok () w'∧Sim ρ (m.set b (.mp (setE es n v))) w'∧Evol ρ m w ρ (m.set b (.mp (setE es n v))) w':=by
 obtain ⟨arr,clock,h1,h2⟩:=hs.ok b _ a hb ha
 rcases findNow_ok (ρ:=ρ) (ik:=ik) (n:=n) 0 h2 with ⟨_,g2,g3⟩|⟨x,e,j,_,g2,_,g4,g5,g6⟩
 ·obtain ⟨k1,k2⟩:=hs.setMap (es':=setE es n v) hb ha (arr':=arr.push {key:= .int .i64 n,val:=val,born:=clock}) (clock':=clock+1) (by simpa using g3 v val clock hv)
  refine ⟨_,?_,k1,k2⟩
  unfold Instr.mapUpdate
  simp only[Sem.run_bind,run_underlying ht,Result.andThen_ok,MapKept.run_getObj_map h1,run_checkInt hk,Instr.findKey,run_underlying hk,g2,Sem.run_pure,MapKept.run_setObj_map _ h1]
 ·obtain ⟨k1,k2⟩:=hs.setMap (es':=setE es n v) hb ha (arr':=arr.modify j fun e=>{e with key:= .int .i64 n,val:=val}) (clock':=clock) (by simpa using g6 v val hv)
  refine ⟨_,?_,k1,k2⟩
  have hj:arr[j]? =some e:=by simpa using g4
  have hbits:Instr.sameBits 10000 (.int .i64 n) (.int .i64 n)=true:=by simp[Instr.sameBits]
  unfold Instr.mapUpdate
  simp only[Sem.run_bind,run_underlying ht,Result.andThen_ok,MapKept.run_getObj_map h1,run_checkInt hk,Instr.findKey,run_underlying hk,g2,Sem.run_pure,Nat.zero_add,hj,Option.map_some,Option.getD_some,g5,Instr.keyThatStays,hbits,if_true,MapKept.run_setObj_map _ h1]
end Go.Proofs.YtodhalcpnmddjaaDoor.Ax
namespace Go.Proofs.YtodhalcpnmddjaaDoor.Ax
open Go
def readB (m:AMem) (b:Nat):Option (List AVal):=(m[b]?).bind ABlk.cells
inductive RK where
 |p2u
 |u2p (ts:List (TypeId×Nat))
 |mlen
 |b2s
def toB:List AVal→Option (List UInt8)
 | []=>some []
 | .int .u8 k::r=>if 0≤k∧k<256 then (toB r).map (k.toNat.toUInt8:: ·) else none
 |_=>none
def p2uE (m:AMem):AVal→Option AVal
 | .ptr b o=>match m[b]? with
  |some (.own cs _ none)=>if o<cs.length then some (.ptr b o) else none
  |_=>none
 |_=>none
def u2pE (m:AMem) (ts:List (TypeId×Nat)):AVal→Option AVal
 | .ptr b 0=>match m[b]? with
  |some (.own cs ty none)=>if (ty,cs.length)∈ts then some (.ptr b 0) else none
  |_=>none
 |_=>none
def mlenE (m:AMem):AVal→Option AVal
 | .map b=>match m[b]? with
  |some (.mp es)=>some (.int .i64 es.length)
  |_=>none
 |_=>none
def b2sE (m:AMem):AVal→Option AVal
 | .nilslice=>some (.str .empty)
 | .slice b o n _ _=>((readB m b).bind fun cs=>readN cs o n).bind fun xs=>(toB xs).map fun l=> .str ⟨l.toArray⟩
 |_=>none
def rkE (m:AMem) (k:RK) (v:AVal):Option AVal:=match k with
 | .p2u=>p2uE m v
 | .u2p ts=>u2pE m ts v
 | .mlen=>mlenE m v
 | .b2s=>b2sE m v
inductive ROp where
 |rk (k:RK) (y:Arg)
 |load (n:Nat) (agg:Bool) (x:Arg)
 |lookup (zero:AVal) (ok:Bool) (x k:Arg)
def lookupE (m:AMem) (z:AVal) (ok:Bool) (x k:AVal):Option AVal:=
 match x,k with
 | .map b,.int .i64 n=>match m[b]? with
  |some (.mp es)=>some (if ok then .tuple [(findE es n).getD z,.bool (findE es n).isSome] else (findE es n).getD z)
  |_=>none
 |_,_=>none
def ROp.ev (a:AFrame) (m:AMem):ROp→Option AVal
 | .rk k y=>rkE m k (a.ev y)
 | .load n agg x=>match a.ev x with
  | .ptr b o=>(readB m b).bind fun cs=>if agg then (readN cs o n).map .agg else cs[o]?
  | .gptr g o=>if agg then none else (gcells g).bind fun cs=>cs[o]?
  |_=>none
 | .lookup z ok x k=>lookupE m z ok (a.ev x) (a.ev k)
def headT (P:Program) (u t:TypeId):Bool:=t==u||match P.underlying t with|some (.struct fs)=>(fs[0]?).any (fun f=>f.type==u)|_=>false
def headTs (P:Program) (u:TypeId):List (TypeId×Nat):=(List.range P.types.size).filterMap fun t=>
 if headT P u t&&(P.cellsOf t !=0&&liesAt P P.depth t 1 0 u 1) then some (t,P.cellsOf t) else none
theorem headTs_ok {P:Program} {u t:TypeId} {n:Nat} (h:(t,n)∈headTs P u):n=P.cellsOf t∧n≠0∧liesAt P P.depth t 1 0 u 1=true:=by
 unfold headTs at h
 rw[List.mem_filterMap] at h
 obtain ⟨t',_,h⟩:=h
 split at h
 ·rename_i hc
  simp only[Option.some.injEq,Prod.mk.injEq] at h
  obtain ⟨rfl,rfl⟩:=h
  simp only[Bool.and_eq_true,bne_iff_ne] at hc
  exact ⟨rfl,hc.2.1,hc.2.2⟩
 ·simp at h
def cRead (P:Program):Op→Option ROp
 | .convert s d x=>match P.underlying s,P.underlying d with
  |some (.pointer t),some .unsafePointer=>match szOf P t,cArg x with
   |some n,some x=>if n=0 then none else some (.rk .p2u x)
   |_,_=>none
  |some .unsafePointer,some (.pointer u)=>match szOf P u,cArg x with
   |some _,some x=>some (.rk (.u2p (headTs P u)) x)
   |_,_=>none
  |some (.slice e),some .string=>match P.underlying e,cArg x with
   |some (.int .u8),some x=>some (.rk .b2s x)
   |_,_=>none
  |_,_=>none
 | .call {callee:= .builtin .len,args,argTypes}=>match args.toList,argTypes.toList with
  | [x],[t]=>match P.underlying t with
   |some (.map _ _)=>(cArg x).map (.rk .mlen)
   |_=>none
  |_,_=>none
 | .load t x=>match szOf P t,aggOf P t,cArg x with
  |some n,some b,some x=>some (.load n b x)
  |_,_,_=>none
 | .lookup t x k ok=>match P.underlying t with
  |some (.map kt et)=>match P.underlying kt,zeroV P et,cArg x,cArg k with
   |some (.int _),some z,some x,some k=>some (.lookup z ok x k)
   |_,_,_,_=>none
  |_=>none
 |_=>none
theorem run_loadCellsFrom {P:Program} {w:World} (B F:Nat): ∀(vs:List Value) (i:Nat) (acc:Array Value),(∀(j:Nat) v,vs[j]? =some v→w.cell? ⟨B,F+(i+j),none⟩=some v)→
  (loadCellsFrom ⟨B,F,none⟩ i vs.length acc).run P w= .ok (acc++vs.toArray) w
 | [],i,acc,_=>by simp[loadCellsFrom]
 |v::vs,i,acc,h=>by
  have h0:w.cell? ((⟨B,F,none⟩:Addr).add i)=some v:=by
   have:=h 0 v (by simp)
   rw[Addr.add_lit]
   simpa using this
  have ih:=run_loadCellsFrom (P:=P) (w:=w) B F vs (i+1) (acc.push v) (fun j u hu=>by
   have:=h (j+1) u (by simpa using hu)
   rwa[Nat.add_assoc,Nat.add_comm 1 j])
  simp only[List.length_cons,loadCellsFrom,Sem.run_bind,run_load,h0,Result.andThen_ok,ih]
  simp
theorem Sim.loads {P:Program} {ρ:List RB} {m:AMem} {w:World} (h:Sim ρ m w) {b o n:Nat} {cs ys:List AVal} (hc:readB m b=some cs) (hr:readN cs o n=some ys) {A:RB} (hA:ρ[b]? =some A):
  ∃vs:Array Value,(loadCells ⟨A.block,A.off+o,none⟩ n).run P w= .ok vs w∧VRs ρ ys vs.toList:=by
 simp only[readB,Option.bind_eq_some_iff] at hc
 obtain ⟨blk,hb,hc⟩:=hc
 unfold readN at hr
 split at hr
 ·rename_i hle
  simp only[Option.some.injEq] at hr
  subst hr
  have hrd: ∀i,i<n→ ∃v,w.cell? (at_ A (o+i))=some v∧ ∀x,cs[o+i]? =some x→VR ρ x v:=by
   intro i hi
   obtain ⟨x,hx⟩: ∃x,cs[o+i]? =some x:=⟨_,List.getElem?_eq_getElem (by omega)⟩
   obtain ⟨v,hv,hr⟩:=h.read hb hc hA hx
   exact ⟨v,hv,fun y hy=>by rw[hx] at hy;simp only[Option.some.injEq] at hy;subst hy;exact hr⟩
  let vs:List Value:=(List.range n).map fun i=>(w.cell? (at_ A (o+i))).getD undef
  have hl:vs.length=n:=by simp[vs]
  refine ⟨vs.toArray,?_,?_⟩
  ·have:=run_loadCellsFrom (P:=P) (w:=w) A.block (A.off+o) vs 0 #[] (fun j v hv=>by
    have hj:j<n:=by rw[←hl];exact (List.getElem?_eq_some_iff.1 hv).1
    obtain ⟨u,hu,_⟩:=hrd j hj
    have:vs[j]? =some u:=by simp[vs,hj,hu]
    rw[this] at hv
    simp only[Option.some.injEq] at hv
    subst hv
    simpa[at_,Nat.add_assoc] using hu)
   rw[hl] at this
   simpa[loadCells] using this
  ·refine VRs.of_get (by simp[hl];omega) fun i x v hx hv=>?_
   have hi:i<n:=by rw[←hl];exact (List.getElem?_eq_some_iff.1 (by simpa using hv)).1
   obtain ⟨u,hu,hr⟩:=hrd i hi
   have:vs[i]? =some u:=by simp[vs,hi,hu]
   simp only at hv
   rw[this] at hv
   simp only[Option.some.injEq] at hv
   subst hv
   refine hr x ?_
   simpa[List.getElem?_take,hi,List.getElem?_drop] using hx
 ·simp at hr
theorem toB_ok {ρ:List RB}: ∀{xs:List AVal} {l:List UInt8} {vs:List Value},toB xs=some l→VRs ρ xs vs→vs=(l.map fun b=>(b.toNat:Int)).map (Value.int .u8)
 | [],l,vs,h,hv=>by simp only[toB,Option.some.injEq] at h;subst h;simpa[VRs] using hv
 |x::xs,l,vs,h,hv=>by
  unfold toB at h
  split at h
  ·rename_i h0;simp at h0
  ·rename_i k r he
   simp only[List.cons.injEq] at he
   obtain ⟨rfl,rfl⟩:=he
   split at h
   ·rename_i hk
    simp only[Option.map_eq_some_iff] at h
    obtain ⟨l',hl,rfl⟩:=h
    simp only[VRs] at hv
    obtain ⟨v,vs',rfl,h1,h2⟩:=hv
    have:=toB_ok hl h2
    subst this
    simp only[VR] at h1
    subst h1
    have:((k.toNat.toUInt8.toNat:Nat):Int)=k:=by
     have:k.toNat<256:=by omega
     simp[Nat.mod_eq_of_lt this];omega
    simp only[List.map_cons,this]
   ·simp at h
  ·simp at h
theorem pushes_eq: ∀(l:List UInt8) (s:ByteArray),(l.map fun b=>(b.toNat:Int)).foldl (fun r n=>r.push (UInt8.ofNat n.toNat)) s=⟨s.data++l.toArray⟩
 | [],s=>by simp
 |b::l,s=>by
  simp only[List.map_cons,List.foldl_cons]
  rw[pushes_eq l]
  apply ByteArray.ext
  simp[ByteArray.push]
theorem own_shape {ρ:List RB} {m:AMem} {w:World} (h:Sim ρ m w) {b:Nat} {cs:List AVal} {ty:TypeId} {A:RB} (hb:m[b]? =some (.own cs ty none)) (hA:ρ[b]? =some A):w.shape? A.block=some (ty,cs.length)∧A.off=0:=by
 obtain ⟨arr,h1,_,h3,_⟩:=h.ok b _ A hb hA
 obtain ⟨h4,h5⟩:=h3 rfl
 exact ⟨by simp[World.shape?,h1];omega,h5⟩
theorem MapL.length {ρ:List RB}: ∀{es:List (Int×AVal)} {l:List MapEntry},MapL ρ es l→l.length=es.length
 | [],l,h=>by simp only[MapL] at h;subst h;rfl
 |(_,_)::es,l,h=>by
  simp only[MapL] at h
  obtain ⟨e,l',rfl,_,_,h⟩:=h
  simp[MapL.length h]
theorem cRead_ok {P:Program} {o:Oper} {r:ROp} (hr:cRead P o.op=some r) {ρ:List RB} {a:AFrame} {act:Act} {m:AMem} {w:World} {x:AVal} (hf:FR ρ a act.tmps) (hs:Sim ρ m w) (hgl:Glob ρ m w) (hx:r.ev a m=some x):
  ∃v,(execOp act.eval o).run P w= .ok (.value v) w∧VR ρ x v:=by
 cases ho:o.op<;>rw[ho] at hr<;>simp only[cRead,reduceCtorEq] at hr
 case convert s d y=>
  split at hr
  ·rename_i pt h1 h2
   split at hr
   ·rename_i n y' h3 h4
    split at hr
    ·simp at hr
    ·rename_i h0
     simp only[Option.some.injEq] at hr
     subst hr
     have hv:=hf.ev h4
     simp only[ROp.ev,rkE] at hx
     generalize a.ev y'=v at hx hv
     unfold p2uE at hx
     split at hx
     ·rename_i b of
      split at hx
      ·rename_i cs ty hb
       split at hx
       ·rename_i hlt
        simp only[Option.some.injEq] at hx
        subst hx
        simp only[VR] at hv
        obtain ⟨A,hA,hv⟩:=hv
        obtain ⟨hsh,hoff⟩:=own_shape hs hb hA
        simp only[szOf,Option.map_eq_some_iff] at h3
        obtain ⟨j,hj,hjs⟩:=h3
        refine ⟨.pointer (some ⟨A.block,A.off+of,none⟩),?_,by simp only[VR];exact ⟨A,hA,rfl⟩⟩
        have:=Go.Lib.run_to_unsafe (P:=P) w ⟨A.block,A.off+of,none⟩ h1 h2 hj (by omega) hsh (by simp only;omega)
        simp[execOp,ho,hv,this]
       ·simp at hx
      ·simp at hx
     ·simp at hx
   ·simp at hr
  ·rename_i u h1 h2
   split at hr
   ·rename_i n y' h3 h4
    simp only[Option.some.injEq] at hr
    subst hr
    have hv:=hf.ev h4
    simp only[ROp.ev,rkE] at hx
    generalize a.ev y'=v at hx hv
    unfold u2pE at hx
    split at hx
    ·rename_i b
     split at hx
     ·rename_i cs ty hb
      split at hx
      ·rename_i hmem
       simp only[Option.some.injEq] at hx
       subst hx
       simp only[VR] at hv
       obtain ⟨A,hA,hv⟩:=hv
       obtain ⟨hsh,hoff⟩:=own_shape hs hb hA
       obtain ⟨g1,g2,g3⟩:=headTs_ok hmem
       simp only[szOf,Option.map_eq_some_iff] at h3
       obtain ⟨j,hj,hjs⟩:=h3
       refine ⟨.pointer (some ⟨A.block,A.off+0,none⟩),?_,by simp only[VR];exact ⟨A,hA,rfl⟩⟩
       have hone:cs.length / P.cellsOf ty=1:=by rw[g1,Nat.div_self (by omega)]
       have:=Go.Lib.run_from_unsafe (P:=P) w ⟨A.block,A.off+0,none⟩ h1 h2 hj hsh (by simp only[hoff,Nat.add_zero,hone];exact g3)
       simp only[execOp,ho,hv,Sem.run_bind,this]
       simp
      ·simp at hx
     ·simp at hx
    ·simp at hx
   ·simp at hr
  ·rename_i e h1 h2
   split at hr
   ·rename_i y' h3 h4
    simp only[Option.some.injEq] at hr
    subst hr
    have hv:=hf.ev h4
    simp only[ROp.ev,rkE] at hx
    generalize a.ev y'=v at hx hv
    unfold b2sE at hx
    split at hx
    ·simp only[Option.some.injEq] at hx
     subst hx
     simp only[VR] at hv
     exact ⟨.string .empty,by simp[execOp,ho,hv,convert,run_underlying h1,run_underlying h2,run_underlying h3,Conv.bytesToString],by simp[VR]⟩
    ·rename_i b of n c g
     simp only[Option.bind_eq_some_iff,Option.map_eq_some_iff] at hx
     obtain ⟨xs,⟨cs,hc,hrd⟩,l,hl,rfl⟩:=hx
     simp only[VR] at hv
     obtain ⟨A,A',c',hv,hA,hA',hlc,_⟩:=hv
     have hld: ∃vs:Array Value,(loadCells A' n).run P w= .ok vs w∧VRs ρ xs vs.toList:=by
      rcases Nat.eq_zero_or_pos n with h0|h0
      ·subst h0
       have:xs= []:=by
        unfold readN at hrd
        split at hrd
        ·simpa using hrd.symm
        ·simp at hrd
       subst this
       exact ⟨#[],rfl,by simp[VRs]⟩
      ·rw[hA' (by omega)]
       exact hs.loads hc hrd hA
     obtain ⟨vs,hvs,hvr⟩:=hld
     have hvl:=toB_ok hl hvr
     have hvs':(loadCells A' n).run P w= .ok ((l.map fun b=>(b.toNat:Int)).map (Value.int .u8)).toArray w:=by rw[←hvl];simpa using hvs
     have hrun:=run_bytesToString (P:=P) w A' n c' _ hvs'
     rw[pushes_eq] at hrun
     refine ⟨.string ⟨l.toArray⟩,?_,by simp[VR]⟩
     simp[execOp,ho,hv,convert,run_underlying h1,run_underlying h2,run_underlying h3]
     rw[hrun]
     simp
    ·simp at hx
   ·simp at hr
  ·simp at hr
 case call c=>
  obtain ⟨callee,args,tys⟩:=c
  cases callee<;>try simp only[reduceCtorEq] at hr
  case builtin b=>
   cases b<;>try simp only[reduceCtorEq] at hr
   case len=>
    split at hr
    ·rename_i y t ha hty
     split at hr
     ·rename_i kt et ht
      simp only[Option.map_eq_some_iff] at hr
      obtain ⟨y',hy,rfl⟩:=hr
      obtain rfl:args= #[y]:=by rw[←Array.toList_inj];simpa using ha
      obtain rfl:tys= #[t]:=by rw[←Array.toList_inj];simpa using hty
      have hv:=hf.ev hy
      obtain ⟨cn,hc⟩:=exec_builtin (act:=act) (w:=w) (P:=P) ho
      simp only[ROp.ev,rkE] at hx
      generalize a.ev y'=v at hx hv
      unfold mlenE at hx
      split at hx
      ·rename_i b
       split at hx
       ·rename_i es hb
        simp only[Option.some.injEq] at hx
        subst hx
        simp only[VR] at hv
        obtain ⟨A,hA,hv⟩:=hv
        obtain ⟨arr,clock,h1,h2⟩:=hs.ok b _ A hb hA
        have hl:=h2.length
        refine ⟨.int .i64 es.length,by rw[hc];simp[builtin,Builtin.len_,hv,run_underlying ht,MapKept.run_getObj_map h1,goInt,←hl],by simp[VR]⟩
       ·simp at hx
      ·simp at hx
     ·simp at hr
    ·simp at hr
 case load t y=>
  split at hr
  ·rename_i n b y' h1 h2 h3
   simp only[Option.some.injEq] at hr
   subst hr
   have hv:=hf.ev h3
   simp only[ROp.ev] at hx
   split at hx
   ·rename_i B of he
    rw[he] at hv
    simp only[VR] at hv
    obtain ⟨A,hA,hv⟩:=hv
    simp only[Option.bind_eq_some_iff] at hx
    obtain ⟨cs,hc,hx⟩:=hx
    cases b with
    |true=>
     simp only[if_true,Option.map_eq_some_iff] at hx
     obtain ⟨ys,hy,rfl⟩:=hx
     obtain ⟨vs,h4,h5⟩:=hs.loads (P:=P) hc hy hA
     exact ⟨.agg vs,by simp[execOp,ho,hv,Instr.loadAt,Instr.sureAddr,loadVar,run_isAgg h2,run_sizeOf h1,h4],by simp only[VR];exact ⟨vs,rfl,h5⟩⟩
    |false=>
     simp only[Bool.false_eq_true,if_false] at hx
     simp only[readB,Option.bind_eq_some_iff] at hc
     obtain ⟨blk,hb,hc⟩:=hc
     obtain ⟨v,h4,h5⟩:=hs.read hb hc hA hx
     exact ⟨v,by simp[execOp,ho,hv,Instr.loadAt,Instr.sureAddr,loadVar,run_isAgg h2];rw[show (⟨A.block,A.off+of,none⟩:Addr)=at_ A of from rfl,h4];rfl,h5⟩
   ·rename_i B of he
    rw[he] at hv
    simp only[VR] at hv
    cases b with
    |true=>simp at hx
    |false=>
     simp only[Bool.false_eq_true,if_false,Option.bind_eq_some_iff] at hx
     obtain ⟨cs,hc,hx⟩:=hx
     obtain ⟨v,h4,h5⟩:=hgl.get hc hx
     exact ⟨v,by simp[execOp,ho,hv,Instr.loadAt,Instr.sureAddr,loadVar,run_isAgg h2,h4],h5⟩
   ·simp at hx
  ·simp at hr
 case lookup t y k ok=>
  split at hr
  ·rename_i kt et ht
   split at hr
   ·rename_i ik z y' k' h1 h2 h3 h4
    simp only[Option.some.injEq] at hr
    subst hr
    have hv:=hf.ev h3
    have hw:=hf.ev h4
    simp only[ROp.ev,lookupE] at hx
    split at hx
    ·rename_i b n e1 e2
     rw[e1] at hv
     rw[e2] at hw
     simp only[VR] at hv hw
     obtain ⟨A,hA,hv⟩:=hv
     split at hx
     ·rename_i es hb
      simp only[Option.some.injEq] at hx
      subst hx
      obtain ⟨v,g1,g2⟩:=lookup_ok (P:=P) hs hb hA ht h1 h2 n ok
      exact ⟨v,by simp[execOp,ho,hv,hw,g1],g2⟩
     ·simp at hx
    ·simp at hx
   ·simp at hr
  ·simp at hr
theorem flatten_rep {α:Type} (zs:List α): ∀(n i:Nat),(List.replicate n zs).flatten[i]? =if i<n*zs.length then zs[i%zs.length]? else none
 |0,i=>by simp
 |n+1,i=>by
  rw[List.replicate_succ,List.flatten_cons]
  rcases Nat.lt_or_ge i zs.length with h|h
  ·rw[List.getElem?_append_left h,Nat.mod_eq_of_lt h,if_pos (by rw[Nat.add_mul,Nat.one_mul];omega)]
  ·rw[List.getElem?_append_right h,flatten_rep zs n (i-zs.length)]
   have:(i-zs.length)%zs.length=i%zs.length:=by
    rw[←Nat.mod_eq_sub_mod h]
   rw[this,Nat.add_mul,Nat.one_mul]
   by_cases h1:i-zs.length<n*zs.length
   ·rw[if_pos h1,if_pos (by omega)]
   ·rw[if_neg h1,if_neg (by omega)]
theorem zeros_ok {ρ:List RB} {zs:List AVal} {z:Array Value} (hz:VRs ρ zs z.toList) (n:Nat):VRs ρ (List.replicate n zs).flatten ((Array.range (n*zs.length)).map (z[· %z.size]!)).toList:=by
 have hl:=hz.length
 simp only[Array.length_toList] at hl
 have hlen:(List.replicate n zs).flatten.length=n*zs.length:=by simp
 refine VRs.of_get (by simp) fun i x v hx hv=>?_
 have hi:i<n*zs.length:=by rw[←hlen];exact (List.getElem?_eq_some_iff.1 hx).1
 rw[flatten_rep,if_pos hi] at hx
 obtain ⟨u,hu,hr⟩:=hz.get _ x hx
 simp only[Array.toList_map,Array.toList_range,List.getElem?_map,List.getElem?_range hi,Option.map_some,Option.some.injEq,hl] at hv
 have:z[i%zs.length]? =some u:=by simpa using hu
 rw[getElem!_def,this] at hv
 simp only at hv
 subst hv
 exact hr
inductive AOp where
 |alloc (ty:TypeId) (zero:List AVal)
 |box (ty:TypeId) (x:Arg)
 |bslice (ty:TypeId) (len:Nat) (zero:List AVal) (parts:List (Nat×Nat×Arg))
 |mkslice (ty:TypeId) (bytes:Nat) (zero:List AVal) (len cap:Arg)
def AOp.ev (a:AFrame):AOp→Option (List AVal×TypeId×(Nat→AVal))
 | .alloc ty z=>some (z,ty,fun b=> .ptr b 0)
 | .box ty x=>if (a.ev x).cells.all AVal.one then some ((a.ev x).cells,ty,fun b=> .ptr b 0) else none
 | .bslice ty n z parts=>(fillA (List.replicate n z).flatten (parts.map fun p=>(p.1,p.2.1,a.ev p.2.2))).map fun cs=>(cs,ty,fun b=> .slice b 0 n n none)
 | .mkslice ty by_ z l c=>match a.ev l,a.ev c with
  | .int .i64 l,.int .i64 c=>if 0≤l∧l≤c∧by_*c≤281474976710656∧c≤9223372036854775807 then some ((List.replicate c.toNat z).flatten,ty,fun b=> .slice b 0 l.toNat c.toNat none) else none
  |_,_=>none
def cNew (P:Program):Op→Option AOp
 | .alloc t=>(zeroOf P t).map (.alloc t)
 | .box t x=>(cArg x).map (.box t)
 | .buildSlice t n parts=>match P.underlying t with
  |some (.slice e)=>match szOf P e,zeroOf P e with
   |some s,some z=>if z.length=s∧n*s≤16777216 then (cParts (fun i=>some (i*s,s)) parts.toList).map (.bslice e n z) else none
   |_,_=>none
  |_=>none
 | .makeSlice t l c=>match P.underlying t with
  |some (.slice e)=>match szOf P e,zeroOf P e,(P.info? e).map (·.bytes),cArg l,cArg c with
   |some s,some z,some b,some l,some c=>if z.length=s then some (.mkslice e b z l c) else none
   |_,_,_,_,_=>none
  |_=>none
 |_=>none
theorem cNew_ok {P:Program} {o:Oper} {r:AOp} (hr:cNew P o.op=some r) {ρ:List RB} {a:AFrame} {act:Act} {w:World} {cs:List AVal} {ty:TypeId} {mk:Nat→AVal} (hf:FR ρ a act.tmps) (hx:r.ev a=some (cs,ty,mk)):
  ∃v arr,(execOp act.eval o).run P w= .ok (.value v) {w with heap:=w.heap.push (.cells arr ty)}∧VRs ρ cs arr.toList∧(∀(ρ':List RB) b ez ext,ρ'[b]? =some ⟨w.heap.size,0,ez,ext⟩→VR ρ' (mk b) v):=by
 cases ho:o.op<;>rw[ho] at hr<;>simp only[cNew,reduceCtorEq] at hr
 case alloc t=>
  simp only[Option.map_eq_some_iff] at hr
  obtain ⟨z,hz,rfl⟩:=hr
  simp only[AOp.ev,Option.some.injEq,Prod.mk.injEq] at hx
  obtain ⟨rfl,rfl,rfl⟩:=hx
  obtain ⟨zv,h1,h2⟩:=run_zeroValue hz w
  refine ⟨_,zv.cells,by simp[execOp,ho,Instr.alloc,h1,newVar,newRow];rfl,ofCells_VR h2 ρ,fun ρ' b ez ext hb=>by simp only[VR];exact ⟨_,hb,by simp⟩⟩
 case box t x=>
  simp only[Option.map_eq_some_iff] at hr
  obtain ⟨y,hy,rfl⟩:=hr
  simp only[AOp.ev] at hx
  split at hx
  ·rename_i hone
   simp only[Option.some.injEq,Prod.mk.injEq] at hx
   obtain ⟨rfl,rfl,rfl⟩:=hx
   have hu:a.ev y≠ .undef:=by
    intro he
    rw[he] at hone
    simp[AVal.cells,AVal.one] at hone
   refine ⟨_,(act.eval x).cells,by simp[execOp,ho,Instr.box,newVar,newRow];rfl,VR.cells (fun _ _ _=>trivial) hu (hf.ev hy),fun ρ' b ez ext hb=>by simp only[VR];exact ⟨_,hb,by simp⟩⟩
  ·simp at hx
 case buildSlice t n parts=>
  split at hr
  ·rename_i e ht
   split at hr
   ·rename_i s z hs hz
    split at hr
    ·rename_i hc
     obtain ⟨hc1,hc2⟩:=hc
     subst hc1
     simp only[Option.map_eq_some_iff] at hr
     obtain ⟨ps,hp,rfl⟩:=hr
     simp only[AOp.ev,Option.map_eq_some_iff,Prod.mk.injEq] at hx
     obtain ⟨cs',hfill,rfl,rfl,rfl⟩:=hx
     obtain ⟨zv,h1,h2⟩:=run_zeroValue hz w
     have hzs:=ofCells_VR h2 ρ
     have hpm:(parts.map fun (i,x)=>(i,act.eval x)).toList=parts.toList.map fun (i,x)=>(i,act.eval x):=by simp
     have hle: ¬n*z.length>2^24:=by simp only[gt_iff_lt,Nat.not_lt];omega
     have fin: ∀arr:Array Value,VRs ρ cs' arr.toList→(execOp act.eval o).run P w= .ok (.value (.slice (some ⟨w.heap.size,0,none⟩) n n)) {w with heap:=w.heap.push (.cells arr e)}→
       ∃v arr,(execOp act.eval o).run P w= .ok (.value v) {w with heap:=w.heap.push (.cells arr e)}∧VRs ρ cs' arr.toList∧(∀(ρ':List RB) b ez ext,ρ'[b]? =some ⟨w.heap.size,0,ez,ext⟩→VR ρ' (.slice b 0 n n none) v):=
      fun arr h1 h2=>⟨_,arr,h2,h1,fun ρ' b ez ext hb=>by simp only[VR];exact ⟨_,⟨w.heap.size,0,none⟩,n,rfl,hb,fun _=>by simp,Nat.le_refl _,fun _=>rfl,Nat.le_refl _,by simp⟩⟩
     by_cases h0:n*z.length=0
     ·have hnil:(List.replicate n z).flatten= []:=List.eq_nil_of_length_eq_zero (by simpa using h0)
      obtain ⟨arr,h5,h6⟩:=fill_ok hf _ cs' parts.toList ps _ #[] hp (by rw[hnil];simp[VRs]) hfill
      refine fin arr h6 ?_
      simp only[execOp,ho,Instr.buildSlice,Sem.run_bind,run_underlying ht,Result.andThen_ok,run_sizeOf hs,Sem.run_ite,Sem.run_pure,h0,if_true]
      rw[if_neg (by decide)]
      simp only[Array.range_zero',Array.map_empty,hpm,h5,newRow,run_newObj,Sem.run_bind,Sem.run_pure,Result.andThen_ok]
     ·obtain ⟨arr,h5,h6⟩:=fill_ok hf _ cs' parts.toList ps _ ((Array.range (n*z.length)).map (zv.cells[· %zv.cells.size]!)) hp (zeros_ok hzs n) hfill
      refine fin arr h6 ?_
      simp only[execOp,ho,Instr.buildSlice,Sem.run_bind,run_underlying ht,Result.andThen_ok,run_sizeOf hs,Sem.run_ite,if_neg hle,Sem.run_pure,h0,if_false,h1]
      simp only[hpm,h5,newRow,run_newObj,Sem.run_bind,Sem.run_pure,Result.andThen_ok]
    ·simp at hr
   ·simp at hr
  ·simp at hr
 case makeSlice t l c=>
  split at hr
  ·rename_i e ht
   split at hr
   ·rename_i s z by_ l' c' hs hz hby hl hc
    split at hr
    ·rename_i hzl
     subst hzl
     simp only[Option.some.injEq] at hr
     subst hr
     simp only[AOp.ev] at hx
     split at hx
     ·rename_i L C eL eC
      split at hx
      ·rename_i hcond
       obtain ⟨k0,k1,k2,k3⟩:=hcond
       simp only[Option.some.injEq,Prod.mk.injEq] at hx
       obtain ⟨rfl,rfl,rfl⟩:=hx
       have vl:=hf.ev hl
       have vc:=hf.ev hc
       rw[eL] at vl
       rw[eC] at vc
       simp only[Option.map_eq_some_iff] at hby
       obtain ⟨i,hi,rfl⟩:=hby
       obtain ⟨zv,h1,h2⟩:=run_zeroValue hz w
       have hzs:=ofCells_VR h2 ρ
       have wl:IntKind.i64.wrap L=L:=by simp[IntKind.wrap,IntKind.signed,IntKind.bits];omega
       have wc:IntKind.i64.wrap C=C:=by simp[IntKind.wrap,IntKind.signed,IntKind.bits];omega
       have fin: ∀arr:Array Value,VRs ρ (List.replicate C.toNat z).flatten arr.toList→(execOp act.eval o).run P w= .ok (.value (.slice (some ⟨w.heap.size,0,none⟩) L.toNat C.toNat)) {w with heap:=w.heap.push (.cells arr e)}→
         ∃v arr,(execOp act.eval o).run P w= .ok (.value v) {w with heap:=w.heap.push (.cells arr e)}∧VRs ρ (List.replicate C.toNat z).flatten arr.toList∧(∀(ρ':List RB) b ez ext,ρ'[b]? =some ⟨w.heap.size,0,ez,ext⟩→VR ρ' (.slice b 0 L.toNat C.toNat none) v):=
        fun arr h1 h2=>⟨_,arr,h2,h1,fun ρ' b ez ext hb=>by simp only[VR];exact ⟨_,⟨w.heap.size,0,none⟩,C.toNat,rfl,hb,fun _=>by simp,by omega,fun _=>rfl,Nat.le_refl _,by simp⟩⟩
       have hti:(typeInfo e).run P w= .ok i w:=by simp[typeInfo,hi]
       have hlarge:(decide (C<0)||decide ((i.bytes:Int)*C>2^48))=false:=by simp;omega
       have hcase:((decide (C<0)||decide ((i.bytes:Int)*C>2^48))||decide (L<0)||decide (L>C))=false:=by simp;omega
       by_cases h0:C.toNat*z.length=0
       ·have hnil:(List.replicate C.toNat z).flatten= []:=List.eq_nil_of_length_eq_zero (by simpa using h0)
        refine fin #[] (by rw[hnil];simp[VRs]) ?_
        simp only[execOp,ho,Instr.makeSlice,Sem.run_bind,run_underlying ht,Result.andThen_ok,vl.int_inv,vc.int_inv,asInt,asIntOf,Sem.run_pure,hti,wl,wc,Sem.run_ite,hcase,Bool.false_eq_true,if_false,run_askRoom,run_sizeOf hs,h0,if_true]
        simp only[Array.range_zero',Array.map_empty,newRow,run_newObj,Sem.run_bind,Sem.run_pure,Result.andThen_ok]
       ·refine fin _ (zeros_ok hzs C.toNat) ?_
        simp only[execOp,ho,Instr.makeSlice,Sem.run_bind,run_underlying ht,Result.andThen_ok,vl.int_inv,vc.int_inv,asInt,asIntOf,Sem.run_pure,hti,wl,wc,Sem.run_ite,hcase,Bool.false_eq_true,if_false,run_askRoom,run_sizeOf hs,h0,h1]
        simp only[newRow,run_newObj,Sem.run_bind,Sem.run_pure,Result.andThen_ok]
      ·simp at hx
     ·simp at hx
    ·simp at hr
   ·simp at hr
  ·simp at hr
inductive WOp where
 |store (n:Nat) (x v:Arg)
 |mkmap
 |ustr (e:TypeId) (x n:Arg)
 |mapset (x k v:Arg)
 |append (esz bytes:Nat) (ty:TypeId) (str:Bool) (s x:Arg)
 |clear (zero:List AVal) (x:Arg)
 |growz (esz bytes:Nat) (ty:TypeId) (z:List AVal) (s x:Arg)
def sliceCells (m:AMem) (esz:Nat):AVal→Option (Nat×List AVal)
 | .nilslice=>some (0,[])
 | .slice b o n _ _=>if n=0 then some (0,[]) else ((readB m b).bind fun cs=>readN cs o (n*esz)).map fun cs=>(n,cs)
 |_=>none
def bytesOf (s:ByteArray):List AVal:=s.data.toList.map fun b=> .int .u8 b.toNat
def writeB (m:AMem) (b o:Nat) (xs:List AVal):Option AMem:=
 match m[b]? with
 |some (.own cs ty gr)=>if o+xs.length≤cs.length∧xs.all AVal.one then some (m.set b (.own (setN cs o xs) ty gr)) else none
 |_=>none
def appendE (m:AMem) (esz bytes:Nat) (ty:TypeId) (s:AVal) (n:Nat) (xs:List AVal):Option (AVal×AMem):=
 if xs.all AVal.one=false∨bytes=0 then none else
 match s with
 | .nilslice=>if n=0 then some (.nilslice,m) else
   if n*bytes≤140737488355328 then some (.slice m.length 0 n n (some esz),m++ [.own xs ty (some esz)]) else none
 | .slice b o len cap gr=>
   if n=0 then some (.slice b o len cap gr,m) else
   if len+n≤cap then (writeB m b (o+len*esz) xs).map fun m'=>(.slice b o (len+n) cap gr,m') else
   if (len+n)*bytes≤140737488355328 then
    (sliceCells m esz (.slice b o len cap gr)).bind fun old=>
     if old.2.all AVal.one=false then none else
     match gr with
     |none=>some (.slice m.length 0 (len+n) (len+n) (some esz),m++ [.own (old.2++xs) ty (some esz)])
     |some e=>match m[b]? with
      |some (.own cs ty' (some e'))=>if ty'=ty∧e=esz∧e'=esz∧o+len*esz≤cs.length then some (.slice m.length 0 (len+n) (len+n) (some esz),(m.set b .dead)++ [.own (old.2++xs) ty (some esz)]) else none
      |_=>none
   else none
 |_=>none
def growE (m:AMem) (esz bytes:Nat) (ty:TypeId) (z:List AVal) (s x:AVal):Option (AVal×AMem):=match x with
 | .int .i64 n=>if 0≤n∧n.toNat*bytes≤140737488355328 then appendE m esz bytes ty s n.toNat (List.replicate n.toNat z).flatten else none
 |_=>none
def clearE (m:AMem) (z:List AVal):AVal→Option (AVal×AMem)
 | .nilslice=>some (.undef,m)
 | .slice b o n _ _=>if n=0 then some (.undef,m) else (writeB m b o (List.replicate n z).flatten).map fun m'=>(.undef,m')
 |_=>none
def mapsetE (m:AMem) (x k v:AVal):Option (AVal×AMem):=
 match x,k with
 | .map b,.int .i64 n=>match m[b]? with
  |some (.mp es)=>some (.undef,m.set b (.mp (setE es n v)))
  |_=>none
 |_,_=>none
def ustrE (m:AMem) (e:TypeId) (x n:AVal):Option (AVal×AMem):=match x,n with
 | .nilptr,.int .i64 n=>if n=0 then some (.str .empty,m) else none
 | .ptr b o,.int .i64 n=>if 0<n∧n≤9223372036854775807 then match m[b]? with
   |some (.own cs ty _)=>if ty=e then ((readN cs o n.toNat).bind toB).map fun l=>(.str ⟨l.toArray⟩,m.set b .dead) else none
   |_=>none
  else none
 |_,_=>none
def WOp.ev (a:AFrame) (m:AMem):WOp→Option (AVal×AMem)
 | .ustr e x n=>ustrE m e (a.ev x) (a.ev n)
 | .store n x v=>match a.ev x with
  | .ptr b o=>if (a.ev v).cells.length=n then (writeB m b o (a.ev v).cells).map fun m'=>(.undef,m') else none
  |_=>none
 | .append esz bytes ty str s x=>if str then (match a.ev x with
   | .str t=>appendE m esz bytes ty (a.ev s) t.size (bytesOf t)
   |_=>none) else (sliceCells m esz (a.ev x)).bind fun xs=>appendE m esz bytes ty (a.ev s) xs.1 xs.2
 | .clear z x=>clearE m z (a.ev x)
 | .growz esz bytes ty z s x=>growE m esz bytes ty z (a.ev s) (a.ev x)
 | .mkmap=>some (.map m.length,m++ [.mp []])
 | .mapset x k v=>mapsetE m (a.ev x) (a.ev k) (a.ev v)
def cWrite (P:Program):Op→Option WOp
 | .store t x v=>match szOf P t,cArg x,cArg v with
  |some n,some x,some v=>some (.store n x v)
  |_,_,_=>none
 | .call {callee:= .builtin .append,args,argTypes}=>match args.toList,argTypes.toList with
  | [s,x],[ts,tx]=>match P.underlying ts,P.underlying tx with
   |some (.slice e),some (.slice _)=>match szOf P e,zeroOf P e,(P.info? e).map (·.bytes),cArg s,cArg x with
    |some n,some z,some b,some s,some x=>if z.length=n then some (.append n b e false s x) else none
    |_,_,_,_,_=>none
   |some (.slice e),some .string=>match szOf P e,zeroOf P e,(P.info? e).map (·.bytes),cArg s,cArg x with
    |some n,some z,some b,some s,some x=>if z.length=n∧n=1 then some (.append n b e true s x) else none
    |_,_,_,_,_=>none
   |some (.slice e),some (.int .i64)=>match szOf P e,zeroOf P e,(P.info? e).map (·.bytes),cArg s,cArg x with
    |some n,some z,some b,some s,some x=>if z.length=n∧n≠0 then some (.growz n b e z s x) else none
    |_,_,_,_,_=>none
   |_,_=>none
  |_,_=>none
 | .call {callee:= .builtin .clear,args,argTypes}=>match args.toList,argTypes.toList with
  | [x],[t]=>match P.underlying t with
   |some (.slice e)=>match szOf P e,zeroOf P e,cArg x with
    |some n,some z,some x=>if z.length=n∧n≠0 then some (.clear z x) else none
    |_,_,_=>none
   |_=>none
  |_,_=>none
 | .call {callee:= .builtin .unsafeString,args,argTypes}=>match args.toList,argTypes.toList with
  | [x,n],[pt,_]=>match P.underlying pt with
   |some (.pointer e)=>if P.cellsOf e=1 then match cArg x,cArg n with
     |some x,some n=>some (.ustr e x n)
     |_,_=>none
    else none
   |_=>none
  |_,_=>none
 | .makeMap t none=>match P.underlying t with
  |some (.map _ _)=>some .mkmap
  |_=>none
 | .mapUpdate t x k v=>match P.underlying t with
  |some (.map kt _)=>match P.underlying kt,cArg x,cArg k,cArg v with
   |some (.int _),some x,some k,some v=>some (.mapset x k v)
   |_,_,_,_=>none
  |_=>none
 | .insert t x k v=>match P.underlying t with
  |some (.map kt _)=>match P.underlying kt,cArg x,cArg k,cArg v with
   |some (.int _),some x,some k,some v=>some (.mapset x k v)
   |_,_,_,_=>none
  |_=>none
 |_=>none
theorem run_storeCells {P:Program} {ρ:List RB} {b:Nat} {A:RB} {o:Nat} {ty:TypeId} {gr:Option Nat}: ∀(xs:List AVal) (vs:List Value) (i:Nat) (m:AMem) (w:World) (cs:List AVal),Sim ρ m w→m[b]? =some (.own cs ty gr)→ρ[b]? =some A→VRs ρ xs vs→xs.all AVal.one=true→o+i+xs.length≤cs.length→
  ∃w',(storeCells ⟨A.block,A.off+o,none⟩ vs i).run P w= .ok () w'∧Sim ρ (m.set b (.own (setN cs (o+i) xs) ty gr)) w'∧Evol ρ m w ρ (m.set b (.own (setN cs (o+i) xs) ty gr)) w'
 | [],vs,i,m,w,cs,hs,hb,hA,hv,_,_=>by
  simp only[VRs] at hv
  subst hv
  have hset:m.set b (.own cs ty gr)=m:=by
   apply List.ext_getElem?
   intro j
   rw[List.getElem?_set]
   split
   ·rename_i he
    subst he
    rw[if_pos (List.getElem?_eq_some_iff.1 hb).1,hb]
   ·rfl
  simp only[setN,hset]
  exact ⟨w,rfl,hs,Evol.refl _ _ _⟩
 |x::xs,vs,i,m,w,cs,hs,hb,hA,hv,ho,hl=>by
  simp only[VRs] at hv
  obtain ⟨v,vs',rfl,hv,hvs⟩:=hv
  simp only[List.all_cons,Bool.and_eq_true] at ho
  simp only[List.length_cons] at hl
  obtain ⟨h1,h2,h3,h4⟩:=hs.write hb hA (i:=o+i) (by omega) hv
  have hbl:b<m.length:=(List.getElem?_eq_some_iff.1 hb).1
  obtain ⟨w',h5,h6,h7⟩:=run_storeCells (P:=P) (o:=o) xs vs' (i+1) _ _ (cs.set (o+i) x) h1 (by rw[List.getElem?_set,if_pos rfl,if_pos hbl]) hA hvs ho.2 (by simp;omega)
  rw[List.set_set] at h6 h7
  refine ⟨w',?_,by simpa[setN,Nat.add_assoc] using h6,?_⟩
  ·have ha:(⟨A.block,A.off+o,none⟩:Addr).add i=at_ A (o+i):=by rw[Addr.add_lit];simp[at_,Nat.add_assoc]
   obtain ⟨u,hu⟩:=Option.isSome_iff_exists.1 h3
   simp only[storeCells,Sem.run_bind,ha,run_store P w (at_ A (o+i)) v .plain (VR.one ho.1 hv),hu,h4,Bool.false_eq_true,if_false,Result.andThen_ok]
   exact h5
  ·have:=h2.trans h7
   simpa[setN,Nat.add_assoc] using this
end Go.Proofs.YtodhalcpnmddjaaDoor.Ax
namespace Go.Proofs.YtodhalcpnmddjaaDoor.Ax
open Go
theorem growBy_le (need:Nat): ∀(r c B:Nat),need+(need+767) / 4≤B→c≤B→Builtin.growBy need r c≤B
 |0,c,B,_,h=>by simpa[Builtin.growBy] using h
 |r+1,c,B,hB,h=>by
  simp only[Builtin.growBy]
  split
  ·exact h
  ·exact growBy_le need r _ B hB (by omega)
theorem nextcap_le {need old:Nat} (h:old<need):Builtin.nextslicecap need old≤2*need:=by
 unfold Builtin.nextslicecap
 split
 ·omega
 ·split
  ·omega
  ·refine growBy_le need 4 old (2*need) ?_ (by omega)
   omega
theorem src_ok {P:Program} {ρ:List RB} {m:AMem} {w:World} (hs:Sim ρ m w) {esz n:Nat} {x:AVal} {xs:List AVal} (h:sliceCells m esz x=some (n,xs)) {v:Value} (hv:VR ρ x v):
  (Builtin.lenOf v).run P w= .ok n w∧xs.length=n*esz∧ ∃new:Array Value,(∀k,(Builtin.firstCells esz n v).run P {w with drawn:=w.drawn+k}= .ok new {w with drawn:=w.drawn+k})∧VRs ρ xs new.toList:=by
 unfold sliceCells at h
 split at h
 ·simp only[Option.some.injEq,Prod.mk.injEq] at h
  obtain ⟨rfl,rfl⟩:=h
  simp only[VR] at hv
  subst hv
  exact ⟨rfl,by simp,#[],fun k=>rfl,by simp[VRs]⟩
 ·rename_i b o l c gr
  simp only[VR] at hv
  obtain ⟨A,A',c',rfl,hA,hA',hlc,_⟩:=hv
  split at h
  ·rename_i h0
   simp only[Option.some.injEq,Prod.mk.injEq] at h
   obtain ⟨rfl,rfl⟩:=h
   subst h0
   exact ⟨rfl,by simp,#[],fun k=>by simp[Builtin.firstCells,loadCells,loadCellsFrom],by simp[VRs]⟩
  ·rename_i h0
   simp only[Option.map_eq_some_iff,Option.bind_eq_some_iff,Prod.mk.injEq] at h
   obtain ⟨ys,⟨cs,hc,hr⟩,rfl,rfl⟩:=h
   have ha:=hA' (by omega)
   subst ha
   have hlen:ys.length=l*esz:=by
    unfold readN at hr
    split at hr
    ·simp only[Option.some.injEq] at hr
     subst hr
     simp
     omega
    ·simp at hr
   -- the cells that are read are the same in each such world
   simp only[readB,Option.bind_eq_some_iff] at hc
   obtain ⟨blk,hb,hc⟩:=hc
   have hrd: ∀i,i<l*esz→ ∃v,w.cell? (at_ A (o+i))=some v∧ ∀x,ys[i]? =some x→VR ρ x v:=by
    intro i hi
    unfold readN at hr
    split at hr
    ·rename_i hle
     simp only[Option.some.injEq] at hr
     subst hr
     obtain ⟨x,hx⟩: ∃x,cs[o+i]? =some x:=⟨_,List.getElem?_eq_getElem (by omega)⟩
     obtain ⟨v,hv,hr⟩:=hs.read hb hc hA hx
     refine ⟨v,hv,fun y hy=>?_⟩
     simp only[List.getElem?_take,hi,if_true,List.getElem?_drop,hx,Option.some.injEq] at hy
     subst hy
     exact hr
    ·simp at hr
   let us:List Value:=(List.range (l*esz)).map fun i=>(w.cell? (at_ A (o+i))).getD undef
   have hul:us.length=l*esz:=by simp[us]
   refine ⟨rfl,hlen,us.toArray,fun k=>?_,?_⟩
   ·have:=run_loadCellsFrom (P:=P) (w:={w with drawn:=w.drawn+k}) A.block (A.off+o) us 0 #[] (fun j v hv=>by
     have hj:j<l*esz:=by rw[←hul];exact (List.getElem?_eq_some_iff.1 hv).1
     obtain ⟨u,hu,_⟩:=hrd j hj
     have:us[j]? =some u:=by simp[us,hj,hu]
     rw[this] at hv
     simp only[Option.some.injEq] at hv
     subst hv
     show w.cell? _=some _
     simpa[at_,Nat.add_assoc] using hu)
    rw[hul] at this
    simpa[Builtin.firstCells,loadCells] using this
   ·refine VRs.of_get (by simp[hul,hlen]) fun i x v hx hv=>?_
    have hi:i<l*esz:=by rw[←hul];exact (List.getElem?_eq_some_iff.1 (by simpa using hv)).1
    obtain ⟨u,hu,hr⟩:=hrd i hi
    have:us[i]? =some u:=by simp[us,hi,hu]
    simp only at hv
    rw[this] at hv
    simp only[Option.some.injEq] at hv
    subst hv
    exact hr x hx
 ·simp at h
theorem str_ok {P:Program} {ρ:List RB} {w:World} (s:ByteArray):
  (Builtin.lenOf (.string s)).run P w= .ok s.size w∧(bytesOf s).length=s.size∧ ∃new:Array Value,(∀k,(Builtin.firstCells 1 s.size (.string s)).run P {w with drawn:=w.drawn+k}= .ok new {w with drawn:=w.drawn+k})∧VRs ρ (bytesOf s) new.toList:=by
 refine ⟨rfl,by simp only[bytesOf,List.length_map,Array.length_toList];rfl,s.data.map fun b=> .int .u8 b.toNat,fun k=>?_,?_⟩
 ·simp only[Builtin.firstCells,ByteArray.extract_zero_size]
  rfl
 ·refine VRs.of_get (by simp[bytesOf]) fun i x v hx hv=>?_
  simp only[bytesOf,List.getElem?_map,Array.getElem?_toList,Option.map_eq_some_iff] at hx
  obtain ⟨b,hb,rfl⟩:=hx
  simp only[Array.toList_map,List.getElem?_map,Array.getElem?_toList,hb,Option.map_some,Option.some.injEq] at hv
  subst hv
  simp[VR]
section
variable {P:Program} {w:World} {ts tx e ty:TypeId} {size bytes:Nat} {base:Option Addr} {sLen sCap n:Nat} {x:Value} {new:Array Value} {d:TypeDesc}
theorem run_append_room (ht:P.underlying ts=some (.slice e)) (hx:P.underlying tx=some d) (hd: ∀k,d≠ .int k) (hs:szOf P e=some size) (hl:(Builtin.lenOf x).run P w= .ok n w)
  (hn: ∀k,(Builtin.firstCells size n x).run P {w with drawn:=w.drawn+k}= .ok new {w with drawn:=w.drawn+k}) (hroom:sLen+n≤sCap):
  (Builtin.append_ #[ts,tx] ty #[.slice base sLen sCap,x]).run P w=
   match base with
   |some a=>((storeCells (a.add (sLen*size)) new.toList).run P w).andThen fun _ w'=> .ok (.slice base (sLen+n) sCap) w'
   |none=> .ok (.slice base (sLen+n) sCap) w:=by
 have hz:((fun d:TypeDesc=>match d with| .int _=>true|_=>false) d)=false:=by
  cases d<;>first
   |rfl
   |exact absurd rfl (hd _)
 have hn0:=hn 0
 simp only[Nat.add_zero] at hn0
 unfold Builtin.append_
 simp only[List.getElem?_toArray,List.getElem?_cons_zero,List.getElem?_cons_succ,Sem.run_bind,run_underlying ht,Result.andThen_ok,run_sizeOf hs,run_underlying hx,Sem.run_pure]
 cases d<;>first
  |exact absurd rfl (hd _)
  |(simp only[Bool.false_eq_true,if_false,Sem.run_bind,hl,Result.andThen_ok,Sem.run_ite,if_pos hroom,Bool.not_false,if_true,hn0]
    cases base with
    |none=>simp
    |some a=>simp)
theorem run_append_grow (ht:P.underlying ts=some (.slice e)) (hx:P.underlying tx=some d) (hd: ∀k,d≠ .int k) (hs:szOf P e=some size) {i:TypeInfo} (hi:P.info? e=some i) (hb:i.bytes=bytes) (hb0:bytes≠0) {z:Value} (hz:(zeroValue e).run P {w with drawn:=w.drawn+1}= .ok z {w with drawn:=w.drawn+1}) (hl:(Builtin.lenOf x).run P w= .ok n w)
  (hn: ∀k,(Builtin.firstCells size n x).run P {w with drawn:=w.drawn+k}= .ok new {w with drawn:=w.drawn+k}) {old:Array Value} (ho: ∀k,(Builtin.firstCells size sLen (.slice base sLen sCap)).run P {w with drawn:=w.drawn+k}= .ok old {w with drawn:=w.drawn+k})
  (hgrow:sCap<sLen+n) (hroom:(sLen+n)*bytes≤140737488355328):
  ∃c,sLen+n≤c∧(Builtin.append_ #[ts,tx] ty #[.slice base sLen sCap,x]).run P w= .ok (.slice (some ⟨w.heap.size,0,none⟩) (sLen+n) c) {w with heap:=w.heap.push (.cells (old++new++Builtin.zeroCells z.cells (c-(sLen+n))) e),drawn:=w.drawn+1}:=by
 have hcap: ¬Builtin.nextslicecap (sLen+n) sCap*bytes>2^48:=by
  have:=nextcap_le hgrow
  have h2:Builtin.nextslicecap (sLen+n) sCap*bytes≤2*(sLen+n)*bytes:=Nat.mul_le_mul_right _ this
  have h3:2*(sLen+n)*bytes=2*((sLen+n)*bytes):=Nat.mul_assoc ..
  omega
 have hti:(typeInfo e).run P w= .ok i w:=by simp[typeInfo,hi]
 have hti1:(typeInfo e).run P {w with drawn:=w.drawn+1}= .ok i {w with drawn:=w.drawn+1}:=by simp[typeInfo,hi]
 have hn1:=hn 1
 have ho1:=ho 1
 let c:=(Question.appendCap (sLen+n) sCap e).cut (w.tape w.drawn (.appendCap (sLen+n) sCap e))
 have hc:sLen+n≤c:=by simp only[c,Question.cut];omega
 have hnb: ¬(((sLen+n:Nat):Int)>IntKind.i64.max∧(False∨i.bytes=0)):=by
  rw[hb];intro h;rcases h.2 with h|h<;>first|exact h|exact hb0 h
 refine ⟨c,hc,?_⟩
 unfold Builtin.append_
 simp only[List.getElem?_toArray,List.getElem?_cons_zero,List.getElem?_cons_succ,Sem.run_bind,run_underlying ht,Result.andThen_ok,run_sizeOf hs,run_underlying hx,Sem.run_pure]
 cases d<;>first
  |exact absurd rfl (hd _)
  |(simp only[Bool.false_eq_true,if_false,Sem.run_bind,hl,Result.andThen_ok,Sem.run_ite,if_neg (Nat.not_le.2 hgrow),hti,Bool.not_false,if_true]
    rw[if_neg (by simpa using hnb)]
    rw[hb,if_neg hcap]
    simp only[Sem.run_bind,run_choose,Question.forced,Bool.false_eq_true,if_false,Result.andThen_ok,hti1,run_askRoom,ho1,hn1,hz,newRow,run_newObj,Sem.run_pure]
    rfl)
theorem run_append_room_z (ht:P.underlying ts=some (.slice e)) (hx:P.underlying tx=some (.int .i64)) (hs:szOf P e=some size) (hs0:size≠0) {i:TypeInfo} (hi:P.info? e=some i) (hb:i.bytes=bytes) {k:Int} (h0:0≤k) (hkb:k*bytes≤140737488355328) (hw:IntKind.i64.wrap k=k) {z:Value} (hz:(zeroValue e).run P w= .ok z w) (hroom:sLen+k.toNat≤sCap):
  (Builtin.append_ #[ts,tx] ty #[.slice base sLen sCap,.int .i64 k]).run P w=
   match base with
   |some a=>((storeCells (a.add (sLen*size)) (Builtin.zeroCells z.cells k.toNat).toList).run P w).andThen fun _ w'=> .ok (.slice base (sLen+k.toNat) sCap) w'
   |none=> .ok (.slice base (sLen+k.toNat) sCap) w:=by
 have hti:(typeInfo e).run P w= .ok i w:=by simp[typeInfo,hi]
 have h1: ¬k<0:=by omega
 have h2: ¬k*bytes>2^48:=by omega
 unfold Builtin.append_
 simp only[List.getElem?_toArray,List.getElem?_cons_zero,List.getElem?_cons_succ,Sem.run_bind,run_underlying ht,Result.andThen_ok,run_sizeOf hs,run_underlying hx,Sem.run_pure,if_true,asInt,asIntOf,hw,h1,if_false,hti,hb,h2,Sem.run_ite,Bool.not_true,Bool.false_eq_true,if_pos hroom]
 by_cases hk:k.toNat*size=0
 ·have hk0:k.toNat=0:=by rcases Nat.mul_eq_zero.1 hk with h|h;exact h;exact absurd h hs0
  simp only[hk,if_true,Sem.run_pure,Result.andThen_ok,hk0,Builtin.zeroCells]
  cases base with
  |none=>simp
  |some a=>simp
 ·simp only[hk,if_false,Sem.run_bind,hz,Sem.run_pure,Result.andThen_ok]
  cases base with
  |none=>simp
  |some a=>simp
theorem run_append_grow_z (ht:P.underlying ts=some (.slice e)) (hx:P.underlying tx=some (.int .i64)) (hs:szOf P e=some size) (hs0:size≠0) {i:TypeInfo} (hi:P.info? e=some i) (hb:i.bytes=bytes) {k:Int} (h0:0≤k) (hkb:k*bytes≤140737488355328) (hw:IntKind.i64.wrap k=k) {z:Value} (hz:(zeroValue e).run P {w with drawn:=w.drawn+1}= .ok z {w with drawn:=w.drawn+1})
  {old:Array Value} (ho: ∀k,(Builtin.firstCells size sLen (.slice base sLen sCap)).run P {w with drawn:=w.drawn+k}= .ok old {w with drawn:=w.drawn+k})
  (hgrow:sCap<sLen+k.toNat) (hb0:bytes≠0) (hroom:(sLen+k.toNat)*bytes≤140737488355328):
  ∃c,sLen+k.toNat≤c∧(Builtin.append_ #[ts,tx] ty #[.slice base sLen sCap,.int .i64 k]).run P w= .ok (.slice (some ⟨w.heap.size,0,none⟩) (sLen+k.toNat) c) {w with heap:=w.heap.push (.cells (old++Builtin.zeroCells z.cells k.toNat++Builtin.zeroCells z.cells (c-(sLen+k.toNat))) e),drawn:=w.drawn+1}:=by
 have hti:(typeInfo e).run P w= .ok i w:=by simp[typeInfo,hi]
 have h1: ¬k<0:=by omega
 have h2: ¬k*bytes>2^48:=by omega
 have hcap: ¬Builtin.nextslicecap (sLen+k.toNat) sCap*bytes>2^48:=by
  have:=nextcap_le hgrow
  have h2:Builtin.nextslicecap (sLen+k.toNat) sCap*bytes≤2*(sLen+k.toNat)*bytes:=Nat.mul_le_mul_right _ this
  have h3:2*(sLen+k.toNat)*bytes=2*((sLen+k.toNat)*bytes):=Nat.mul_assoc ..
  omega
 have hti1:(typeInfo e).run P {w with drawn:=w.drawn+1}= .ok i {w with drawn:=w.drawn+1}:=by simp[typeInfo,hi]
 have ho1:=ho 1
 let c:=(Question.appendCap (sLen+k.toNat) sCap e).cut (w.tape w.drawn (.appendCap (sLen+k.toNat) sCap e))
 have hc:sLen+k.toNat≤c:=by simp only[c,Question.cut];omega
 have hle:sLen+k.toNat≤(sLen+k.toNat)*bytes:=Nat.le_mul_of_pos_right _ (by omega)
 have hmax:IntKind.i64.max=9223372036854775807:=by decide
 have hnb: ¬(((sLen+k.toNat:Nat):Int)>IntKind.i64.max∧(True∨i.bytes=0)):=by
  rw[hmax];omega
 refine ⟨c,hc,?_⟩
 unfold Builtin.append_
 simp only[List.getElem?_toArray,List.getElem?_cons_zero,List.getElem?_cons_succ,Sem.run_bind,run_underlying ht,Result.andThen_ok,run_sizeOf hs,run_underlying hx,Sem.run_pure,if_true,asInt,asIntOf,hw,h1,if_false,hti,hb,h2,Sem.run_ite,Bool.not_true,Bool.false_eq_true,if_neg (Nat.not_le.2 hgrow)]
 rw[if_neg (by rw[hb] at hnb;simpa using hnb)]
 rw[if_neg hcap]
 have hk0:k.toNat*size≠0∨k.toNat=0:=by
  by_cases h:k.toNat=0
  ·exact .inr h
  ·exact .inl (Nat.mul_ne_zero h hs0)
 rcases hk0 with hk|hk
 ·simp only[hk,Sem.run_bind,run_choose,Question.forced,Bool.false_eq_true,if_false,Result.andThen_ok,hti1,hb,run_askRoom,ho1,hz,newRow,run_newObj,Sem.run_pure]
  rfl
 ·have hz0:Builtin.zeroCells z.cells k.toNat= #[]:=by simp[Builtin.zeroCells,hk]
  have hk':k.toNat*size=0:=by simp[hk]
  simp only[hz0,hk',if_true,Sem.run_bind,run_choose,Question.forced,Bool.false_eq_true,if_false,Result.andThen_ok,hti1,hb,run_askRoom,ho1,hz,newRow,run_newObj,Sem.run_pure]
  rfl
end
end Go.Proofs.YtodhalcpnmddjaaDoor.Ax
namespace Go.Proofs.YtodhalcpnmddjaaDoor.Ax
open Go
theorem setN_append: ∀(xs as bs:List AVal),bs.length=xs.length→setN (as++bs) as.length xs=as++xs
 | [],as,bs,h=>by
  have:bs= []:=List.eq_nil_of_length_eq_zero (by simpa using h)
  simp[setN,this]
 |x::xs,as,bs,h=>by
  cases bs with
  |nil=>simp at h
  |cons b bs=>
   have h1:(as++b::bs).set as.length x=(as++ [x])++bs:=by
    rw[List.set_append_right _ _ (Nat.le_refl _)]
    simp
   have:=setN_append xs (as++ [x]) bs (by simpa using h)
   simp only[List.length_append,List.length_cons,List.length_nil,Nat.zero_add] at this
   simp only[setN,h1,this]
   simp
theorem Sim.blur {ρ:List RB} {m:AMem} {w:World} (h:Sim ρ m w) {b:Nat} {cs cs':List AVal} {ty:TypeId} {e:Nat} (hb:m[b]? =some (.own cs ty (some e))) {A:RB} (hA:ρ[b]? =some A) (hl:cs'.length≤A.ext) (hc: ∀(i:Nat) x,cs'[i]? =some x→x= .undef∨cs[i]? =some x):
  Sim ρ (m.set b (.own cs' ty (some e))) w∧Evol ρ m w ρ (m.set b (.own cs' ty (some e))) w:=by
 obtain ⟨arr,h1,h2,h3,h3',h4⟩:=h.ok b _ A hb hA
 obtain ⟨g1,g2⟩:=h3' e rfl
 have hbl:b<m.length:=(List.getElem?_eq_some_iff.1 hb).1
 have hget: ∀(b':Nat) blk,(m.set b (.own cs' ty (some e)))[b']? =some blk→(b'=b∧blk= .own cs' ty (some e))∨(b'≠b∧m[b']? =some blk):=by
  intro b' blk hb'
  rw[List.getElem?_set] at hb'
  by_cases he:b=b'
  ·subst he
   rw[if_pos rfl,if_pos hbl,Option.some.injEq] at hb'
   exact .inl ⟨rfl,hb'.symm⟩
  ·rw[if_neg he] at hb'
   exact .inr ⟨fun e=>he e.symm,hb'⟩
 refine ⟨⟨by simp[h.len],?_,?_,h.bound⟩,⟨List.prefix_refl _,rfl,rfl,rfl,Nat.le_refl _,fun _ _ _=>rfl,?_⟩⟩
 ·intro b' blk a' hb' ha'
  rcases hget b' blk hb' with ⟨rfl,rfl⟩|⟨hne,hb'⟩
  ·rw[hA] at ha'
   simp only[Option.some.injEq] at ha'
   subst ha'
   refine ⟨arr,h1,by omega,by simp,by simpa using ⟨g1,g2⟩,fun j y hy=>?_⟩
   rcases hc j y hy with rfl|hy'
   ·have:j<cs'.length:=(List.getElem?_eq_some_iff.1 hy).1
    exact ⟨_,Array.getElem?_eq_getElem (by omega),by simp[VR]⟩
   ·exact h4 j y hy'
  ·exact h.ok b' blk a' hb' ha'
 ·intro b1 b2 blk1 blk2 a1 a2 hne hb1 hb2 ha1 ha2 ho hlv
  rcases hget b1 blk1 hb1 with ⟨rfl,rfl⟩|⟨hne1,hb1'⟩<;>rcases hget b2 blk2 hb2 with ⟨rfl,rfl⟩|⟨hne2,hb2'⟩
  ·exact absurd rfl hne
  ·exact h.sep b1 b2 _ blk2 a1 a2 hne hb hb2' ha1 ha2 rfl hlv
  ·exact h.sep b1 b2 blk1 _ a1 a2 hne hb1' hb ha1 ha2 ho rfl
  ·exact h.sep b1 b2 blk1 blk2 a1 a2 hne hb1' hb2' ha1 ha2 ho hlv
 ·rintro r ⟨b',blk,a',hb',ho,ha',rfl⟩
  rcases hget b' blk hb' with ⟨rfl,rfl⟩|⟨hne,hb'⟩
  ·exact .inr ⟨b',_,a',hb,rfl,ha',rfl⟩
  ·exact .inr ⟨b',blk,a',hb',ho,ha',rfl⟩
theorem Sim.rebase {ρ:List RB} {m:AMem} {w:World} (h:Sim ρ m w) {b:Nat} {cs:List AVal} {ty:TypeId} {e:Nat} (hb:m[b]? =some (.own cs ty (some e))) {A:RB} (hA:ρ[b]? =some A) (o:Nat) (ho:o≤A.ext):
  Sim (ρ++ [⟨A.block,A.off+o,e,A.ext-o⟩]) (m.set b .dead++ [.own (cs.drop o) ty (some e)]) w∧Evol ρ m w (ρ++ [⟨A.block,A.off+o,e,A.ext-o⟩]) (m.set b .dead++ [.own (cs.drop o) ty (some e)]) w:=by
 obtain ⟨arr,h1,h2,h3,h3',h4⟩:=h.ok b _ A hb hA
 obtain ⟨g1,g2⟩:=h3' e rfl
 have hbl:b<m.length:=(List.getElem?_eq_some_iff.1 hb).1
 have hp:ρ<+:ρ++ [(⟨A.block,A.off+o,e,A.ext-o⟩:RB)]:=List.prefix_append _ _
 have hlen:(m.set b .dead).length=ρ.length:=by simp[h.len]
 have hsplit: ∀(b':Nat) blk a,(m.set b .dead++ [ABlk.own (cs.drop o) ty (some e)])[b']? =some blk→(ρ++ [(⟨A.block,A.off+o,e,A.ext-o⟩:RB)])[b']? =some a→
   (b'≠b∧m[b']? =some blk∧ρ[b']? =some a)∨(blk= .dead)∨(b'=m.length∧blk= .own (cs.drop o) ty (some e)∧a=⟨A.block,A.off+o,e,A.ext-o⟩):=by
  intro b' blk a hb' ha
  rcases Nat.lt_or_ge b' m.length with hlt|hge
  ·rw[List.getElem?_append_left (by simpa using hlt),List.getElem?_set] at hb'
   rw[List.getElem?_append_left (by rw[h.len];exact hlt)] at ha
   by_cases he:b=b'
   ·rw[if_pos he,if_pos hbl,Option.some.injEq] at hb'
    exact .inr (.inl hb'.symm)
   ·rw[if_neg he] at hb'
    exact .inl ⟨fun e=>he e.symm,hb',ha⟩
  ·rw[List.getElem?_append_right (by simpa using hge)] at hb'
   rw[List.getElem?_append_right (by rw[h.len];exact hge),h.len] at ha
   simp only[List.length_set] at hb'
   cases hk:b'-m.length with
   |zero=>
    rw[hk] at hb' ha
    simp only[List.getElem?_cons_zero,Option.some.injEq] at hb' ha
    exact .inr (.inr ⟨by omega,hb'.symm,ha.symm⟩)
   |succ k=>rw[hk] at hb';simp at hb'
 refine ⟨⟨by simp[h.len],?_,?_,?_⟩,⟨hp,rfl,rfl,rfl,Nat.le_refl _,fun _ _ _=>rfl,?_⟩⟩
 ·intro b' blk a hb' ha
  rcases hsplit b' blk a hb' ha with ⟨_,hb',ha⟩|rfl|⟨_,rfl,rfl⟩
  ·exact (h.ok b' blk a hb' ha).mono hp
  ·trivial
  ·refine ⟨arr,h1,by simp only[List.length_drop];omega,by simp,by simp only[Option.some.injEq];rintro e' rfl;exact ⟨rfl,by omega⟩,fun i x hx=>?_⟩
   rw[List.getElem?_drop] at hx
   obtain ⟨v,hv,hr⟩:=h4 _ x hx
   exact ⟨v,by simp only;rw[Nat.add_assoc];exact hv,VR.mono hp x v hr⟩
 ·intro b1 b2 blk1 blk2 a1 a2 hne hb1 hb2 ha1 ha2 hown hlv
  rcases hsplit b1 blk1 a1 hb1 ha1 with ⟨n1,hb1,ha1⟩|rfl|⟨e1,rfl,rfl⟩
  ·rcases hsplit b2 blk2 a2 hb2 ha2 with ⟨n2,hb2,ha2⟩|rfl|⟨e2,rfl,rfl⟩
   ·exact h.sep b1 b2 blk1 blk2 a1 a2 hne hb1 hb2 ha1 ha2 hown hlv
   ·simp[ABlk.live] at hlv
   ·exact h.sep b1 b blk1 _ a1 A n1 hb1 hb ha1 hA hown rfl
  ·simp[ABlk.isOwn] at hown
  ·rcases hsplit b2 blk2 a2 hb2 ha2 with ⟨n2,hb2,ha2⟩|rfl|⟨e2,rfl,rfl⟩
   ·exact h.sep b b2 _ blk2 A a2 (Ne.symm n2) hb hb2 hA ha2 rfl hlv
   ·simp[ABlk.live] at hlv
   ·omega
 ·intro b' a ha
  rcases Nat.lt_or_ge b' ρ.length with hlt|hge
  ·rw[List.getElem?_append_left hlt] at ha
   exact h.bound b' a ha
  ·rw[List.getElem?_append_right hge] at ha
   cases hk:b'-ρ.length with
   |zero=>rw[hk] at ha;simp only[List.getElem?_cons_zero,Option.some.injEq] at ha;subst ha;exact h.bound b A hA
   |succ k=>rw[hk] at ha;simp at ha
 ·rintro r ⟨b',blk,a,hb',hown,ha,rfl⟩
  rcases hsplit b' blk a hb' ha with ⟨_,hb',ha⟩|rfl|⟨_,rfl,rfl⟩
  ·exact .inr ⟨b',blk,a,hb',hown,ha,rfl⟩
  ·simp[ABlk.isOwn] at hown
  ·exact .inr ⟨b,_,A,hb,rfl,hA,rfl⟩
def WrOK (ρ:List RB) (m:AMem) (w:World) (r:Result Value) (x:AVal) (m':AMem):Prop:=
 ∃v w' ρ',r= .ok v w'∧VR ρ' x v∧Sim ρ' m' w'∧Evol ρ m w ρ' m' w'
theorem zeroCells_size (z:Array Value) (n:Nat):(Builtin.zeroCells z n).size=n*z.size:=by simp[Builtin.zeroCells]
theorem writeB_inv {m m':AMem} {b o:Nat} {xs:List AVal} (h:writeB m b o xs=some m'): ∃cs ty gr,m[b]? =some (.own cs ty gr)∧o+xs.length≤cs.length∧xs.all AVal.one=true∧m'=m.set b (.own (setN cs o xs) ty gr):=by
 unfold writeB at h
 split at h
 ·rename_i cs ty gr hb
  split at h
  ·rename_i hc
   simp only[Option.some.injEq] at h
   exact ⟨cs,ty,gr,hb,hc.1,hc.2,h.symm⟩
  ·simp at h
 ·simp at h
theorem append_core {P:Program} {ρ:List RB} {m m':AMem} {w:World} (hsim:Sim ρ m w) {e:TypeId} {esz bytes n:Nat} {s y:AVal} {xs:List AVal} {sv:Value} {new zv:Array Value} {res:Result Value}
  (hzsz:zv.size=esz) (hsv:VR ρ s sv) (hxl:xs.length=n*esz) (hnew:VRs ρ xs new.toList)
  (hR: ∀base sLen sCap,sv= .slice base sLen sCap→sLen+n≤sCap→res=match base with
   |some a=>((storeCells (a.add (sLen*esz)) new.toList).run P w).andThen fun _ w'=> .ok (.slice base (sLen+n) sCap) w'
   |none=> .ok (.slice base (sLen+n) sCap) w)
  (hG: ∀base sLen sCap (old:Array Value),sv= .slice base sLen sCap→(∀k,(Builtin.firstCells esz sLen (.slice base sLen sCap)).run P {w with drawn:=w.drawn+k}= .ok old {w with drawn:=w.drawn+k})→sCap<sLen+n→(sLen+n)*bytes≤140737488355328→
   ∃c,sLen+n≤c∧res= .ok (.slice (some ⟨w.heap.size,0,none⟩) (sLen+n) c) {w with heap:=w.heap.push (.cells (old++new++Builtin.zeroCells zv (c-(sLen+n))) e),drawn:=w.drawn+1})
  (h:appendE m esz bytes e s n xs=some (y,m')):WrOK ρ m w res y m':=by
 unfold appendE at h
 split at h
 ·simp at h
 rename_i hc
 simp only[not_or,Bool.not_eq_false] at hc
 obtain ⟨hone,hb0⟩:=hc
 -- growth:a new row
 have grow: ∀(base:Option Addr) (sLen sCap:Nat) (old:Array Value) (os:List AVal),sv= .slice base sLen sCap→sCap<sLen+n→(sLen+n)*bytes≤140737488355328→os.length=sLen*esz→VRs ρ os old.toList→
   (∀k,(Builtin.firstCells esz sLen (.slice base sLen sCap)).run P {w with drawn:=w.drawn+k}= .ok old {w with drawn:=w.drawn+k})→
   WrOK ρ m w res (.slice m.length 0 (sLen+n) (sLen+n) (some esz)) (m++ [.own (os++xs) e (some esz)]):=by
  intro base sLen sCap old os hsv' hlt hroom hol hold ho
  subst hsv'
  obtain ⟨c,hcl,hrun⟩:=hG base sLen sCap old rfl ho hlt hroom
  have hos:=hold.length
  have hns:=hnew.length
  simp only[Array.length_toList] at hos hns
  have hsz:(old++new++Builtin.zeroCells zv (c-(sLen+n))).size=c*esz:=by
   simp only[Array.size_append,zeroCells_size,hzsz,hos,hns,hol,hxl]
   rw[←Nat.add_mul,←Nat.add_mul]
   congr 1
   omega
  obtain ⟨h1,h2⟩:=hsim.alloc (cs:=os++xs) (ty:=e) (arr:=old++new++Builtin.zeroCells zv (c-(sLen+n))) (gr:=some esz) (ez:=esz) (ext:=c*esz)
   (by rw[hsz,List.length_append,hol,hxl,←Nat.add_mul];exact Nat.mul_le_mul_right _ hcl) (by simp) (by simpa using hsz.symm) (fun j y hy=>by
    obtain ⟨u,hu,hr⟩:=(hold.append hnew).get j y hy
    refine ⟨u,?_,hr⟩
    rw[Array.getElem?_append_left]
    ·rw[←Array.getElem?_toList,Array.toList_append];exact hu
    ·have:=(List.getElem?_eq_some_iff.1 hu).1
     simpa using this) 1
  refine ⟨_,_,_,hrun,?_,h1,h2⟩
  simp only[VR]
  refine ⟨⟨w.heap.size,0,esz,c*esz⟩,_,c,rfl,by rw[←hsim.len];simp,fun _=>by simp,hcl,by simp,hcl,?_⟩
  simp
 split at h
 · -- nil
  simp only[VR] at hsv
  split at h
  ·rename_i h0
   simp only[Option.some.injEq,Prod.mk.injEq] at h
   obtain ⟨rfl,rfl⟩:=h
   subst h0
   subst hsv
   refine ⟨_,w,ρ,by rw[hR _ _ _ rfl (by simp)],by simp[VR],hsim,Evol.refl _ _ _⟩
  ·rename_i h0
   split at h
   ·rename_i hroom
    simp only[Option.some.injEq,Prod.mk.injEq] at h
    obtain ⟨rfl,rfl⟩:=h
    have:=grow none 0 0 #[] [] hsv (by omega) (by simpa using hroom) (by simp) (by simp[VRs]) (fun k=>rfl)
    simpa using this
   ·simp at h
 · -- a slice
  rename_i b o len cap gr
  have hsv0:=hsv
  simp only[VR] at hsv
  obtain ⟨A,A',c,rfl,hA,hA',hlc,hex,hcc,hgr⟩:=hsv
  split at h
  ·rename_i h0
   simp only[Option.some.injEq,Prod.mk.injEq] at h
   obtain ⟨rfl,rfl⟩:=h
   subst h0
   have hnil:new.toList= []:=by
    have:=hnew.length
    exact List.eq_nil_of_length_eq_zero (by rw[this,hxl];simp)
   refine ⟨_,w,ρ,by rw[hR _ _ _ rfl (by omega)];simp only[hnil,storeCells,Sem.run_pure,Result.andThen_ok,Nat.add_zero],hsv0,hsim,Evol.refl _ _ _⟩
  ·rename_i h0
   split at h
   · -- there is room
    rename_i hroom
    simp only[Option.map_eq_some_iff,Prod.mk.injEq] at h
    obtain ⟨m1,hw,rfl,rfl⟩:=h
    obtain ⟨cs,ty',gr',hb',hle,hone',rfl⟩:=writeB_inv hw
    have ha:=hA' (by omega)
    obtain ⟨w',h1,h2,h3⟩:=run_storeCells (P:=P) (o:=o+len*esz) xs new.toList 0 m w cs hsim hb' hA hnew hone (by simpa using hle)
    refine ⟨_,w',ρ,by
     rw[hR _ _ _ rfl (by omega)]
     simp only[ha,Addr.add_lit]
     rw[Nat.add_assoc,h1]
     rfl,?_,by simpa using h2,by simpa using h3⟩
    simp only[VR]
    exact ⟨A,_,c,rfl,hA,fun _=>rfl,by omega,hex,by omega,hgr⟩
   ·rename_i hroom
    split at h
    ·rename_i hbytes
     simp only[Option.bind_eq_some_iff] at h
     obtain ⟨⟨ln,os⟩,hold,h⟩:=h
     split at h
     ·simp at h
     rename_i hoo
     simp only[Bool.not_eq_false] at hoo
     obtain ⟨hol1,hol2,old,hold3,hold4⟩:=src_ok (P:=P) hsim hold hsv0
     have hln:ln=len:=by
      simp only[sliceCells] at hold
      split at hold
      ·simp only[Option.some.injEq,Prod.mk.injEq] at hold;omega
      ·simp only[Option.map_eq_some_iff,Prod.mk.injEq] at hold
       obtain ⟨_,_,h,_⟩:=hold
       exact h.symm
     subst hln
     split at h
     · -- exact
      simp only[Option.some.injEq,Prod.mk.injEq] at h
      obtain ⟨rfl,rfl⟩:=h
      have:=hex rfl
      exact grow _ ln c old os rfl (by omega) hbytes hol2 hold4 hold3
     ·rename_i e1
      split at h
      ·rename_i cs ty' e2 hb'
       split at h
       ·rename_i hcond
        obtain ⟨rfl,rfl,rfl,hoc⟩:=hcond
        simp only[Option.some.injEq,Prod.mk.injEq] at h
        obtain ⟨rfl,rfl⟩:=h
        obtain ⟨g1,g2⟩:=hgr _ rfl
        rcases Nat.lt_or_ge c (ln+n) with hlt|hge
        · -- it grows
         obtain ⟨k1,k2⟩:=hsim.kill b
         obtain ⟨v',w',ρ',j1,j2,j3,j4⟩:=grow _ ln c old os rfl hlt hbytes hol2 hold4 hold3
         -- the old block is let go behind it
         obtain ⟨q1,q2⟩:=j3.kill b
         have hbl:b<m.length:=(List.getElem?_eq_some_iff.1 hb').1
         rw[List.set_append_left _ _ hbl] at q1 q2
         exact ⟨v',w',ρ',j1,j2,q1,j4.trans q2⟩
        · -- in place
         have hc0:c≠0:=by omega
         have ha:=hA' hc0
         have hext:=g2 hc0
         obtain ⟨arr,r1,r2,r3,r3',r4⟩:=hsim.ok b _ A hb' hA
         have hmul:(ln+n)*e2≤c*e2:=Nat.mul_le_mul_right _ hge
         have hadd:(ln+n)*e2=ln*e2+n*e2:=Nat.add_mul ..
         let k:=o+ln*e2
         let cs':=cs.take k++List.replicate (n*e2) AVal.undef
         have hkl:(cs.take k).length=k:=by simp[k];omega
         have hcl':cs'.length=k+n*e2:=by simp only[cs',List.length_append,hkl,List.length_replicate]
         obtain ⟨s1,s2⟩:=hsim.blur (cs':=cs') hb' hA (by rw[hcl'];simp only[k];omega) (fun j y hy=>by
          simp only[cs'] at hy
          rcases Nat.lt_or_ge j k with hj|hj
          ·rw[List.getElem?_append_left (by omega),List.getElem?_take,if_pos hj] at hy
           exact .inr hy
          ·rw[List.getElem?_append_right (by omega),List.getElem?_replicate] at hy
           split at hy
           ·simp only[Option.some.injEq] at hy;exact .inl hy.symm
           ·simp at hy)
         have hbl:b<m.length:=(List.getElem?_eq_some_iff.1 hb').1
         obtain ⟨w',t1,t2,t3⟩:=run_storeCells (P:=P) (o:=o+ln*e2) xs new.toList 0 _ w cs' s1 (by rw[List.getElem?_set,if_pos rfl,if_pos hbl]) hA hnew hone (by rw[hcl',hxl];simp only[k];omega)
         rw[List.set_set] at t2 t3
         have hset:setN cs' (o+ln*e2+0) xs=cs.take k++xs:=by
          have:=setN_append xs (cs.take k) (List.replicate (n*e2) AVal.undef) (by simp[hxl])
          rw[hkl] at this
          simpa using this
         rw[hset] at t2 t3
         obtain ⟨u1,u2⟩:=t2.rebase (e:=e2) (by rw[List.getElem?_set,if_pos rfl,if_pos hbl]) hA o (by omega)
         rw[List.set_set] at u1 u2
         have hos:os=(cs.take k).drop o:=by
          simp only[sliceCells] at hold
          split at hold
          ·rename_i hl0
           simp only[Option.some.injEq,Prod.mk.injEq] at hold
           rw[←hold.2]
           simp[k,hl0]
          ·have hrb:readB m b=some cs:=by simp[readB,hb',ABlk.cells]
           simp only[hrb,Option.bind_some,Option.map_eq_some_iff,Prod.mk.injEq] at hold
           obtain ⟨ys,hr,_,rfl⟩:=hold
           unfold readN at hr
           rw[if_pos hoc,Option.some.injEq] at hr
           rw[←hr,List.drop_take]
           congr 1
           simp[k]
         have hdrop:(cs.take k++xs).drop o=os++xs:=by
          rw[List.drop_append_of_le_length (by rw[hkl];simp[k]),hos]
         rw[hdrop] at u1 u2
         refine ⟨_,w',_,by
          rw[hR _ _ _ rfl (by omega)]
          simp only[ha,Addr.add_lit]
          rw[Nat.add_assoc,t1]
          rfl,?_,u1,s2.trans (t3.trans u2)⟩
         simp only[VR]
         refine ⟨⟨A.block,A.off+o,e2,A.ext-o⟩,_,c,rfl,by rw[←hsim.len];simp,fun _=>by simp,hge,by simp,hge,?_⟩
         simp only[Option.some.injEq]
         rintro e' rfl
         exact ⟨rfl,fun _=>by omega⟩
       ·simp at h
      ·simp at h
    ·simp at h
 ·simp at h
theorem append_ok {P:Program} {ρ:List RB} {m m':AMem} {w:World} (hsim:Sim ρ m w) {ts tx e ty:TypeId} {d:TypeDesc} {esz bytes n:Nat} {z:List AVal} {i:TypeInfo} {s y:AVal} {xs:List AVal} {sv v:Value} {new:Array Value}
  (ht:P.underlying ts=some (.slice e)) (hx:P.underlying tx=some d) (hd: ∀k,d≠ .int k) (hs:szOf P e=some esz) (hz:zeroOf P e=some z) (hzl:z.length=esz) (hi:P.info? e=some i) (hb:i.bytes=bytes)
  (hsv:VR ρ s sv) (hl:(Builtin.lenOf v).run P w= .ok n w) (hxl:xs.length=n*esz) (hn: ∀k,(Builtin.firstCells esz n v).run P {w with drawn:=w.drawn+k}= .ok new {w with drawn:=w.drawn+k}) (hnew:VRs ρ xs new.toList)
  (h:appendE m esz bytes e s n xs=some (y,m')):WrOK ρ m w ((Builtin.append_ #[ts,tx] ty #[sv,v]).run P w) y m':=by
 have hb0:bytes≠0:=fun hb0=>by simp[appendE,hb0] at h
 obtain ⟨zv,hzv,hzc⟩:=run_zeroValue hz {w with drawn:=w.drawn+1}
 have hzsz:zv.cells.size=esz:=by
  have:=(ofCells_VR hzc []).length
  simp only[Array.length_toList] at this
  omega
 refine append_core (P:=P) hsim hzsz hsv hxl hnew (fun base sLen sCap e h=>?_) (fun base sLen sCap old e ho hlt hroom=>?_) h
 ·subst e
  exact run_append_room (ty:=ty) ht hx hd hs hl hn h
 ·subst e
  exact run_append_grow (ty:=ty) ht hx hd hs hi hb hb0 hzv hl hn ho hlt hroom
theorem run_zeroAll {P:Program} {t:TypeId} {cs:List AVal} (h:zeroOf P t=some cs): ∃z,(∀w,(zeroValue t).run P w= .ok z w)∧ofCells z.cells.toList=some cs:=by
 simp only[zeroOf,Option.bind_eq_some_iff] at h
 obtain ⟨z,⟨i,hi,hz⟩,hc⟩:=h
 exact ⟨z,fun w=>by simp[zeroValue,typeInfo,hi,hz],hc⟩
theorem growz_ok {P:Program} {ρ:List RB} {m m':AMem} {w:World} (hsim:Sim ρ m w) {ts tx e ty:TypeId} {esz bytes:Nat} {z:List AVal} {i:TypeInfo} {s y:AVal} {sv:Value} {k:Int}
  (ht:P.underlying ts=some (.slice e)) (hx:P.underlying tx=some (.int .i64)) (hs:szOf P e=some esz) (hz:zeroOf P e=some z) (hzl:z.length=esz) (hs0:esz≠0) (hi:P.info? e=some i) (hb:i.bytes=bytes)
  (hsv:VR ρ s sv) (h:growE m esz bytes e z s (.int .i64 k)=some (y,m')):WrOK ρ m w ((Builtin.append_ #[ts,tx] ty #[sv,.int .i64 k]).run P w) y m':=by
 unfold growE at h
 simp only at h
 split at h
 rotate_left
 ·simp at h
 rename_i hk
 obtain ⟨h0,hkb⟩:=hk
 have hb0:bytes≠0:=fun hb0=>by simp[appendE,hb0] at h
 obtain ⟨zv,hzv,hzc⟩:=run_zeroAll hz
 have hzs:=ofCells_VR hzc ρ
 have hzsz:zv.cells.size=esz:=by
  have:=hzs.length
  simp only[Array.length_toList] at this
  omega
 have hkb':k*bytes≤140737488355328:=by
  have e1:k=(k.toNat:Int):=by omega
  rw[e1]
  have e2:((k.toNat:Int)*(bytes:Int))=((k.toNat*bytes:Nat):Int):=by simp
  rw[e2]
  omega
 have hk1:k.toNat≤k.toNat*bytes:=Nat.le_mul_of_pos_right _ (by omega)
 have hw:IntKind.i64.wrap k=k:=by simp[IntKind.wrap,IntKind.signed,IntKind.bits];omega
 have hnew:VRs ρ (List.replicate k.toNat z).flatten (Builtin.zeroCells zv.cells k.toNat).toList:=by
  have:=zeros_ok hzs k.toNat
  unfold Builtin.zeroCells
  rw[hzsz,←hzl]
  rw[hzsz,←hzl] at this
  exact this
 refine append_core (P:=P) (new:=Builtin.zeroCells zv.cells k.toNat) hsim hzsz hsv (by simp[hzl]) hnew (fun base sLen sCap e h=>?_) (fun base sLen sCap old e ho hlt hroom=>?_) h
 ·subst e
  exact run_append_room_z (ty:=ty) ht hx hs hs0 hi hb h0 hkb' hw (hzv _) h
 ·subst e
  exact run_append_grow_z (ty:=ty) ht hx hs hs0 hi hb h0 hkb' hw (hzv _) ho hlt hb0 hroom
theorem clear_ok {P:Program} {ρ:List RB} {m m':AMem} {w:World} (hsim:Sim ρ m w) {t e ty:TypeId} {z:List AVal} {x:AVal} {v:Value} (ht:P.underlying t=some (.slice e)) (hz:zeroOf P e=some z) (hv:VR ρ x v) (h:clearE m z x=some (.undef,m')): ∃v' w',(Builtin.clear_ #[t] ty #[v]).run P w= .ok v' w'∧Sim ρ m' w'∧Evol ρ m w ρ m' w':=by
 cases x<;>simp only[clearE,reduceCtorEq] at h
 case nilslice=>
  simp only[Option.some.injEq,Prod.mk.injEq,true_and] at h
  subst h
  simp only[VR] at hv
  subst hv
  exact ⟨.tuple #[],w,by simp[Builtin.clear_,run_underlying ht],hsim,Evol.refl _ _ _⟩
 case slice b o n c gr=>
  simp only[VR] at hv
  obtain ⟨A,A',c',rfl,hA,hA',hlc,_⟩:=hv
  split at h
  ·rename_i h0
   simp only[Option.some.injEq,Prod.mk.injEq,true_and] at h
   subst h
   subst h0
   exact ⟨.tuple #[],w,by simp[Builtin.clear_,run_underlying ht],hsim,Evol.refl _ _ _⟩
  ·rename_i h0
   simp only[Option.map_eq_some_iff,Prod.mk.injEq,true_and] at h
   obtain ⟨m1,hw,rfl⟩:=h
   obtain ⟨cs,ty',gr',hb,hle,hone,rfl⟩:=writeB_inv hw
   obtain ⟨zv,h1,h2⟩:=run_zeroValue hz w
   have hzl:=(ofCells_VR h2 ρ).length
   simp only[Array.length_toList] at hzl
   have hzs:=zeros_ok (ofCells_VR h2 ρ) n
   have ha:=hA' (by omega)
   subst ha
   obtain ⟨w',h3,h4,h5⟩:=run_storeCells (P:=P) (o:=o) _ (Builtin.zeroCells zv.cells n).toList 0 m w cs hsim hb hA (by
    rw[hzl] at hzs
    unfold Builtin.zeroCells
    rw[hzl]
    exact hzs) hone (by simpa using hle)
   refine ⟨.tuple #[],w',?_,by simpa using h4,by simpa using h5⟩
   obtain ⟨n',rfl⟩:=Nat.exists_eq_succ_of_ne_zero h0
   simp only[Builtin.clear_,List.getElem?_toArray,List.getElem?_cons_zero,Sem.run_bind,run_underlying ht,Result.andThen_ok,h1,h3,Sem.run_pure]
theorem BlkOK.heapA {ρ:List RB} {w w':World} {a:RB} {blk:ABlk} (h:w'.heap[a.block]? =w.heap[a.block]?) (k:BlkOK ρ w a blk):BlkOK ρ w' a blk:=by
 cases blk with
 |dead=>trivial
 |ro cs=>intro i x hx;obtain ⟨v,hv,hr⟩:=k i x hx;exact ⟨v,by unfold World.cell? at hv ⊢;simp only[at_] at hv ⊢;rw[h];exact hv,hr⟩
 |own cs ty gr=>obtain ⟨arr,h1,h2⟩:=k;exact ⟨arr,by rw[h];exact h1,h2⟩
 |mp es=>obtain ⟨arr,c,h1,h2⟩:=k;exact ⟨arr,c,by rw[h];exact h1,h2⟩
 |obj l o vs us=>obtain ⟨h1,h2,h3⟩:=k;exact ⟨h1,by rw[h];exact h2,h3⟩
theorem Sim.poke {ρ:List RB} {m:AMem} {w w':World} (h:Sim ρ m w) {b:Nat} {cs:List AVal} {ty:TypeId} {gr:Option Nat} {A:RB} (hb:m[b]? =some (.own cs ty gr)) (hA:ρ[b]? =some A) (hsz:w'.heap.size=w.heap.size) (hh: ∀r,r≠A.block→w'.heap[r]? =w.heap[r]?)
  (h1:w'.os=w.os) (h2:w'.tape=w.tape) (h3:w'.output=w.output):Sim ρ (m.set b .dead) w'∧Evol ρ m w ρ (m.set b .dead) w':=by
 obtain ⟨k1,k2⟩:=h.kill b
 refine ⟨⟨k1.len,fun b' blk a hb' ha=>?_,k1.sep,fun b' a ha=>by rw[hsz];exact k1.bound b' a ha⟩,⟨k2.pre,h1,h2,h3,by omega,fun r hr hn=>?_,fun r hr=>?_⟩⟩
 ·have hok:=k1.ok b' blk a hb' ha
  by_cases e:b'=b
  ·subst e
   rw[List.getElem?_set_self (List.getElem?_eq_some_iff.1 hb).1] at hb'
   simp only[Option.some.injEq] at hb'
   subst hb'
   trivial
  ·rw[List.getElem?_set_ne (Ne.symm e)] at hb'
   cases hl:blk.live
   ·cases blk<;>simp only[ABlk.live,Bool.true_eq_false] at hl;trivial
   ·exact hok.heapA (hh _ (Ne.symm (h.sep b b' _ _ A a (Ne.symm e) hb hb' hA ha rfl hl)))
 ·exact hh r fun e=>hn ⟨b,_,A,hb,rfl,hA,e.symm⟩
 ·rcases k2.own r hr with h4|h4
  ·exact .inl h4
  ·exact .inr h4
theorem liesAt_row {P:Program} {e:TypeId} (hc:P.cellsOf e=1) (count off n:Nat) (hn:off+n≤count):liesAt P P.depth e count off e n=true:=by
 have hd:P.depth=(2*(P.types.size+Made.depth)+1)+1:=rfl
 rw[hd]
 simp only[liesAt,Bool.or_eq_true]
 left
 rw[hd]
 simp[rowAt,hc,hn,sameLayout,Nat.mod_one]
theorem run_unsafeString_off {P:Program} (w:World) (pt it ty e:TypeId) (hp:P.underlying pt=some (.pointer e)) (hc:P.cellsOf e=1) (g off cells:Nat) (hsh:w.shape? g=some (e,cells)) (l:List UInt8) (h0:l≠ []) (hn:off+l.length≤cells) (h63:l.length≤9223372036854775807)
  (hcell: ∀j x,l[j]? =some x→w.cell? ((⟨g,off,none⟩:Addr).add j)=some (.int .u8 x.toNat)):
  (Builtin.unsafeString_ #[pt,it] ty #[.pointer (some ⟨g,off,none⟩),.int .i64 l.length]).run P w= .ok (.string ⟨l.toArray⟩) (w.freeze ⟨g,off,none⟩ l.length):=by
 have hl:l.length≠0:=by simpa using h0
 have hlb:=Go.Lib.run_loadBytes (P:=P) w l ⟨g,off,none⟩ .empty hcell
 have hlies:=liesAt_row (P:=P) hc (cells / P.cellsOf e) off l.length (by rw[hc];simpa using hn)
 have h63': ¬(9223372036854775807:Int)<(l.length:Int):=by omega
 have hdef:Builtin.unsafeString_ #[pt,it] ty #[.pointer (some ⟨g,off,none⟩),.int .i64 l.length]=
   (do
    let n ←asInt (.int .i64 l.length)
    if n<0 then runtimePanic (.error "unsafe.String: len out of range")
    if n>IntKind.i64.max then unsupported (.unsafePointer "String: a length above the largest int")
    if n=0 then pure (.string .empty)
    else if ←variablesAt ⟨g,off,none⟩ (←elemOf pt) n.toNat then do
     let s ←loadBytes ⟨g,off,none⟩ .empty n.toNat
     freeze ⟨g,off,none⟩ n.toNat
     pure (.string s)
    else unsupported (.unsafePointer "String: not so many bytes at ptr")):=rfl
 rw[hdef]
 have hmax:IntKind.i64.max=9223372036854775807:=rfl
 have hneg: ¬(l.length:Int)<0:=by omega
 simp[asInt,asIntOf,hmax,h63',hneg,hl,variablesAt,hsh,elemOf,run_underlying hp,hlies,hlb]
theorem toB_length: ∀{xs:List AVal} {l:List UInt8},toB xs=some l→l.length=xs.length
 | [],l,h=>by simp only[toB,Option.some.injEq] at h;subst h;rfl
 |x::xs,l,h=>by
  unfold toB at h
  split at h
  ·rename_i h0;simp at h0
  ·rename_i k r he
   simp only[List.cons.injEq] at he
   obtain ⟨rfl,rfl⟩:=he
   split at h
   ·simp only[Option.map_eq_some_iff] at h
    obtain ⟨l',hl,rfl⟩:=h
    simp[toB_length hl]
   ·simp at h
  ·simp at h
theorem ustr_ok {P:Program} {ρ:List RB} {m m':AMem} {w:World} (hsim:Sim ρ m w) {pt it ty e:TypeId} (hp:P.underlying pt=some (.pointer e)) (hc:P.cellsOf e=1) {x n y:AVal} {xv nv:Value} (hx:VR ρ x xv) (hn:VR ρ n nv) (h:ustrE m e x n=some (y,m')):
  WrOK ρ m w ((Builtin.unsafeString_ #[pt,it] ty #[xv,nv]).run P w) y m':=by
 unfold ustrE at h
 split at h
 ·rename_i n
  split at h
  ·rename_i h0
   subst h0
   simp only[Option.some.injEq,Prod.mk.injEq] at h
   obtain ⟨rfl,rfl⟩:=h
   simp only[VR] at hx hn
   subst hx hn
   exact ⟨.string .empty,w,ρ,Go.Lib.run_unsafeString_none w pt it ty none,by simp[VR],hsim,Evol.refl _ _ _⟩
  ·simp at h
 ·rename_i b o n
  split at h
  ·rename_i h0
   split at h
   ·rename_i cs ty' gr hb
    split at h
    ·rename_i he
     subst he
     simp only[Option.map_eq_some_iff,Option.bind_eq_some_iff,Prod.mk.injEq] at h
     obtain ⟨l,⟨xs,hrd,hl⟩,rfl,rfl⟩:=h
     simp only[VR] at hx hn
     subst hn
     obtain ⟨A,hA,rfl⟩:=hx
     obtain ⟨arr,g1,g2,g3,g4,g5⟩:=hsim.ok b _ A hb hA
     have hlen:=toB_length hl
     have hrl:o+n.toNat≤cs.length∧xs=(cs.drop o).take n.toNat:=by
      unfold readN at hrd
      split at hrd
      ·rename_i hle;simp only[Option.some.injEq] at hrd;exact ⟨hle,hrd.symm⟩
      ·simp at hrd
     obtain ⟨hle,hxs⟩:=hrl
     have hln:l.length=n.toNat:=by rw[hlen,hxs];simp;omega
     have hsh:w.shape? A.block=some (ty',arr.size):=by simp[World.shape?,g1]
     have hbytes: ∀(xs:List AVal) (l:List UInt8),toB xs=some l→ ∀(j:Nat) u,l[j]? =some u→xs[j]? =some (.int .u8 u.toNat):=by
      intro xs
      induction xs with
      |nil=>intro l hl j u hu;simp only[toB,Option.some.injEq] at hl;subst hl;simp at hu
      |cons x xs ih=>
       intro l hl j u hu
       unfold toB at hl
       split at hl
       ·rename_i h0;simp at h0
       ·rename_i k r he
        simp only[List.cons.injEq] at he
        obtain ⟨rfl,rfl⟩:=he
        split at hl
        ·rename_i hk
         simp only[Option.map_eq_some_iff] at hl
         obtain ⟨l',hl',rfl⟩:=hl
         cases j with
         |zero=>
          simp only[List.getElem?_cons_zero,Option.some.injEq] at hu ⊢
          subst hu
          have:k.toNat<256:=by omega
          simp[Nat.mod_eq_of_lt this];omega
         |succ j=>simpa using ih l' hl' j u (by simpa using hu)
        ·simp at hl
       ·simp at hl
     have hcell: ∀j u,l[j]? =some u→w.cell? ((⟨A.block,A.off+o,none⟩:Addr).add j)=some (.int .u8 u.toNat):=by
      intro j u hu
      have hj:j<n.toNat:=by rw[←hln];exact (List.getElem?_eq_some_iff.1 hu).1
      have h1:=hbytes _ _ hl j u hu
      rw[hxs,List.getElem?_take,if_pos hj,List.getElem?_drop] at h1
      obtain ⟨v,hv,hr⟩:=g5 _ _ h1
      simp only[VR] at hr
      subst hr
      rw[Addr.add_lit]
      unfold World.cell?
      simp only[g1]
      rw[Nat.add_assoc]
      simpa using hv
     have hn0:((n.toNat:Nat):Int)=n:=by omega
     have hrun:=run_unsafeString_off (P:=P) w pt it ty ty' hp hc A.block (A.off+o) arr.size hsh l (by intro h;rw[h] at hln;simp at hln;omega) (by omega) (by omega) hcell
     rw[hln,hn0] at hrun
     obtain ⟨k1,k2⟩:=hsim.poke (w':=w.freeze ⟨A.block,A.off+o,none⟩ n.toNat) hb hA (by unfold World.freeze;split<;>simp) (fun r hr=>by
      unfold World.freeze
      split
      ·rfl
      ·simp only[Array.getElem?_modify]
       rw[if_neg (Ne.symm hr)]) (by unfold World.freeze;split<;>rfl) (by unfold World.freeze;split<;>rfl) (by unfold World.freeze;split<;>rfl)
     exact ⟨.string ⟨l.toArray⟩,_,ρ,hrun,by simp[VR],k1,k2⟩
    ·simp at h
   ·simp at h
  ·simp at h
 ·simp at h
theorem cWrite_ok {P:Program} {o:Oper} {r:WOp} (hr:cWrite P o.op=some r) {ρ:List RB} {a:AFrame} {act:Act} {m m':AMem} {w:World} {x:AVal} (hf:FR ρ a act.tmps) (hs:Sim ρ m w) (hx:r.ev a m=some (x,m')):
  ∃w' ρ',(((execOp act.eval o).run P w= .ok .skip w'∧x= .undef)∨(∃v,(execOp act.eval o).run P w= .ok (.value v) w'∧VR ρ' x v))∧Sim ρ' m' w'∧Evol ρ m w ρ' m' w':=by
 cases ho:o.op<;>rw[ho] at hr<;>simp only[cWrite,reduceCtorEq] at hr
 case store t y v=>
  split at hr
  ·rename_i n y' v' h1 h2 h3
   simp only[Option.some.injEq] at hr
   subst hr
   simp only[WOp.ev] at hx
   split at hx
   ·rename_i b of he
    split at hx
    ·rename_i hn
     simp only[Option.map_eq_some_iff,Prod.mk.injEq] at hx
     obtain ⟨m1,hw,rfl,rfl⟩:=hx
     obtain ⟨cs,ty,gr,hb,hle,hone,rfl⟩:=writeB_inv hw
     have hv:=hf.ev h2
     rw[he] at hv
     simp only[VR] at hv
     obtain ⟨A,hA,hv⟩:=hv
     have hu:a.ev v'≠ .undef:=by
      intro he
      rw[he] at hone
      simp[AVal.cells,AVal.one] at hone
     have hc:=VR.cells (fun _ _ _=>trivial) hu (hf.ev h3)
     have hl:=hc.length
     obtain ⟨w',h4,h5,h6⟩:=run_storeCells (P:=P) (o:=of) _ _ 0 m w cs hs hb hA hc hone (by simpa using hle)
     refine ⟨w',ρ,.inl ⟨?_,rfl⟩,by simpa using h5,by simpa using h6⟩
     simp only[Array.length_toList,hn] at hl
     simp only[execOp,ho,hv,Instr.storeAt,Instr.sureAddr,storeVar,Sem.run_bind,Sem.run_pure,Result.andThen_ok,run_sizeOf h1,hl,ne_eq,not_true_eq_false,if_false,h4]
    ·simp at hx
   ·simp at hx
  ·simp at hr
 case call c=>
  obtain ⟨callee,args,tys⟩:=c
  cases callee<;>try simp only[reduceCtorEq] at hr
  case builtin b=>
   cases b<;>try simp only[reduceCtorEq] at hr
   case append=>
    split at hr
    ·rename_i s y ts tx ha hty
     obtain rfl:args= #[s,y]:=by rw[←Array.toList_inj];simpa using ha
     obtain rfl:tys= #[ts,tx]:=by rw[←Array.toList_inj];simpa using hty
     obtain ⟨cn,hc⟩:=exec_builtin (act:=act) (w:=w) (P:=P) ho
     split at hr
     ·rename_i e e' ht htx
      split at hr
      ·rename_i n z by_ s' y' h1 h2 h3 h4 h5
       split at hr
       ·rename_i hzl
        simp only[Option.some.injEq] at hr
        subst hr
        simp only[Option.map_eq_some_iff] at h3
        obtain ⟨i,hi,hib⟩:=h3
        simp only[WOp.ev,Bool.false_eq_true,if_false,Option.bind_eq_some_iff] at hx
        obtain ⟨⟨k,xs⟩,hsl,hx⟩:=hx
        obtain ⟨q1,q2,new,q3,q4⟩:=src_ok (P:=P) hs hsl (hf.ev h5)
        obtain ⟨v,w',ρ',r1,r2,r3,r4⟩:=append_ok (ty:=o.type) hs ht htx (by simp) h1 h2 hzl hi hib (hf.ev h4) q1 q2 q3 q4 hx
        refine ⟨w',ρ',.inr ⟨v,?_,r2⟩,r3,r4⟩
        rw[hc]
        simp[builtin,r1]
       ·simp at hr
      ·simp at hr
     ·rename_i e ht htx
      split at hr
      ·rename_i n z by_ s' y' h1 h2 h3 h4 h5
       split at hr
       ·rename_i hzl
        obtain ⟨hzl,rfl⟩:=hzl
        simp only[Option.some.injEq] at hr
        subst hr
        simp only[Option.map_eq_some_iff] at h3
        obtain ⟨i,hi,hib⟩:=h3
        simp only[WOp.ev,if_true] at hx
        split at hx
        ·rename_i t he
         have hv:=hf.ev h5
         rw[he] at hv
         simp only[VR] at hv
         obtain ⟨q1,q2,new,q3,q4⟩:=str_ok (P:=P) (ρ:=ρ) (w:=w) t
         obtain ⟨v,w',ρ',r1,r2,r3,r4⟩:=append_ok (ty:=o.type) hs ht htx (by simp) h1 h2 hzl hi hib (hf.ev h4) q1 (by simpa using q2) q3 q4 hx
         refine ⟨w',ρ',.inr ⟨v,?_,r2⟩,r3,r4⟩
         rw[hc]
         simp[builtin,hv,r1]
        ·simp at hx
       ·simp at hr
      ·simp at hr
     ·rename_i e ht htx
      split at hr
      ·rename_i n z by_ s' y' h1 h2 h3 h4 h5
       split at hr
       ·rename_i hzl
        obtain ⟨hzl,hn0⟩:=hzl
        simp only[Option.some.injEq] at hr
        subst hr
        simp only[Option.map_eq_some_iff] at h3
        obtain ⟨i,hi,hib⟩:=h3
        simp only[WOp.ev] at hx
        obtain ⟨k,he⟩: ∃k,a.ev y'= .int .i64 k:=by
         unfold growE at hx
         split at hx
         ·rename_i k he
          exact ⟨k,he⟩
         ·simp at hx
        have hv:=hf.ev h5
        rw[he] at hv hx
        obtain ⟨v,w',ρ',r1,r2,r3,r4⟩:=growz_ok (ty:=o.type) hs ht htx h1 h2 hzl hn0 hi hib (hf.ev h4) hx
        refine ⟨w',ρ',.inr ⟨v,?_,r2⟩,r3,r4⟩
        rw[hc]
        simp[builtin,hv.int_inv,r1]
       ·simp at hr
      ·simp at hr
     ·simp at hr
    ·simp at hr
   case clear=>
    split at hr
    ·rename_i y t ha hty
     obtain rfl:args= #[y]:=by rw[←Array.toList_inj];simpa using ha
     obtain rfl:tys= #[t]:=by rw[←Array.toList_inj];simpa using hty
     obtain ⟨cn,hc⟩:=exec_builtin (act:=act) (w:=w) (P:=P) ho
     split at hr
     ·rename_i e ht
      split at hr
      ·rename_i n z y' h1 h2 h3
       split at hr
       ·rename_i hcond
        obtain ⟨hzl,hn0⟩:=hcond
        simp only[Option.some.injEq] at hr
        subst hr
        simp only[WOp.ev] at hx
        have hxu:x= .undef:=by
         unfold clearE at hx
         split at hx
         ·simp only[Option.some.injEq,Prod.mk.injEq] at hx;exact hx.1.symm
         ·split at hx
          ·simp only[Option.some.injEq,Prod.mk.injEq] at hx;exact hx.1.symm
          ·simp only[Option.map_eq_some_iff,Prod.mk.injEq] at hx
           obtain ⟨_,_,h,_⟩:=hx
           exact h.symm
         ·simp at hx
        subst hxu
        obtain ⟨v',w',r1,r2,r3⟩:=clear_ok (ty:=o.type) hs ht h2 (hf.ev h3) hx
        refine ⟨w',ρ,.inr ⟨v',?_,by simp[VR]⟩,r2,r3⟩
        rw[hc]
        simp[builtin,r1]
       ·simp at hr
      ·simp at hr
     ·simp at hr
    ·simp at hr
   case unsafeString=>
    split at hr
    ·rename_i y n pt it ha hty
     obtain rfl:args= #[y,n]:=by rw[←Array.toList_inj];simpa using ha
     obtain rfl:tys= #[pt,it]:=by rw[←Array.toList_inj];simpa using hty
     obtain ⟨cn,hc⟩:=exec_builtin (act:=act) (w:=w) (P:=P) ho
     split at hr
     ·rename_i e ht
      split at hr
      ·rename_i h1
       split at hr
       ·rename_i y' n' h2 h3
        simp only[Option.some.injEq] at hr
        subst hr
        simp only[WOp.ev] at hx
        obtain ⟨v,w',ρ',r1,r2,r3,r4⟩:=ustr_ok (it:=it) (ty:=o.type) hs ht h1 (hf.ev h2) (hf.ev h3) hx
        refine ⟨w',ρ',.inr ⟨v,?_,r2⟩,r3,r4⟩
        rw[hc]
        simp[builtin,r1]
       ·simp at hr
      ·simp at hr
     ·simp at hr
    ·simp at hr
 case makeMap t r=>
  cases r with
  |some _=>simp at hr
  |none=>
   simp only at hr
   split at hr
   ·simp only[Option.some.injEq] at hr
    subst hr
    simp only[WOp.ev,Option.some.injEq,Prod.mk.injEq] at hx
    obtain ⟨rfl,rfl⟩:=hx
    obtain ⟨k1,k2⟩:=hs.newMap
    refine ⟨_,_,.inr ⟨.map (some w.heap.size),?_,?_⟩,k1,k2⟩
    ·simp[execOp,ho,Instr.makeMap]
    ·simp only[VR]
     exact ⟨⟨w.heap.size,0,0,0⟩,by rw[←hs.len];simp,rfl⟩
   ·simp at hr
 case mapUpdate t y k v=>
  split at hr
  ·rename_i kt et ht
   split at hr
   ·rename_i ik y' k' v' h1 h2 h3 h4
    simp only[Option.some.injEq] at hr
    subst hr
    have hv:=hf.ev h2
    have hw:=hf.ev h3
    simp only[WOp.ev,mapsetE] at hx
    split at hx
    ·rename_i b n e1 e2
     rw[e1] at hv
     rw[e2] at hw
     simp only[VR] at hv hw
     obtain ⟨A,hA,hv⟩:=hv
     split at hx
     ·rename_i es hb
      simp only[Option.some.injEq,Prod.mk.injEq] at hx
      obtain ⟨rfl,rfl⟩:=hx
      obtain ⟨w',g1,g2,g3⟩:=mapset_ok (P:=P) hs hb hA ht h1 n (hf.ev h4)
      exact ⟨w',ρ,.inl ⟨by simp[execOp,ho,hv,hw,g1],rfl⟩,g2,g3⟩
     ·simp at hx
    ·simp at hx
   ·simp at hr
  ·simp at hr
 case insert t y k v=>
  split at hr
  ·rename_i kt et ht
   split at hr
   ·rename_i ik y' k' v' h1 h2 h3 h4
    simp only[Option.some.injEq] at hr
    subst hr
    have hv:=hf.ev h2
    have hw:=hf.ev h3
    simp only[WOp.ev,mapsetE] at hx
    split at hx
    ·rename_i b n e1 e2
     rw[e1] at hv
     rw[e2] at hw
     simp only[VR] at hv hw
     obtain ⟨A,hA,hv⟩:=hv
     split at hx
     ·rename_i es hb
      simp only[Option.some.injEq,Prod.mk.injEq] at hx
      obtain ⟨rfl,rfl⟩:=hx
      obtain ⟨w',g1,g2,g3⟩:=mapset_ok (P:=P) hs hb hA ht h1 n (hf.ev h4)
      exact ⟨w',ρ,.inl ⟨by simp[execOp,ho,hv,hw,g1],rfl⟩,g2,g3⟩
     ·simp at hx
    ·simp at hx
   ·simp at hr
  ·simp at hr
end Go.Proofs.YtodhalcpnmddjaaDoor.Ax
namespace Go.Proofs.YtodhalcpnmddjaaDoor.Ax
open Go
inductive COp where
 |P (p:POp)
 |R (r:ROp)
 |A (x:AOp)
 |W (x:WOp)
 |C (f:Arg) (args:List Arg)
structure CI where
 dst:Option Nat
 op:COp
 guard:Option (Nat×Bool):=none
def cOp (P:Program) (o:Op):Option COp:=
 match cPure P o with
 |some p=>some (.P p)
 |none=>match cRead P o with
  |some r=>some (.R r)
  |none=>match cNew P o with
   |some x=>some (.A x)
   |none=>match cWrite P o with
    |some x=>some (.W x)
    |none=>match o with
     | .call {callee:= .value f,args,..}=>match cArg f,cArgs args.toList with
      |some f,some xs=>some (.C f xs)
      |_,_=>none
     |_=>none
def cGuard (ops:Array Oper):Option (Nat×Bool)→Option (Option (Nat×Bool))
 |none=>some none
 |some (j,want)=>((ops[j]?).bind (·.dst)).map fun t=>some (t,want)
def cInstr (P:Program) (ops:Array Oper) (o:Oper):Option CI:=
 match cOp P o.op,cGuard ops o.guard with
 |some x,some g=>some ⟨o.dst,x,g⟩
 |_,_=>none
def cInstrs (P:Program) (ops:Array Oper):List Oper→Option (List CI)
 | []=>some []
 |o::r=>match cInstr P ops o,cInstrs P ops r with
  |some i,some l=>some (i::l)
  |_,_=>none
def Callable (P:Program) (f:FuncId):Prop:= ∃fn,P.funcs[f]? =some fn∧(fn.name== "runtime.NumGoroutine")=false∧fn.body.isNone=false
def ACalls (P:Program) (f:FuncId) (args:List AVal) (m:AMem) (R:AVal→AMem→Prop):Prop:=
 Callable P f∧ ∀(ρ:List RB) (w:World) (args':Array Value),Sim ρ m w→Glob ρ m w→VRs ρ args args'.toList→
  Calls P f args' w fun e w'=> ∃v' v m' ρ',e= .returned v'∧R v m'∧VR ρ' v v'∧Sim ρ' m' w'∧Evol ρ m w ρ' m' w'
theorem ACalls.mono {P:Program} {f:FuncId} {args:List AVal} {m:AMem} {R R':AVal→AMem→Prop} (h:ACalls P f args m R) (hr: ∀v m',R v m'→R' v m'):ACalls P f args m R':=
 ⟨h.1,fun ρ w args' hs hg hv=>(h.2 ρ w args' hs hg hv).mono fun _ _ ⟨v',v,m',ρ',h1,h2,h3⟩=>⟨v',v,m',ρ',h1,hr v m' h2,h3⟩⟩
def AYields (P:Program) (l:Nat) (args:List AVal) (m:AMem) (K:AVal→AMem→Prop):Prop:=
 ∀(ρ:List RB) (w:World) (args':Array Value),Sim ρ m w→Glob ρ m w→VRs ρ args args'.toList→
  ∃fn tmps assign body,(Instr.yield l args').run P w= .ok (.round l fn tmps assign body) w∧
   RoundIn Fence.wide 0 P l fn tmps assign body w fun e w'=> ∃v' v m' ρ',e= .returned v'∧K v m'∧VR ρ' v v'∧Sim ρ' m' w'∧Evol ρ m w ρ' m' w'
theorem AYields.mono {P:Program} {l:Nat} {args:List AVal} {m:AMem} {R R':AVal→AMem→Prop} (h:AYields P l args m R) (hr: ∀v m',R v m'→R' v m'):AYields P l args m R':=
 fun ρ w args' hs hg hv=>let ⟨fn,tmps,assign,body,h1,h2⟩:=h ρ w args' hs hg hv
  ⟨fn,tmps,assign,body,h1,h2.mono fun _ _ ⟨v',v,m',ρ',k1,k2,k3⟩=>⟨v',v,m',ρ',k1,hr v m' k2,k3⟩⟩
abbrev rdF (rd:Option Nat):Fence:={Fence.wide with round:=rd}
theorem calls_rd {n:Nat} {P:Program} {f:FuncId} {args:Array Value} {w:World} {R:Ending→World→Prop} (rd:Option Nat) (h:Calls P f args w R):CallsIn (rdF rd) n P f args w R:=
 ⟨trivial,fun cs _=>let ⟨e,w',fr,r,s,x⟩:=h cs;⟨e,w',fr,r,comesIn_wide.2 s,x⟩⟩
theorem round_rd {n:Nat} {P:Program} {l:Nat} {f:FuncId} {tmps:Array Value} {assign body:Code} {w:World} {R:Ending→World→Prop} (rd:Option Nat) (h:RoundIn Fence.wide 0 P l f tmps assign body w R):RoundIn (rdF rd) n P l f tmps assign body w R:=
 ⟨trivial,fun c cs _=>h.2 c cs (room_wide _)⟩
theorem cOp_nodefer {P:Program} {o:Op} {c:COp} (h:cOp P o=some c): ∀d,o≠ .defer d:=by
 rintro d rfl
 simp[cOp,cPure,cRead,cNew,cWrite] at h
def COp.step (P:Program) (K:AVal→AMem→Prop) (a:AFrame) (m:AMem):COp→Prop
 | .P p=>match p.ev a with
  |some x=>K x m
  |none=>False
 | .R r=>match r.ev a m with
  |some x=>K x m
  |none=>False
 | .A x=>match x.ev a with
  |some (cs,ty,mk)=>K (mk m.length) (m++ [.own cs ty none])
  |none=>False
 | .W x=>match x.ev a m with
  |some (y,m')=>K y m'
  |none=>False
 | .C f xs=>match a.ev f with
  | .func (.func g) fs cs=>ACalls P g (fs++xs.map a.ev++cs) m K
  | .func (.yield l) [] []=>AYields P l (xs.map a.ev) m K
  |_=>False
def gOf (v:AVal) (want:Bool):Option Bool:=
 match v with
 | .bool b=>some (b==want)
 | .tuple []=>some false
 |_=>none
def CI.step (P:Program) (i:CI) (K:AFrame→AMem→Prop) (a:AFrame) (m:AMem):Prop:=
 match i.guard with
 |none=>i.op.step P (fun x m'=>K (a.putO i.dst x) m') a m
 |some (t,want)=>match gOf (a.ev (.t t)) want with
  |some true=>i.op.step P (fun x m'=>K (a.putO i.dst x) m') a m
  |some false=>K (a.putO i.dst (.tuple [])) m
  |none=>False
theorem step_ok {n:Nat} (rd:Option Nat) {P:Program} {o:Oper} {c:COp} (hc:cOp P o.op=some c) {Q:Exit→Act→World→Prop} {ρ:List RB} {a:AFrame} {act:Act} {m:AMem} {w:World} {K:AVal→AMem→Prop} {K':Act→World→Prop} (hf:FR ρ a act.tmps) (hs:Sim ρ m w) (hgl:Glob ρ m w) (h:c.step P K a m)
  (hk: ∀x v m' w' ρ',K x m'→VR ρ' x v→Sim ρ' m' w'→Evol ρ m w ρ' m' w'→K' (act.put o.dst v) w'):o.wpIn (rdF rd) n P act w K' Q:=by
 refine ⟨fun _ _=>trivial,?_⟩
 rw[Oper.semAt_eq _ _ _ (cOp_nodefer hc)]
 unfold cOp at hc
 split at hc
 ·rename_i p hp
  simp only[Option.some.injEq] at hc
  subst hc
  simp only[COp.step] at h
  split at h
  ·rename_i x hx
   obtain ⟨v,h1,h2⟩:=cPure_ok hp ρ a act w x hf hx
   rw[h1]
   exact hk x v m w ρ h h2 hs (Evol.refl _ _ _)
  ·exact h.elim
 ·split at hc
  ·rename_i r hr
   simp only[Option.some.injEq] at hc
   subst hc
   simp only[COp.step] at h
   split at h
   ·rename_i x hx
    obtain ⟨v,h1,h2⟩:=cRead_ok hr hf hs hgl hx
    rw[h1]
    exact hk x v m w ρ h h2 hs (Evol.refl _ _ _)
   ·exact h.elim
  ·split at hc
   ·rename_i r hr
    simp only[Option.some.injEq] at hc
    subst hc
    simp only[COp.step] at h
    split at h
    ·rename_i cs ty mk hx
     obtain ⟨v,arr,h1,h2,h3⟩:=cNew_ok (w:=w) hr hf hx
     have hl:=h2.length
     simp only[Array.length_toList] at hl
     obtain ⟨k1,k2⟩:=hs.alloc (cs:=cs) (ty:=ty) (arr:=arr) (gr:=none) (ez:=0) (ext:=0) (by omega) (by intro _;omega) (by simp) (fun i x hx=>by
      obtain ⟨u,hu,hr⟩:=h2.get i x hx
      exact ⟨u,by simpa using hu,hr⟩) 0
     rw[h1]
     exact hk _ v _ _ _ h (h3 _ _ 0 0 (by rw[←hs.len];simp)) k1 k2
    ·exact h.elim
   ·split at hc
    ·rename_i r hr
     simp only[Option.some.injEq] at hc
     subst hc
     simp only[COp.step] at h
     split at h
     ·rename_i y m' hx
      obtain ⟨w',ρ',h1,h2,h3⟩:=cWrite_ok hr hf hs hx
      rcases h1 with ⟨h1,rfl⟩|⟨v,h1,hv⟩
      ·rw[h1]
       exact hk _ undef _ _ _ h (by simp[VR]) h2 h3
      ·rw[h1]
       exact hk _ v _ _ _ h hv h2 h3
     ·exact h.elim
    ·split at hc
     ·rename_i f args tys he
      split at hc
      ·rename_i f' xs hf' hxs
       simp only[Option.some.injEq] at hc
       subst hc
       simp only[COp.step] at h
       split at h
       ·rename_i g fs cs hg
        obtain ⟨⟨fn,hfn,hname,hbody⟩,hcalls⟩:=h
        have hv:=hf.ev hf'
        rw[hg] at hv
        simp only[VR] at hv
        obtain ⟨fs',cs',hv,hfs,hcs⟩:=hv
        have hargs:VRs ρ (fs++xs.map a.ev++cs) (fs'++args.map act.eval++cs').toList:=by
         simp only[Array.toList_append,Array.toList_map]
         exact (hfs.append (cArgs_ev hf hxs)).append hcs
        have hrun:(execOp act.eval o).run P w= .ok (.enter g (fs'++args.map act.eval++cs')) w:=by
         simp only[execOp,he,resolve,hv,Deferred.ofValue,pure_bind,invoke,callFunc,Sem.run_bind,run_program,Result.andThen_ok,hfn,hname,hbody,Bool.false_eq_true,if_false,Sem.run_pure]
        rw[hrun]
        refine ⟨fun hd=>by simp[rdF,Fence.wide] at hd,calls_rd rd ((hcalls ρ w _ hs hgl hargs).mono ?_)⟩
        rintro e w' ⟨v',v,m',ρ',rfl,h1,h2,h3,h4⟩
        exact hk v v' m' w' ρ' h1 h2 h3 h4
       ·rename_i l hg
        have hv:=hf.ev hf'
        rw[hg] at hv
        simp only[VR] at hv
        obtain ⟨fs',cs',hv,hfs,hcs⟩:=hv
        simp only[VRs,Array.toList_eq_nil_iff] at hfs hcs
        subst hfs hcs
        have hargs:VRs ρ (xs.map a.ev) (args.map act.eval).toList:=by
         simp only[Array.toList_map]
         exact cArgs_ev hf hxs
        obtain ⟨fn,tmps,assign,body,hy,hR⟩:=h ρ w _ hs hgl hargs
        have hrun:(execOp act.eval o).run P w= .ok (.round l fn tmps assign body) w:=by
         simp only[execOp,he,resolve,hv,Deferred.ofValue,pure_bind,invoke,Array.empty_append]
         exact hy
        rw[hrun]
        refine ⟨fun hd=>by simp[rdF,Fence.wide] at hd,round_rd rd (hR.mono ?_)⟩
        rintro e w' ⟨v',v,m',ρ',rfl,h1,h2,h3,h4⟩
        exact hk v v' m' w' ρ' h1 h2 h3 h4
       ·exact h.elim
      ·simp at hc
     ·simp at hc
theorem instr_ok {n:Nat} (rd:Option Nat) {P:Program} {ops:Array Oper} {o:Oper} {i:CI} (hc:cInstr P ops o=some i) {Q:Exit→Act→World→Prop} {ρ:List RB} {a:AFrame} {act:Act} {m:AMem} {w:World} {K:AFrame→AMem→Prop} {K':Act→World→Prop} (hf:FR ρ a act.tmps) (hs:Sim ρ m w) (hgl:Glob ρ m w) (h:i.step P K a m)
  (hk: ∀a' act' m' w' ρ',K a' m'→FR ρ' a' act'.tmps→act'.defers=act.defers→Sim ρ' m' w'→Evol ρ m w ρ' m' w'→K' act' w'):
  if Region.wanted o (yielded ops act.tmps) then o.wpIn (rdF rd) n P act w K' Q else (∀f,o.about P w act.eval=some f→(rdF rd).fn f)∧K' (act.put o.dst undef) w:=by
 unfold cInstr at hc
 split at hc
 ·rename_i x g hx hg
  simp only[Option.some.injEq] at hc
  subst hc
  have hdef: ∀(d:Option Nat) v,(act.put d v).defers=act.defers:=fun d v=>by cases d<;>rfl
  have core:x.step P (fun x m'=>K (a.putO o.dst x) m') a m→o.wpIn (rdF rd) n P act w K' Q:=fun h=>
   step_ok rd hx hf hs hgl h fun x v m' w' ρ' h1 h2 h3 h4=>hk _ _ m' w' ρ' h1 ((hf.mono h4.pre).put o.dst h2) (hdef _ _) h3 h4
  unfold CI.step at h
  simp only at h
  cases hgd:o.guard with
  |none=>
   rw[hgd] at hg
   simp only[cGuard,Option.some.injEq] at hg
   subst hg
   have:Region.wanted o (yielded ops act.tmps)=true:=by simp[Region.wanted,hgd]
   rw[if_pos this]
   exact core h
  |some jw=>
   obtain ⟨j,want⟩:=jw
   rw[hgd] at hg
   simp only[cGuard,Option.map_eq_some_iff] at hg
   obtain ⟨t,ht,rfl⟩:=hg
   simp only at h
   cases hv:a.ev (.t t)<;>rw[hv] at h
   case bool b=>
    simp only[gOf] at h
    have hv':act.tmps[t]? =some (.bool b):=by
     simp only[AFrame.ev] at hv
     cases ha:a[t]? with
     |none=>simp[List.getD,ha] at hv
     |some x=>
      simp only[List.getD,ha,Option.getD_some] at hv
      subst hv
      obtain ⟨v,h1,h2⟩:=hf.rel t _ ha
      rw[h1,h2.bool_inv]
    have hy:yielded ops act.tmps j=some b:=by
     unfold yielded
     rw[ht]
     simp[hv']
    have hw:Region.wanted o (yielded ops act.tmps)=(b==want):=by simp[Region.wanted,hgd,hy]
    rw[hw]
    cases hbw:(b==want)<;>rw[hbw] at h
    ·rw[if_neg (by simp)]
     exact ⟨fun _ _=>trivial,hk _ _ m w ρ h (hf.put o.dst (by simp[VR,undef,VRs])) (hdef _ _) hs (Evol.refl _ _ _)⟩
    ·rw[if_pos rfl]
     exact core h
   case tuple l=>
    cases l with
    |cons x l=>simp only[gOf] at h
    |nil=>
     simp only[gOf] at h
     have hy:yielded ops act.tmps j=none:=by
      unfold yielded
      rw[ht]
      simp only[AFrame.ev] at hv
      cases ha:a[t]? with
      |none=>simp[List.getD,ha] at hv
      |some x=>
       simp only[List.getD,ha,Option.getD_some] at hv
       subst hv
       obtain ⟨v,h1,h2⟩:=hf.rel t _ ha
       simp only[VR] at h2
       obtain ⟨cs,rfl,_⟩:=h2
       simp[h1]
     have hw:Region.wanted o (yielded ops act.tmps)=false:=by simp[Region.wanted,hgd,hy]
     rw[hw,if_neg (by simp)]
     exact ⟨fun _ _=>trivial,hk _ _ m w ρ h (hf.put o.dst (by simp[VR,undef,VRs])) (hdef _ _) hs (Evol.refl _ _ _)⟩
   all_goals simp only[gOf] at h
 ·simp at hc
def CI.list (P:Program) (K:AFrame→AMem→Prop):List CI→AFrame→AMem→Prop
 | [],a,m=>K a m
 |i::r,a,m=>i.step P (CI.list P K r) a m
theorem list_ok {n:Nat} (rd:Option Nat) {P:Program} {ops:Array Oper} {Q:Exit→Act→World→Prop} {K:AFrame→AMem→Prop}: ∀(l:List Oper) (is:List CI),cInstrs P ops l=some is→ ∀{ρ:List RB} {a:AFrame} {act:Act} {m:AMem} {w:World},FR ρ a act.tmps→Sim ρ m w→Glob ρ m w→CI.list P K is a m→
  (∀a' act' m' w' ρ',K a' m'→FR ρ' a' act'.tmps→act'.defers=act.defers→Sim ρ' m' w'→Evol ρ m w ρ' m' w'→Q .normal act' w')→wpListIn (rdF rd) n P ops Q l act w
 | [],is,hc,ρ,a,act,m,w,hf,hs,hgl,h,hk=>by
  simp only[cInstrs,Option.some.injEq] at hc
  subst hc
  exact wpListIn_nil (hk a act m w ρ h hf rfl hs (Evol.refl _ _ _))
 |o::l,is,hc,ρ,a,act,m,w,hf,hs,hgl,h,hk=>by
  simp only[cInstrs] at hc
  split at hc
  ·rename_i i is' hi his
   simp only[Option.some.injEq] at hc
   subst hc
   refine wpListIn_step fun K' hK'=>instr_ok rd hi hf hs hgl h fun a' act' m' w' ρ' h1 h2 h3 h4 h5=>hK' _ _ ?_
   exact list_ok rd l is' his h2 h4 (hgl.evol h5) h1 fun a2 act2 m2 w2 ρ2 k1 k2 k3 k4 k5=>hk a2 act2 m2 w2 ρ2 k1 k2 (k3.trans h3) k4 (h5.trans k5)
  ·simp at hc
end Go.Proofs.YtodhalcpnmddjaaDoor.Ax
namespace Go.Proofs.YtodhalcpnmddjaaDoor.Ax
open Go
abbrev Facts:=Nat→AMem→Prop
def upd (fs:Facts) (i:Nat) (φ:AMem→Prop):Facts:=fun j=>if j=i then φ else fs j
def noFacts:Facts:=fun _ _=>True
structure QSpec where
 ok:Prop
 S:AVal→Prop
 φ:AVal→AMem→Prop
def pfacts (av:List Nat) (fs:Facts) (m:AMem):Prop:= ∀j∈av,fs j m
def COp.spec (P:Program) (kf:AVal→AMem→Prop) (m0:AMem) (pf:AMem→Prop) (a:AFrame) (r:Nat):COp→QSpec
 | .P p=>⟨∃x,p.ev a=some x,fun x=>p.ev a=some x,fun _ _=>True⟩
 | .R r=>⟨∃x,∀m,m0<+:m→pf m→r.ev a m=some x,fun x=> ∀m,m0<+:m→pf m→r.ev a m=some x,fun _ _=>True⟩
 | .A x=>⟨∃c,x.ev a=some c,fun v=> ∃c b,x.ev a=some c∧m0.length≤b∧(m0≠ []→b%4096=r%4096)∧v=c.2.2 b,fun v m=> ∃c b,x.ev a=some c∧v=c.2.2 b∧m[b]? =some (.own c.1 c.2.1 none)⟩
 | .C f xs=>⟨(∃g fs cs,a.ev f= .func (.func g) fs cs∧ ∀m,m0<+:m→pf m→ACalls P g (fs++xs.map a.ev++cs) m fun v m'=>m<+:m'∧kf v m')∧(∃v m,m0<+:m∧kf v m)∧(∀v m m',m<+:m'→kf v m→kf v m'),fun v=> ∃m,m0<+:m∧kf v m,kf⟩
 | .W _=>⟨False,fun _=>False,fun _ _=>True⟩
def CI.spec (P:Program) (kf:AVal→AMem→Prop) (i:CI) (m0:AMem) (pf:AMem→Prop) (a:AFrame):QSpec:=
 match i.guard with
 |none=>i.op.spec P kf m0 pf a (i.dst.getD 0)
 |some (t,want)=>match gOf (a.ev (.t t)) want with
  |some true=>i.op.spec P kf m0 pf a (i.dst.getD 0)
  |some false=>⟨True,fun x=>x= .tuple [],fun _ _=>True⟩
  |none=>⟨False,fun _=>False,fun _ _=>True⟩
def COp.isW (cw:Bool):COp→Bool
 | .W _=>true
 | .C _ _=>cw
 |_=>false
def COp.isP:COp→Bool
 | .P _=>true
 |_=>false
def Late (lt:List (ROp×Nat)) (a:AFrame) (m:AMem):Prop:= ∀p∈lt,p.1.ev a m=some (a.ev (.t p.2))
def dstep (cw:Bool) (P:Program) (ks:Nat→AVal→AMem→Prop) (lt:List (ROp×Nat)) (idx:Nat) (i:CI) (av:List Nat) (K:AFrame→Facts→AMem→Prop) (a:AFrame) (fs:Facts) (m0:AMem):Prop:=
 if i.op.isW cw then
  ∀m,m0<+:m→(∀j,fs j m)→i.step P (fun a' m'=>Late lt a' m'∧K a' noFacts m') a m
 else
  (i.spec P (ks idx) m0 (pfacts av fs) a).ok∧ ∀x,(i.spec P (ks idx) m0 (pfacts av fs) a).S x→K (a.putO i.dst x) (upd fs idx ((i.spec P (ks idx) m0 (pfacts av fs) a).φ x)) m0
section
variable {cw:Bool} {P:Program} {ks:Nat→AVal→AMem→Prop}
theorem putO_length (a:AFrame) (d:Option Nat) (x:AVal):(a.putO d x).length=a.length:=by cases d<;>simp[AFrame.putO]
end
section
variable {P:Program}
theorem step_mono {K K':AVal→AMem→Prop} {o:COp} {a:AFrame} {m:AMem} (h:o.step P K a m) (hk: ∀v m,K v m→K' v m):o.step P K' a m:=by
 cases o<;>simp only[COp.step] at h ⊢
 case C f xs=>
  split at h
  ·exact h.mono hk
  ·exact h.mono hk
  ·exact h
 all_goals
  split at h
  ·exact hk _ _ h
  ·exact h
theorem istep_mono {K K':AFrame→AMem→Prop} {i:CI} {a:AFrame} {m:AMem} (h:i.step P K a m) (hk: ∀a m,K a m→K' a m):i.step P K' a m:=by
 unfold CI.step at h ⊢
 split
 ·rename_i hg
  rw[hg] at h
  exact step_mono h fun _ _=>hk _ _
 ·rename_i t w hg
  rw[hg] at h
  simp only at h
  cases hb:gOf (a.ev (.t t)) w with
  |none=>rw[hb] at h;exact h
  |some b=>
   rw[hb] at h
   cases b with
   |true=>exact step_mono h fun _ _=>hk _ _
   |false=>exact hk _ _ h
theorem istep_len {K:AFrame→AMem→Prop} {i:CI} {a:AFrame} {m:AMem} (h:i.step P K a m):i.step P (fun a' m'=>a'.length=a.length∧K a' m') a m:=by
 unfold CI.step at h ⊢
 split
 ·rename_i hg
  rw[hg] at h
  exact step_mono h fun _ _ h=>⟨putO_length _ _ _,h⟩
 ·rename_i t w hg
  rw[hg] at h
  simp only at h
  cases hb:gOf (a.ev (.t t)) w with
  |none=>rw[hb] at h;exact h
  |some b=>
   rw[hb] at h
   cases b with
   |true=>exact step_mono h fun _ _ h=>⟨putO_length _ _ _,h⟩
   |false=>exact ⟨putO_length _ _ _,h⟩
end
section
variable {cw:Bool} {P:Program} {ks:Nat→AVal→AMem→Prop}
theorem dstep_mono {lt:List (ROp×Nat)} {idx:Nat} {i:CI} {av:List Nat} {K K':AFrame→Facts→AMem→Prop} {a:AFrame} {fs:Facts} {m0:AMem} (h: ∀a' fs m0,a'.length=a.length→K a' fs m0→K' a' fs m0) (hd:dstep cw P ks lt idx i av K a fs m0):dstep cw P ks lt idx i av K' a fs m0:=by
 unfold dstep at hd ⊢
 split
 ·rename_i hw
  rw[if_pos hw] at hd
  exact fun m h1 h2=>istep_mono (istep_len (hd m h1 h2)) fun a' m' hk=>⟨hk.2.1,h _ _ _ hk.1 hk.2.2⟩
 ·rename_i hw
  rw[if_neg hw] at hd
  exact ⟨hd.1,fun x hx=>h _ _ _ (putO_length _ _ _) (hd.2 x hx)⟩
def Arg.reads:Arg→List Nat
 | .t n=> [n]
 | .c _=> []
def optReads:Option Arg→List Nat
 |none=> []
 |some x=>x.reads
def POp.reads:POp→List Nat
 | .mov x| .eqN _ _ x| .un _ x| .i2i _ x| .faddr _ x| .field _ _ _ x| .nilck x| .ext x _| .mkif _ x| .len x| .lenS x| .cap x| .sdata x=>x.reads
 | .pick c x y=>c.reads++x.reads++y.reads
 | .bin _ x y| .eqP _ x y| .eqB _ x y| .eqS _ _ x y| .iaddr _ x y| .iaddrA _ _ x y| .ixs x y| .ixa _ _ _ x y| .max x y| .min x y=>x.reads++y.reads
 | .build _ ps=>ps.flatMap fun p=>p.2.2.reads
 | .slice _ x lo hi mx=>x.reads++optReads lo++optReads hi++optReads mx
 | .sliceA _ _ x lo hi| .sliceS x lo hi=>x.reads++optReads lo++optReads hi
 | .mkfn _ fs cs=>fs.flatMap Arg.reads++cs.flatMap Arg.reads
def COp.reads:COp→List Nat
 | .P p=>p.reads
 | .R (.rk _ x)=>x.reads
 | .R (.load _ _ x)=>x.reads
 | .R (.lookup _ _ x k)=>x.reads++k.reads
 | .A (.alloc _ _)=> []
 | .A (.box _ x)=>x.reads
 | .A (.bslice _ _ _ ps)=>ps.flatMap fun p=>p.2.2.reads
 | .A (.mkslice _ _ _ l c)=>l.reads++c.reads
 | .W (.store _ x v)=>x.reads++v.reads
 | .W (.append _ _ _ _ s x)=>s.reads++x.reads
 | .W (.clear _ x)=>x.reads
 | .W (.growz _ _ _ _ s x)=>s.reads++x.reads
 | .W (.ustr _ x n)=>x.reads++n.reads
 | .W .mkmap=> []
 | .W (.mapset x k v)=>x.reads++k.reads++v.reads
 | .C f xs=>f.reads++xs.flatMap Arg.reads
def CI.reads (i:CI):List Nat:=i.op.reads++(match i.guard with|some (t,_)=> [t]|none=> [])
def Agree (l:List Nat) (a b:AFrame):Prop:= ∀t∈l,a.ev (.t t)=b.ev (.t t)
theorem Arg.ev_congr {a b:AFrame} {x:Arg} (h:Agree x.reads a b):a.ev x=b.ev x:=by
 cases x with
 |t n=>exact h n (by simp[Arg.reads])
 |c x=>rfl
theorem Agree.left {l l':List Nat} {a b:AFrame} (h:Agree (l++l') a b):Agree l a b:=fun t ht=>h t (List.mem_append_left _ ht)
theorem Agree.right {l l':List Nat} {a b:AFrame} (h:Agree (l++l') a b):Agree l' a b:=fun t ht=>h t (List.mem_append_right _ ht)
theorem bnd_congr {a b:AFrame} {x:Option Arg} (h:Agree (optReads x) a b) (d:Nat):bnd a x d=bnd b x d:=by
 cases x with
 |none=>rfl
 |some x=>simp only[bnd,Arg.ev_congr (x:=x) h]
theorem parts_congr {a b:AFrame} {ps:List (Nat×Nat×Arg)} (h:Agree (ps.flatMap fun p=>p.2.2.reads) a b):(ps.map fun p=>(p.1,p.2.1,a.ev p.2.2))=ps.map fun p=>(p.1,p.2.1,b.ev p.2.2):=
 List.map_congr_left fun p hp=>by rw[Arg.ev_congr (x:=p.2.2) fun t ht=>h t (List.mem_flatMap.2 ⟨p,hp,ht⟩)]
theorem args_congr {a b:AFrame} {xs:List Arg} (h:Agree (xs.flatMap Arg.reads) a b):xs.map a.ev=xs.map b.ev:=
 List.map_congr_left fun x hx=>Arg.ev_congr fun t ht=>h t (List.mem_flatMap.2 ⟨x,hx,ht⟩)
theorem POp.ev_congr {a b:AFrame} {p:POp} (h:Agree p.reads a b):p.ev a=p.ev b:=by
 cases p<;>simp only[POp.reads] at h
 case pick c x y=>simp only[POp.ev,Arg.ev_congr h.left.left,Arg.ev_congr h.left.right,Arg.ev_congr h.right]
 case build z ps=>simp only[POp.ev,parts_congr h]
 case slice e x lo hi mx=>
  have h1:=Arg.ev_congr h.left.left.left
  have h2:=bnd_congr h.left.left.right
  have h3:=bnd_congr h.left.right
  cases mx with
  |none=>simp only[POp.ev,h1,h2,h3];(repeat' split)<;>first|rfl|simp_all
  |some m=>
   have h4:=bnd_congr (x:=some m) h.right 0
   simp only[POp.ev,h1,h2,h3]
   (repeat' split)<;>first|rfl|simp_all
 case sliceA n e x lo hi=>simp only[POp.ev,Arg.ev_congr h.left.left,bnd_congr h.left.right,bnd_congr h.right]
 case sliceS x lo hi=>simp only[POp.ev,Arg.ev_congr h.left.left,bnd_congr h.left.right,bnd_congr h.right]
 case mkfn f fs cs=>simp only[POp.ev,args_congr h.left,args_congr h.right]
 all_goals first
  |(simp only[POp.ev,Arg.ev_congr h];done)
  |(simp only[POp.ev,Arg.ev_congr h.left,Arg.ev_congr h.right];done)
theorem COp.spec_congr {kf:AVal→AMem→Prop} {m0:AMem} {pf:AMem→Prop} {a b:AFrame} {r:Nat} {c:COp} (h:Agree c.reads a b):c.spec P kf m0 pf a r=c.spec P kf m0 pf b r:=by
 cases c with
 |P p=>simp only[COp.spec,POp.ev_congr (p:=p) h]
 |R r=>
  cases r with
  |rk k x=>
   have h1: ∀m,(ROp.rk k x).ev a m=(ROp.rk k x).ev b m:=fun m=>by simp only[ROp.ev,Arg.ev_congr (x:=x) h]
   simp only[COp.spec,h1]
  |load n g x=>
   have h1: ∀m,(ROp.load n g x).ev a m=(ROp.load n g x).ev b m:=fun m=>by simp only[ROp.ev,Arg.ev_congr (x:=x) h]
   simp only[COp.spec,h1]
  |lookup z ok x k=>
   have h1: ∀m,(ROp.lookup z ok x k).ev a m=(ROp.lookup z ok x k).ev b m:=fun m=>by simp only[ROp.ev,Arg.ev_congr (x:=x) h.left,Arg.ev_congr (x:=k) h.right]
   simp only[COp.spec,h1]
 |A x=>
  have h1:x.ev a=x.ev b:=by
   cases x<;>simp only[COp.reads] at h
   case alloc=>rfl
   case box t y=>simp only[AOp.ev,Arg.ev_congr h]
   case bslice t n z ps=>simp only[AOp.ev,parts_congr h]
   case mkslice t n z l c=>simp only[AOp.ev,Arg.ev_congr h.left,Arg.ev_congr h.right]
  simp only[COp.spec,h1]
 |W x=>rfl
 |C f xs=>
  simp only[COp.reads] at h
  simp only[COp.spec,Arg.ev_congr h.left,args_congr h.right]
theorem WOp.ev_congr {m:AMem} {a b:AFrame} {x:WOp} (h:Agree (COp.W x).reads a b):x.ev a m=x.ev b m:=by
 cases x<;>simp only[COp.reads] at h
 case store n y v=>simp only[WOp.ev,Arg.ev_congr h.left,Arg.ev_congr h.right]
 case append e y t str s x=>simp only[WOp.ev,Arg.ev_congr h.left,Arg.ev_congr h.right]
 case clear z x=>simp only[WOp.ev,Arg.ev_congr h]
 case mkmap=>rfl
 case ustr e x n=>simp only[WOp.ev,Arg.ev_congr h.left,Arg.ev_congr h.right]
 case growz n b e z s x=>simp only[WOp.ev,Arg.ev_congr h.left,Arg.ev_congr h.right]
 case mapset x k v=>simp only[WOp.ev,Arg.ev_congr h.left.left,Arg.ev_congr h.left.right,Arg.ev_congr h.right]
theorem CI.spec_congr {kf:AVal→AMem→Prop} {m0:AMem} {pf:AMem→Prop} {a b:AFrame} {i:CI} (h:Agree i.reads a b):i.spec P kf m0 pf a=i.spec P kf m0 pf b:=by
 unfold CI.reads at h
 unfold CI.spec
 cases hg:i.guard with
 |none=>rw[hg] at h;simp only;exact COp.spec_congr h.left
 |some tw=>
  rw[hg] at h
  simp only[h.right tw.1 (by simp),COp.spec_congr h.left]
theorem ev_putO {a:AFrame} {d:Option Nat} {x:AVal} {t:Nat} (h:d≠some t):(a.putO d x).ev (.t t)=a.ev (.t t):=by
 cases d with
 |none=>rfl
 |some d=>
  have:d≠t:=fun e=>h (by rw[e])
  simp[AFrame.putO,AFrame.ev,List.getD,List.getElem?_set_ne this]
theorem putO_comm {a:AFrame} {d e:Option Nat} (x y:AVal) (h: ∀t,d=some t→e≠some t):(a.putO d x).putO e y=(a.putO e y).putO d x:=by
 cases d with
 |none=>rfl
 |some d=>
  cases e with
  |none=>rfl
  |some e=>
   have:d≠e:=fun he=>h d rfl (by rw[he])
   simp only[AFrame.putO]
   exact List.set_comm _ _ this
def CI.apart (i j:CI):Bool:=
 (match i.dst with
  |some d=> !j.reads.contains d&&j.dst !=some d
  |none=>true)&&
 (match j.dst with
  |some d=> !i.reads.contains d
  |none=>true)
theorem CI.apart_spec {i j:CI} (h:i.apart j=true):(∀d,i.dst=some d→d∉j.reads)∧(∀d,i.dst=some d→j.dst≠some d)∧(∀d,j.dst=some d→d∉i.reads):=by
 refine ⟨fun d hd=>?_,fun d hd=>?_,fun d hd=>?_⟩<;>simp[CI.apart,hd] at h
 ·exact h.1.1
 ·exact h.1.2
 ·exact h.2
theorem agree_put {a:AFrame} {d:Option Nat} {x:AVal} {l:List Nat} (h: ∀t,d=some t→t∉l):Agree l (a.putO d x) a:=fun t ht=>ev_putO fun hd=>h t hd ht
theorem upd_comm (fs:Facts) {i j:Nat} (h:i≠j) (φ ψ:AMem→Prop):upd (upd fs i φ) j ψ=upd (upd fs j ψ) i φ:=by
 funext k
 unfold upd
 by_cases h1:k=j
 ·by_cases h2:k=i
  ·omega
  ·rw[if_pos h1,if_neg h2,if_pos h1]
 ·rw[if_neg h1]
  by_cases h2:k=i
  ·rw[if_pos h2]
   try rw[if_pos h2]
  ·rw[if_neg h2]
   try rw[if_neg h2,if_neg h1]
theorem pfacts_upd {av:List Nat} {fs:Facts} {i:Nat} {φ:AMem→Prop} (h:i∉av):pfacts av (upd fs i φ)=pfacts av fs:=by
 funext m
 unfold pfacts upd
 refine propext ⟨fun k j hj=>?_,fun k j hj=>?_⟩
 ·have:=k j hj
  rw[if_neg (fun e:j=i=>h (e▸hj))] at this
  exact this
 ·rw[if_neg (fun e:j=i=>h (e▸hj))]
  exact k j hj
theorem spec_nonempty {kf:AVal→AMem→Prop} {m0:AMem} {pf:AMem→Prop} {a:AFrame} {i:CI} (h:(i.spec P kf m0 pf a).ok): ∃x,(i.spec P kf m0 pf a).S x:=by
 have core: ∀(c:COp) (r:Nat),(c.spec P kf m0 pf a r).ok→ ∃x,(c.spec P kf m0 pf a r).S x:=by
  intro c r hc
  cases c with
  |P p=>exact hc
  |R r=>exact hc
  |A x=>obtain ⟨c,hc⟩:=hc;exact ⟨c.2.2 (4096*m0.length+r%4096),c,4096*m0.length+r%4096,hc,by omega,fun _=>by omega,rfl⟩
  |W x=>exact hc.elim
  |C f xs=>obtain ⟨v,m,h1,h2⟩:=hc.2.1;exact ⟨v,m,h1,h2⟩
 unfold CI.spec at h ⊢
 split at h
 ·exact core _ _ h
 ·split at h
  ·exact core _ _ h
  ·exact ⟨_,rfl⟩
  ·exact h.elim
theorem readB_mono {m m':AMem} (h:m<+:m') {b:Nat} {cs:List AVal} (hb:readB m b=some cs):readB m' b=some cs:=by
 simp only[readB,Option.bind_eq_some_iff] at hb ⊢
 obtain ⟨blk,h1,h2⟩:=hb
 exact ⟨blk,prefix_get h h1,h2⟩
theorem ROp.ev_mono {m m':AMem} (h:m<+:m') {a:AFrame} {r:ROp} {x:AVal} (hx:r.ev a m=some x):r.ev a m'=some x:=by
 cases r with
 |rk k y=>
  simp only[ROp.ev,rkE] at hx ⊢
  generalize a.ev y=v at hx ⊢
  cases k with
  |p2u=>
   simp only[p2uE] at hx ⊢
   split at hx
   ·split at hx
    ·rename_i cs ty hb
     rw[prefix_get h hb]
     exact hx
    ·simp at hx
   ·simp at hx
  |u2p ts=>
   simp only[u2pE] at hx ⊢
   split at hx
   ·split at hx
    ·rename_i cs ty hb
     rw[prefix_get h hb]
     exact hx
    ·simp at hx
   ·simp at hx
  |mlen=>
   simp only[mlenE] at hx ⊢
   split at hx
   ·split at hx
    ·rename_i es hb
     rw[prefix_get h hb]
     exact hx
    ·simp at hx
   ·simp at hx
  |b2s=>
   simp only[b2sE] at hx ⊢
   split at hx
   ·exact hx
   ·simp only[Option.bind_eq_some_iff] at hx
    obtain ⟨xs,⟨cs,h1,h2⟩,h3⟩:=hx
    simp only[readB_mono h h1,Option.bind_some,h2]
    exact h3
   ·simp at hx
 |load n g y=>
  simp only[ROp.ev] at hx ⊢
  split at hx
  ·rename_i b o he
   simp only[Option.bind_eq_some_iff] at hx
   obtain ⟨cs,h1,h2⟩:=hx
   simp only[readB_mono h h1,Option.bind_some]
   exact h2
  ·exact hx
  ·simp at hx
 |lookup z ok y k=>
  simp only[ROp.ev,lookupE] at hx ⊢
  split at hx
  ·split at hx
   ·rename_i es hb
    rw[prefix_get h hb]
    exact hx
   ·simp at hx
  ·simp at hx
def ROp.reads:ROp→List Nat
 | .rk _ x=>x.reads
 | .load _ _ x=>x.reads
 | .lookup _ _ x k=>x.reads++k.reads
theorem ROp.ev_congr {m:AMem} {a b:AFrame} {r:ROp} (h:Agree r.reads a b):r.ev a m=r.ev b m:=by
 cases r with
 |rk k x=>simp only[ROp.ev,Arg.ev_congr (x:=x) h]
 |load n g x=>simp only[ROp.ev,Arg.ev_congr (x:=x) h]
 |lookup z ok x k=>simp only[ROp.ev,Arg.ev_congr (x:=x) h.left,Arg.ev_congr (x:=k) h.right]
theorem AOp.ev_congr {a b:AFrame} {x:AOp} (h:Agree (COp.A x).reads a b):x.ev a=x.ev b:=by
 cases x<;>simp only[COp.reads] at h
 case alloc=>rfl
 case box t y=>simp only[AOp.ev,Arg.ev_congr h]
 case bslice t n z ps=>simp only[AOp.ev,parts_congr h]
 case mkslice t n z l c=>simp only[AOp.ev,Arg.ev_congr h.left,Arg.ev_congr h.right]
theorem step_congr {K:AVal→AMem→Prop} {o:COp} {a b:AFrame} {m:AMem} (h:Agree o.reads a b) (hs:o.step P K a m):o.step P K b m:=by
 cases o with
 |P p=>simp only[COp.step,POp.ev_congr (p:=p) h] at hs ⊢;exact hs
 |R r=>
  have:r.ev a m=r.ev b m:=by cases r<;>exact ROp.ev_congr h
  simp only[COp.step,this] at hs ⊢;exact hs
 |A x=>simp only[COp.step,AOp.ev_congr h] at hs ⊢;exact hs
 |W x=>simp only[COp.step,WOp.ev_congr h] at hs ⊢;exact hs
 |C f xs=>
  simp only[COp.reads] at h
  simp only[COp.step,Arg.ev_congr h.left,args_congr h.right] at hs ⊢;exact hs
theorem istep_shift {K K':AFrame→AMem→Prop} {j:CI} {a:AFrame} {d:Option Nat} {v:AVal} {m:AMem} (h1: ∀t,d=some t→t∉j.reads) (h:j.step P K (a.putO d v) m) (hk: ∀u m',K ((a.putO d v).putO j.dst u) m'→K' (a.putO j.dst u) m'):j.step P K' a m:=by
 have hA:Agree j.reads (a.putO d v) a:=agree_put h1
 unfold CI.reads at hA
 unfold CI.step at h ⊢
 cases hg:j.guard with
 |none=>
  rw[hg] at h hA
  simp only at h ⊢
  exact step_mono (step_congr hA.left h) hk
 |some tw=>
  rw[hg] at h hA
  simp only at h ⊢
  rw[hA.right tw.1 (by simp)] at h
  split
  ·rename_i hb
   rw[hb] at h
   exact step_mono (step_congr hA.left h) hk
  ·rename_i hb
   rw[hb] at h
   exact hk _ _ h
  ·rename_i hb
   rw[hb] at h
   exact h
theorem swap {x y:Nat} {i j:CI} {avi avj:List Nat} {lti lt lt':List (ROp×Nat)} (hxy:x≠y) (hap:i.apart j=true) (hi:x∉avj) (hj:y∉avi) (hwi:i.op.isW cw=false) (hlt: ∀p∈lt,p∈lt')
  (hwj:j.op.isW cw=true→(i.op.isP=true∨ ∃r d,i=⟨some d,.R r,none⟩∧(r,d)∈lt'∧d∉r.reads)∧ ∀p∈lt,∀d,i.dst=some d→d∉p.1.reads∧d≠p.2)
  {K:AFrame→Facts→AMem→Prop} {a:AFrame} {fs:Facts} {m0:AMem} (h:dstep cw P ks lti x i avi (dstep cw P ks lt' y j avj K) a fs m0) (hrz: ∀r d,i=⟨some d,.R r,none⟩→d<a.length):dstep cw P ks lt y j avj (dstep cw P ks lti x i avi K) a fs m0:=by
 obtain ⟨h1,h2,h3⟩:=CI.apart_spec hap
 unfold dstep at h
 rw[if_neg (by simp[hwi])] at h
 obtain ⟨hok,hall⟩:=h
 cases hw:j.op.isW cw with
 |false=>
  simp only[hw,Bool.false_eq_true,if_false] at hall
  unfold dstep
  simp only[hw,hwi,Bool.false_eq_true,if_false]
  have ej: ∀v φ,j.spec P (ks y) m0 (pfacts avj (upd fs x φ)) (a.putO i.dst v)=j.spec P (ks y) m0 (pfacts avj fs) a:=fun v φ=>by
   rw[pfacts_upd hi,CI.spec_congr (agree_put h1)]
  have ei: ∀v φ,i.spec P (ks x) m0 (pfacts avi (upd fs y φ)) (a.putO j.dst v)=i.spec P (ks x) m0 (pfacts avi fs) a:=fun v φ=>by
   rw[pfacts_upd hj,CI.spec_congr (agree_put h3)]
  simp only[ej] at hall
  simp only[ei]
  obtain ⟨v0,hv0⟩:=spec_nonempty hok
  refine ⟨(hall v0 hv0).1,fun u hu=>⟨hok,fun v hv=>?_⟩⟩
  have:=(hall v hv).2 u hu
  rwa[putO_comm v u h2,upd_comm fs hxy] at this
 |true=>
  simp only[hw,if_true] at hall
  obtain ⟨hp,hlp⟩:=hwj hw
  -- the other one's facts say nothing
  have hφ: ∀m0' pf' b v,(i.spec P (ks x) m0' pf' b).φ v=fun _=>True:=by
   intro m0' pf' b v
   unfold CI.spec
   rcases hp with hp|⟨r,d,rfl,_,_⟩
   ·cases hop:i.op<;>rw[hop] at hp<;>simp only[COp.isP,Bool.false_eq_true] at hp
    cases i.guard with
    |none=>rfl
    |some tw=>
     simp only
     split<;>rfl
   ·rfl
  unfold dstep
  simp only[hw,hwi,Bool.false_eq_true,if_false,if_true]
  obtain ⟨v0,hv0⟩:=spec_nonempty hok
  intro m hm hf
  have hfs: ∀v,∀k,upd fs x ((i.spec P (ks x) m0 (pfacts avi fs) a).φ v) k m:=fun v k=>by
   unfold upd
   split
   ·rw[hφ];trivial
   ·exact hf k
  -- the other one has one value
  have huniq: ∀v,(i.spec P (ks x) m0 (pfacts avi fs) a).S v→v=v0:=by
   intro v hv
   rcases hp with hp|⟨r,d,rfl,_,_⟩
   ·cases hop:i.op<;>rw[hop] at hp<;>simp only[COp.isP,Bool.false_eq_true] at hp
    unfold CI.spec at hv hv0
    cases hg:i.guard with
    |none=>
     rw[hg] at hv hv0
     simp only[hop,COp.spec] at hv hv0
     rw[hv] at hv0
     simpa using hv0
    |some tw=>
     rw[hg] at hv hv0
     simp only at hv hv0
     split at hv
     ·rename_i hb
      rw[hb] at hv0
      simp only[hop,COp.spec] at hv hv0
      rw[hv] at hv0
      simpa using hv0
     ·rename_i hb
      rw[hb] at hv0
      exact hv.trans hv0.symm
     ·exact hv.elim
   ·have h5:=hv m hm (fun k _=>hf k)
    have h6:=hv0 m hm (fun k _=>hf k)
    rw[h5] at h6
    simpa using h6
  refine istep_shift h1 ((hall v0 hv0) m hm (hfs v0)) fun u m' ⟨hl0,hk⟩=>⟨fun p hp=>?_,?_⟩
  ·have:=hl0 p (hlt p hp)
   rw[putO_comm v0 u h2] at this
   rw[ROp.ev_congr (agree_put fun t ht hm=>(hlp p hp t ht).1 hm)] at this
   rwa[ev_putO fun hd=>(hlp p hp p.2 hd).2 rfl] at this
  · -- the other one behind the write
   have hspec:(i.spec P (ks x) m' (pfacts avi noFacts) (a.putO j.dst u)).ok∧ ∀v,(i.spec P (ks x) m' (pfacts avi noFacts) (a.putO j.dst u)).S v→(i.spec P (ks x) m0 (pfacts avi fs) a).S v:=by
    rcases hp with hp|⟨r,d,hir,hmem,hself⟩
    ·have e2:i.spec P (ks x) m' (pfacts avi noFacts) (a.putO j.dst u)=i.spec P (ks x) m0 (pfacts avi fs) a:=by
      rw[CI.spec_congr (agree_put h3)]
      unfold CI.spec
      cases hop:i.op<;>rw[hop] at hp<;>simp only[COp.isP,Bool.false_eq_true] at hp
      rfl
     rw[e2]
     exact ⟨hok,fun v hv=>hv⟩
    ·subst hir
     -- it reads behind the write what it read ahead of it
     have hrd:r.ev (a.putO j.dst u) m'=some v0:=by
      have:=hl0 (r,d) hmem
      simp only at this
      rw[putO_comm v0 u h2] at this
      have hself: ∀t,(some d:Option Nat)=some t→t∉r.reads:=fun t ht=>by simp only[Option.some.injEq] at ht;exact ht▸hself
      rw[ROp.ev_congr (agree_put hself)] at this
      rw[this]
      have hlen:d<(a.putO j.dst u).length:=by rw[putO_length];exact hrz r d rfl
      generalize a.putO j.dst u=b at hlen
      simp[AFrame.putO,AFrame.ev,List.getD,hlen]
     have hm': ∀m2,m'<+:m2→pfacts avi noFacts m2→r.ev (a.putO j.dst u) m2=some v0:=fun m2 h12 _=>ROp.ev_mono h12 hrd
     refine ⟨⟨v0,hm'⟩,fun v hv=>?_⟩
     have h5:=hv m' (List.prefix_refl _) (fun _ _=>trivial)
     rw[hrd,Option.some.injEq] at h5
     exact h5▸hv0
   refine ⟨hspec.1,fun v hv=>?_⟩
   obtain rfl:=huniq v (hspec.2 v hv)
   rw[putO_comm v u h2] at hk
   have:upd noFacts x ((i.spec P (ks x) m' (pfacts avi noFacts) (a.putO j.dst u)).φ v)=noFacts:=by
    funext k
    unfold upd
    split
    ·rw[hφ];rfl
    ·rfl
   rw[this]
   exact hk
end
end Go.Proofs.YtodhalcpnmddjaaDoor.Ax
namespace Go.Proofs.YtodhalcpnmddjaaDoor.Ax
open Go
inductive TP (ops:Array Oper):Nat→Nat→Prop where
 |base {j:Nat} {o:Oper} {e:Edge}:ops[j]? =some o→e∈o.after→Region.binds .any e=true→TP ops j e.on
 |step {j i:Nat} {o:Oper} {e:Edge}:ops[j]? =some o→e∈o.after→Region.binds .any e=true→TP ops e.on i→TP ops j i
def tp (bf:Array Nat) (j i:Nat):Bool:=(bf.getD j 0).testBit i
theorem before_ok (ops:Array Oper): ∀j i,tp (Region.before ops) j i=true→TP ops j i:=by
 -- the table of the first k operations is right
 have key: ∀(l:List Oper) (acc:Array Nat) (k:Nat),acc.size=k→(∀n,l[n]? =ops[k+n]?)→(∀j i,tp acc j i=true→TP ops j i)→
   ∀j i,tp (l.foldl (fun acc o=>acc.push (o.after.foldl (fun s e=>if Region.binds .any e then s|||2^e.on|||acc.getD e.on 0 else s) 0)) acc) j i=true→TP ops j i:=by
  intro l
  induction l with
  |nil=>intro acc k _ _ h;exact h
  |cons o l ih=>
   intro acc k hk hl hacc
   rw[List.foldl_cons]
   refine ih _ (k+1) (by simp[hk]) (fun n=>by have:=hl (n+1);simpa[Nat.add_assoc,Nat.add_comm 1 n] using this) ?_
   intro j i hji
   have ho:ops[k]? =some o:=by have:=hl 0;simpa using this.symm
   have inner: ∀(es:List Edge) (s:Nat),(∀e∈es,e∈o.after)→(s.testBit i=true→TP ops k i)→(es.foldl (fun s e=>if Region.binds .any e then s|||2^e.on|||acc.getD e.on 0 else s) s).testBit i=true→TP ops k i:=by
    intro es
    induction es with
    |nil=>intro s _ hs h;exact hs h
    |cons e es ih2=>
     intro s he hs h
     rw[List.foldl_cons] at h
     refine ih2 _ (fun e' h'=>he e' (List.mem_cons_of_mem _ h')) ?_ h
     intro hb
     split at hb
     ·rename_i hbind
      rw[Nat.testBit_or,Nat.testBit_or,Bool.or_eq_true,Bool.or_eq_true] at hb
      rcases hb with (hb|hb)|hb
      ·exact hs hb
      ·rw[Nat.testBit_two_pow] at hb
       have:e.on=i:=by simpa using hb
       subst this
       exact TP.base ho (he e (List.mem_cons_self ..)) hbind
      ·exact TP.step ho (he e (List.mem_cons_self ..)) hbind (hacc e.on i hb)
     ·exact hs hb
   unfold tp at hji
   rw[Array.getD_eq_getD_getElem?,Array.getElem?_push] at hji
   split at hji
   ·rename_i hj
    rw[hk] at hj
    subst hj
    simp only[Option.getD_some] at hji
    rw[←Array.foldl_toList] at hji
    exact inner _ 0 (fun e he=>by simpa using he) (by simp) hji
   ·rw[←Array.getD_eq_getD_getElem?] at hji
    exact hacc j i hji
 intro j i h
 unfold Region.before at h
 rw[←Array.foldl_toList] at h
 exact key ops.toList #[] 0 rfl (by simp) (by intro j i h;simp[tp] at h) j i h
section
variable {cw:Bool} {P:Program} {ks:Nat→AVal→AMem→Prop} {ops:Array Oper} {is:List CI} {av late:Nat→List Nat} {Q:AFrame→AMem→Prop}
def fin (Q:AFrame→AMem→Prop) (a:AFrame) (fs:Facts) (m0:AMem):Prop:= ∀m,m0<+:m→(∀j,fs j m)→Q a m
def lateOf (is:List CI) (l:List Nat):List (ROp×Nat):=l.filterMap fun k=>match (is[k]? :Option CI) with
 |some ⟨some d,.R r,none⟩=>some (r,d)
 |_=>none
def SA (cw:Bool) (P:Program) (ks:Nat→AVal→AMem→Prop) (ops:Array Oper) (is:List CI) (av late:Nat→List Nat) (Q:AFrame→AMem→Prop):Nat→Array Bool→AFrame→Facts→AMem→Prop
 |0,listed,a,fs,m0=>Region.ready .any ops listed= []∧fin Q a fs m0
 |fuel+1,listed,a,fs,m0=>(Region.ready .any ops listed= []→fin Q a fs m0)∧
   ∀i∈Region.ready .any ops listed,∀c,is[i]? =some c→dstep cw P ks (lateOf is ((late i).filter fun k=>listed.getD k false)) i c (av i) (SA cw P ks ops is av late Q fuel (listed.setIfInBounds i true)) a fs m0
def LW (cw:Bool) (P:Program) (ks:Nat→AVal→AMem→Prop) (is:List CI) (av late:Nat→List Nat) (Q:AFrame→AMem→Prop):List Nat→AFrame→Facts→AMem→Prop
 | [],a,fs,m0=>fin Q a fs m0
 |i::r,a,fs,m0=>match is[i]? with
  |some c=>dstep cw P ks (lateOf is (late i)) i c (av i) (LW cw P ks is av late Q r) a fs m0
  |none=>False
def DownClosed (ops:Array Oper) (listed:Array Bool):Prop:= ∀(j:Nat) o e,ops[j]? =some o→listed.getD j false=true→e∈o.after→Region.binds .any e=true→listed.getD e.on false=true
theorem DownClosed.set {listed:Array Bool} (h:DownClosed ops listed) {i:Nat} (hi:i∈Region.ready .any ops listed):DownClosed ops (listed.setIfInBounds i true):=by
 intro j o e ho hj he hb
 obtain ⟨_,oi,hoi,hall⟩:=mem_ready.1 hi
 refine getD_set_true ?_
 by_cases hij:i=j
 ·subst hij
  rw[hoi] at ho
  simp only[Option.some.injEq] at ho
  subst ho
  exact hall e he hb
 ·rw[getD_set_ne false hij] at hj
  exact h j o e ho hj he hb
theorem DownClosed.tp {listed:Array Bool} (h:DownClosed ops listed) {j i:Nat} (ht:TP ops j i):listed.getD j false=true→listed.getD i false=true:=by
 induction ht with
 |base ho he hb=>exact fun hj=>h _ _ _ ho hj he hb
 |step ho he hb _ ih=>exact fun hj=>ih (h _ _ _ ho hj he hb)
theorem DownClosed.ready {listed:Array Bool} (h:DownClosed ops listed) {j i:Nat} (hj:j∈Region.ready .any ops listed) (ht:TP ops j i):listed.getD i false=true:=by
 obtain ⟨_,o,ho,hall⟩:=mem_ready.1 hj
 cases ht with
 |base ho' he hb=>rw[ho] at ho';simp only[Option.some.injEq] at ho';subst ho';exact hall _ he hb
 |step ho' he hb ht=>rw[ho] at ho';simp only[Option.some.injEq] at ho';subst ho';exact h.tp ht (hall _ he hb)
theorem unlisted {listed:Array Bool} {i:Nat} (h:listed.getD i true=false):listed.getD i false=false:=by
 rcases Nat.lt_or_ge i listed.size with hl|hl
 ·simp[hl] at h ⊢;exact h
 ·simp[Array.getElem?_eq_none hl] at h
def FreeOf (ops:Array Oper) (cw:Bool) (is:List CI) (av late:Nat→List Nat) (i j:Nat) (ci cj:CI):Prop:=ci.apart cj=true∧i∉av j∧j∉av i∧ci.op.isW cw=false∧
 (cj.op.isW cw=true→(ci.op.isP=true∨ ∃r d,ci=⟨some d,.R r,none⟩∧i∈late j∧d∉r.reads)∧ ∀k∈late j,k≠i→ ¬TP ops k i→ ∀r e,is[k]? =some ⟨some e,.R r,none⟩→ ∀d,ci.dst=some d→d∉r.reads∧d≠e)
theorem mem_lateOf {is:List CI} {l:List Nat} {p:ROp×Nat}:p∈lateOf is l↔ ∃k∈l,is[k]? =some ⟨some p.2,.R p.1,none⟩:=by
 unfold lateOf
 rw[List.mem_filterMap]
 constructor
 ·rintro ⟨k,hk,h⟩
  split at h
  ·rename_i d r he
   simp only[Option.some.injEq] at h
   subst h
   exact ⟨k,hk,he⟩
  ·simp at h
 ·rintro ⟨k,hk,h⟩
  exact ⟨k,hk,by rw[h]⟩
theorem SA_first {i:Nat} {ci:CI} (hi:is[i]? =some ci): ∀(fuel:Nat) (listed:Array Bool) (a:AFrame) (fs:Facts) (m0:AMem),DownClosed ops listed→i∈Region.ready .any ops listed→
  (∀c∈is,∀d,c.dst=some d→d<a.length)→
  (∀j cj,is[j]? =some cj→j≠i→listed.getD j true=false→TP ops j i∨FreeOf ops cw is av late i j ci cj)→
  dstep cw P ks (lateOf is ((late i).filter fun k=>listed.getD k false)) i ci (av i) (SA cw P ks ops is av late Q fuel (listed.setIfInBounds i true)) a fs m0→SA cw P ks ops is av late Q (fuel+1) listed a fs m0:=by
 intro fuel
 induction fuel with
 |zero=>
  intro listed a fs m0 hd hr _ hfree H
  refine ⟨fun h=>(by rw[h] at hr;cases hr),fun j hj cj hcj=>?_⟩
  by_cases hji:j=i
  ·subst hji
   rw[hi] at hcj
   simp only[Option.some.injEq] at hcj
   subst hcj
   exact H
  ·rcases hfree j cj hcj hji (mem_ready.1 hj).1 with ht|hf
   ·have h1:=hd.ready hj ht
    have h2:=unlisted (mem_ready.1 hr).1
    rw[h1] at h2
    cases h2
   ·exfalso
    have hj2:=ready_mono hj hji
    unfold dstep at H
    rw[if_neg (by simp[hf.2.2.2.1])] at H
    obtain ⟨v,hv⟩:=spec_nonempty H.1
    have:=(H.2 v hv).1
    rw[this] at hj2
    cases hj2
 |succ fuel ih=>
  intro listed a fs m0 hd hr hlen hfree H
  have hd0:=hd
  refine ⟨fun h=>(by rw[h] at hr;cases hr),fun j hj cj hcj=>?_⟩
  by_cases hji:j=i
  ·subst hji
   rw[hi] at hcj
   simp only[Option.some.injEq] at hcj
   subst hcj
   exact H
  ·rcases hfree j cj hcj hji (mem_ready.1 hj).1 with ht|hf
   ·have h1:=hd.ready hj ht
    have h2:=unlisted (mem_ready.1 hr).1
    rw[h1] at h2
    cases h2
   ·obtain ⟨f1,f2,f3,f4,f5⟩:=hf
    have hil:i<listed.size:=by
     have:=(mem_ready.1 hr).1
     rcases Nat.lt_or_ge i listed.size with h|h
     ·exact h
     ·simp[Array.getElem?_eq_none h] at this
    have H2:dstep cw P ks (lateOf is ((late i).filter fun k=>listed.getD k false)) i ci (av i) (dstep cw P ks (lateOf is ((late j).filter fun k=>(listed.setIfInBounds i true).getD k false)) j cj (av j) (SA cw P ks ops is av late Q fuel ((listed.setIfInBounds i true).setIfInBounds j true))) a fs m0:=
     dstep_mono (fun a fs m0 _ h=>h.2 j (ready_mono hj hji) cj hcj) H
    have hunl:=unlisted (mem_ready.1 hr).1
    have hlt: ∀p∈lateOf is ((late j).filter fun k=>listed.getD k false),p∈lateOf is ((late j).filter fun k=>(listed.setIfInBounds i true).getD k false):=fun p hp=>by
     rw[mem_lateOf] at hp ⊢
     obtain ⟨k,hk,he⟩:=hp
     rw[List.mem_filter] at hk
     exact ⟨k,List.mem_filter.2 ⟨hk.1,getD_set_true hk.2⟩,he⟩
    have hsw:=swap (Ne.symm hji) f1 f2 f3 f4 hlt (fun hw=>by
     obtain ⟨g1,g2⟩:=f5 hw
     constructor
     ·rcases g1 with g1|⟨r,d,e1,e2,e3⟩
      ·exact .inl g1
      ·refine .inr ⟨r,d,e1,?_,e3⟩
       rw[mem_lateOf]
       exact ⟨i,List.mem_filter.2 ⟨e2,by simp[hil]⟩,by rw[hi,e1]⟩
     ·intro p hp d hd
      rw[mem_lateOf] at hp
      obtain ⟨k,hk,he⟩:=hp
      rw[List.mem_filter] at hk
      refine g2 k hk.1 (fun e=>?_) (fun ht=>?_) p.1 p.2 he d hd
      ·rw[e,hunl] at hk
       exact absurd hk.2 (by simp)
      ·have:=hd0.tp ht hk.2
       rw[hunl] at this
       exact absurd this (by simp)) H2 (fun r d e=>hlen ci (List.mem_of_getElem? hi) d (by rw[e]))
    refine dstep_mono (fun a' fs m0 hla h=>?_) hsw
    refine ih _ a' fs m0 (hd.set hj) (ready_mono hr (Ne.symm hji)) (fun c hc d hd=>by rw[hla];exact hlen c hc d hd) (fun k ck hk hki hun=>hfree k ck hk hki ?_) ?_
    ·by_cases hjk:j=k
     ·subst hjk;exact (mem_ready.1 hj).1
     ·rw[getD_set_ne true hjk] at hun;exact hun
    · -- what is late of i does not matter:i does not write
     rw[Array.setIfInBounds_comm _ _ hji]
     unfold dstep at h ⊢
     rw[if_neg (by simp[f4])] at h ⊢
     exact h
def checkFree (wk:Bool) (bf:Array Nat) (cw:Bool) (is:List CI) (av late:Nat→List Nat) (i j:Nat) (ci cj:CI):Bool:=
 ci.apart cj&& !(av j).contains i&& !(av i).contains j&& !ci.op.isW cw&&(!cj.op.isW cw||
  ((ci.op.isP||(match ci with|⟨some d,.R r,none⟩=>(late j).contains i&& !r.reads.contains d|_=>false))&&
   (late j).all fun k=>k==i||(wk&&tp bf k i)||match (is[k]? :Option CI),ci.dst with
    |some ⟨some e,.R r,none⟩,some d=> !r.reads.contains d&&d !=e
    |_,_=>true))
theorem checkFree_ok {i j:Nat} {ci cj:CI} {wk:Bool} (h:checkFree wk (Region.before ops) cw is av late i j ci cj=true):FreeOf ops cw is av late i j ci cj:=by
 simp only[checkFree,Bool.and_eq_true,Bool.not_eq_true',Bool.or_eq_true] at h
 obtain ⟨⟨⟨⟨k1,k2⟩,k3⟩,k4⟩,k5⟩:=h
 refine ⟨k1,by simpa using k2,by simpa using k3,k4,fun hw=>?_⟩
 rcases k5 with k5|⟨k5,k6⟩
 ·rw[hw] at k5;cases k5
 ·refine ⟨k5.imp id fun h=>?_,fun k hk hki hnt r e he d hd=>?_⟩
  ·split at h
   ·rename_i d r
    simp only[Bool.and_eq_true,Bool.not_eq_true'] at h
    exact ⟨r,d,rfl,by simpa using h.1,by simpa using h.2⟩
   ·cases h
  ·have:=List.all_eq_true.1 k6 k hk
   simp only[Bool.or_eq_true,beq_iff_eq,hki,false_or,he,hd,Bool.and_eq_true,Bool.not_eq_true',bne_iff_ne,ne_eq] at this
   replace this:=this.resolve_left fun h=>hnt (before_ok ops k i h.2)
   exact ⟨by simpa using this.1,this.2⟩
def checkPi (wk cw:Bool) (ops:Array Oper) (bf:Array Nat) (is:List CI) (av late:Nat→List Nat):List Nat→Array Bool→Bool
 | [],listed=>(Region.ready .any ops listed).isEmpty
 |i::r,listed=>(Region.ready .any ops listed).contains i&&(late i).all (fun k=>listed.getD k false)&&(match is[i]? with
   |none=>false
   |some ci=>(List.range ops.size).all fun j=>j==i||listed.getD j true||tp bf j i||(match is[j]? with
    |none=>false
    |some cj=>checkFree wk bf cw is av late i j ci cj))&&checkPi wk cw ops bf is av late r (listed.setIfInBounds i true)
theorem SA_of_LW {wk:Bool} (hlen:is.length=ops.size): ∀(π:List Nat) (listed:Array Bool) (a:AFrame) (fs:Facts) (m0:AMem),DownClosed ops listed→(∀c∈is,∀d,c.dst=some d→d<a.length)→checkPi wk cw ops (Region.before ops) is av late π listed=true→LW cw P ks is av late Q π a fs m0→SA cw P ks ops is av late Q π.length listed a fs m0
 | [],listed,a,fs,m0,_,_,hc,h=>by
  simp only[checkPi,List.isEmpty_iff] at hc
  exact ⟨hc,h⟩
 |i::r,listed,a,fs,m0,hd,hla,hc,h=>by
  simp only[checkPi,Bool.and_eq_true] at hc
  obtain ⟨⟨⟨hr,hlate⟩,hf⟩,hc⟩:=hc
  have hr:i∈Region.ready .any ops listed:=by simpa using hr
  simp only[LW] at h
  cases hi:is[i]? with
  |none=>rw[hi] at h;exact h.elim
  |some ci=>
   rw[hi] at h hf
   simp only at h hf
   have hfl:(late i).filter (fun k=>listed.getD k false)=late i:=List.filter_eq_self.2 fun k hk=>List.all_eq_true.1 hlate k hk
   refine SA_first hi r.length listed a fs m0 hd hr hla (fun j cj hj hji hun=>?_) (by
    rw[hfl]
    exact dstep_mono (fun a' fs m0 hl h=>SA_of_LW hlen r _ a' fs m0 (hd.set hr) (fun c hc d hd=>by rw[hl];exact hla c hc d hd) hc h) h)
   have hjl:j<ops.size:=by rw[←hlen];exact (List.getElem?_eq_some_iff.1 hj).1
   have:=List.all_eq_true.1 hf j (by simpa using hjl)
   simp only[hj,Bool.or_eq_true,beq_iff_eq,hji,false_or,hun,Bool.false_eq_true] at this
   rcases this with h1|h1
   ·exact .inl (before_ok ops j i h1)
   ·exact .inr (checkFree_ok h1)
def Stable (fs:Facts):Prop:= ∀j m m',m<+:m'→fs j m→fs j m'
theorem dstep_step {lt:List (ROp×Nat)} {idx:Nat} {i:CI} {K:AFrame→Facts→AMem→Prop} {a:AFrame} {fs:Facts} {m0 m:AMem} {avi:List Nat} (h:dstep cw P ks lt idx i avi K a fs m0) (hm:m0<+:m) (hf: ∀j,fs j m) (hst:Stable fs) (hres:m0≠ []→m.length%4096=i.dst.getD 0%4096):
  i.step P (fun a' m'=> ∃fs' m0',K a' fs' m0'∧m0'<+:m'∧(∀j,fs' j m')∧Stable fs') a m:=by
 have hno:Stable noFacts:=fun _ _ _ _ _=>trivial
 unfold dstep at h
 split at h
 ·exact istep_mono (h m hm hf) fun a' m' hk=>⟨noFacts,_,hk.2,List.prefix_refl _,fun _=>trivial,hno⟩
 ·rename_i hw
  obtain ⟨hok,hall⟩:=h
  have hupd: ∀(φ:AMem→Prop) (m':AMem),m<+:m'→φ m'→(∀m1 m2,m1<+:m2→φ m1→φ m2)→(∀j,upd fs idx φ j m')∧Stable (upd fs idx φ):=by
   intro φ m' hmm hφ hs
   refine ⟨fun j=>?_,fun j m1 m2 h12 hj=>?_⟩
   ·unfold upd
    split
    ·exact hφ
    ·exact hst j m m' hmm (hf j)
   ·unfold upd at hj ⊢
    split
    ·rename_i he;rw[if_pos he] at hj;exact hs m1 m2 h12 hj
    ·rename_i he;rw[if_neg he] at hj;exact hst j m1 m2 h12 hj
  have core: ∀c:COp,c.isW cw=false→ ∀(L:AVal→Prop),(c.spec P (ks idx) m0 (pfacts avi fs) a (i.dst.getD 0)).ok→(∀x,(c.spec P (ks idx) m0 (pfacts avi fs) a (i.dst.getD 0)).S x→K (a.putO i.dst x) (upd fs idx ((c.spec P (ks idx) m0 (pfacts avi fs) a (i.dst.getD 0)).φ x)) m0)→
    c.step P (fun x m'=> ∃fs' m0',K (a.putO i.dst x) fs' m0'∧m0'<+:m'∧(∀j,fs' j m')∧Stable fs') a m:=by
   intro c hcw _ hok hall
   cases c with
   |P p=>
    obtain ⟨x,hx⟩:=hok
    simp only[COp.step,hx]
    obtain ⟨k1,k2⟩:=hupd (fun _=>True) m (List.prefix_refl _) trivial (fun _ _ _ _=>trivial)
    exact ⟨_,_,hall x hx,hm,k1,k2⟩
   |R r=>
    obtain ⟨x,hx⟩:=hok
    have h1:=hx m hm (fun j _=>hf j)
    simp only[COp.step,h1]
    obtain ⟨k1,k2⟩:=hupd (fun _=>True) m (List.prefix_refl _) trivial (fun _ _ _ _=>trivial)
    exact ⟨_,_,hall x hx,hm,k1,k2⟩
   |A x=>
    obtain ⟨⟨cs,ty,mk⟩,hx⟩:=hok
    simp only[COp.step,hx]
    obtain ⟨k1,k2⟩:=hupd ((COp.spec P (ks idx) m0 (pfacts avi fs) a (i.dst.getD 0) (.A x)).φ (mk m.length)) (m++ [.own cs ty none]) (List.prefix_append _ _) ⟨(cs,ty,mk),m.length,hx,rfl,by simp⟩ (fun m1 m2 h12 ⟨c,b,e1,e2,e3⟩=>⟨c,b,e1,e2,prefix_get h12 e3⟩)
    exact ⟨_,_,hall (mk m.length) ⟨(cs,ty,mk),m.length,hx,hm.length_le,hres,rfl⟩,hm.trans (List.prefix_append _ _),k1,k2⟩
   |W x=>simp[COp.isW] at hcw
   |C f xs=>
    obtain ⟨⟨g,fs',cs,hg,hcall⟩,_,hstab⟩:=hok
    simp only[COp.step,hg]
    refine (hcall m hm (fun j _=>hf j)).mono fun v m' ⟨h1,h2⟩=>?_
    obtain ⟨k1,k2⟩:=hupd (ks idx v) m' h1 h2 (fun m1 m2=>hstab v m1 m2)
    exact ⟨_,_,hall v ⟨m',hm.trans h1,h2⟩,hm.trans h1,k1,k2⟩
  unfold CI.spec at hok hall
  unfold CI.step
  cases hg:i.guard with
  |none=>
   rw[hg] at hok hall
   simp only at hok hall ⊢
   exact core i.op (by simpa using hw) (fun _=>True) hok hall
  |some tw=>
   rw[hg] at hok hall
   simp only at hok hall ⊢
   cases hb:gOf (a.ev (.t tw.1)) tw.2 with
   |none=>rw[hb] at hok;exact hok
   |some b=>
    rw[hb] at hok hall
    cases b with
    |true=>exact core i.op (by simpa using hw) (fun _=>True) hok hall
    |false=>
     simp only at hok hall
     obtain ⟨k1,k2⟩:=hupd (fun _=>True) m (List.prefix_refl _) trivial (fun _ _ _ _=>trivial)
     exact ⟨_,_,hall _ rfl,hm,k1,k2⟩
theorem cInstrs_get: ∀{l:List Oper} {is:List CI},cInstrs P ops l=some is→is.length=l.length∧ ∀(i:Nat) o c,l[i]? =some o→is[i]? =some c→cInstr P ops o=some c
 | [],is,h=>by simp only[cInstrs,Option.some.injEq] at h;subst h;simp
 |o::l,is,h=>by
  simp only[cInstrs] at h
  split at h
  ·rename_i c is' hc his
   simp only[Option.some.injEq] at h
   subst h
   obtain ⟨h1,h2⟩:=cInstrs_get his
   refine ⟨by simp[h1],fun i o' c' ho hc'=>?_⟩
   cases i with
   |zero=>simp only[List.getElem?_cons_zero,Option.some.injEq] at ho hc';subst ho hc';exact hc
   |succ i=>exact h2 i o' c' (by simpa using ho) (by simpa using hc')
  ·simp at h
theorem Sim.pad1 {ρ:List RB} {m:AMem} {w:World} (h:Sim ρ m w) (hne:m≠ []): ∃ρ',Sim ρ' (m++ [.dead]) w∧Evol ρ m w ρ' (m++ [.dead]) w:=by
 have hl:0<ρ.length:=by rw[h.len];exact List.length_pos_iff.2 hne
 have h0:ρ[0]? =some ρ[0]:=List.getElem?_eq_getElem hl
 have hp:ρ<+:ρ++ [ρ[0]]:=List.prefix_append _ _
 have hsplit: ∀(b:Nat) blk a,(m++ [ABlk.dead])[b]? =some blk→(ρ++ [ρ[0]])[b]? =some a→(m[b]? =some blk∧ρ[b]? =some a)∨blk= .dead:=by
  intro b blk a hb ha
  rcases Nat.lt_or_ge b m.length with hlt|hge
  ·rw[List.getElem?_append_left hlt] at hb
   rw[List.getElem?_append_left (by rw[h.len];exact hlt)] at ha
   exact .inl ⟨hb,ha⟩
  ·rw[List.getElem?_append_right hge] at hb
   cases hk:b-m.length with
   |zero=>rw[hk] at hb;simp only[List.getElem?_cons_zero,Option.some.injEq] at hb;exact .inr hb.symm
   |succ k=>rw[hk] at hb;simp at hb
 refine ⟨ρ++ [ρ[0]],⟨by simp[h.len],?_,?_,?_⟩,⟨hp,rfl,rfl,rfl,Nat.le_refl _,fun r _ _=>rfl,?_⟩⟩
 ·intro b blk a hb ha
  rcases hsplit b blk a hb ha with ⟨hb,ha⟩|rfl
  ·exact (h.ok b blk a hb ha).mono hp
  ·trivial
 ·intro b b' blk blk' a a' hne hb hb' ha ha' ho hlv
  rcases hsplit b blk a hb ha with ⟨hb,ha⟩|rfl
  ·rcases hsplit b' blk' a' hb' ha' with ⟨hb',ha'⟩|rfl
   ·exact h.sep b b' blk blk' a a' hne hb hb' ha ha' ho hlv
   ·cases hlv
  ·cases ho
 ·intro b a ha
  rcases Nat.lt_or_ge b ρ.length with hlt|hge
  ·rw[List.getElem?_append_left hlt] at ha
   exact h.bound b a ha
  ·rw[List.getElem?_append_right hge] at ha
   cases hk:b-ρ.length with
   |zero=>rw[hk] at ha;simp only[List.getElem?_cons_zero,Option.some.injEq] at ha;subst ha;exact h.bound 0 _ h0
   |succ k=>rw[hk] at ha;simp at ha
 ·rintro r ⟨b,blk,a,hb,ho,ha,rfl⟩
  rcases hsplit b blk a hb ha with ⟨hb,ha⟩|rfl
  ·exact .inr ⟨b,blk,a,hb,ho,ha,rfl⟩
  ·cases ho
theorem Sim.pad {w:World}: ∀(k:Nat) {ρ:List RB} {m:AMem},Sim ρ m w→m≠ []→ ∃ρ' m',Sim ρ' m' w∧Evol ρ m w ρ' m' w∧m<+:m'∧m'.length=m.length+k
 |0,ρ,m,h,_=>⟨ρ,m,h,Evol.refl _ _ _,List.prefix_refl _,rfl⟩
 |k+1,ρ,m,h,hne=>by
  obtain ⟨ρ1,h1,h2⟩:=Sim.pad1 h hne
  obtain ⟨ρ2,m2,h3,h4,h5,h6⟩:=Sim.pad k h1 (by simp)
  exact ⟨ρ2,m2,h3,h2.trans h4,(List.prefix_append _ _).trans h5,by rw[h6];simp;omega⟩
theorem wpAny_of_SA {n:Nat} (rd:Option Nat) {Q':Exit→Act→World→Prop} (his:cInstrs P ops ops.toList=some is): ∀(fuel:Nat) (listed:Array Bool) (a:AFrame) (fs:Facts) (m0:AMem),SA cw P ks ops is av late Q fuel listed a fs m0→
  ∀{ρ:List RB} {act:Act} {m:AMem} {w:World},m0<+:m→(∀j,fs j m)→Stable fs→FR ρ a act.tmps→Sim ρ m w→Glob ρ m w→
  (∀a' act' m' w' ρ',Q a' m'→FR ρ' a' act'.tmps→act'.defers=act.defers→Sim ρ' m' w'→Evol ρ m w ρ' m' w'→Q' .normal act' w')→wpAnyIn (rdF rd) n P .any ops Q' fuel listed act w
 |0,listed,a,fs,m0,h,ρ,act,m,w,hm,hf,hst,hfr,hs,hgl,hk=>⟨h.1,hk a act m w ρ (h.2 m hm hf) hfr rfl hs (Evol.refl _ _ _)⟩
 |fuel+1,listed,a,fs,m0,h,ρ,act,m,w,hm,hf,hst,hfr,hs,hgl,hk=>by
  refine ⟨fun hr=>hk a act m w ρ (h.1 hr m hm hf) hfr rfl hs (Evol.refl _ _ _),fun i hi=>?_⟩
  obtain ⟨_,o,ho,_⟩:=mem_ready.1 hi
  obtain ⟨hl,hget⟩:=cInstrs_get his
  have hil:i<is.length:=by rw[hl,Array.length_toList];exact (Array.getElem?_eq_some_iff.1 ho).1
  have hci:=hget i o is[i] (by simpa using ho) (List.getElem?_eq_getElem hil)
  have hd:=h.2 i hi is[i] (List.getElem?_eq_getElem hil)
  obtain ⟨ρ0,m0',hs0,hev0,hpre0,hres0⟩: ∃ρ0 m0',Sim ρ0 m0' w∧Evol ρ m w ρ0 m0' w∧m<+:m0'∧(m0≠ []→m0'.length%4096=is[i].dst.getD 0%4096):=by
   by_cases hne:m0= []
   ·exact ⟨ρ,m,hs,Evol.refl _ _ _,List.prefix_refl _,fun h=>absurd hne h⟩
   ·have hmne:m≠ []:=fun h=>by
     subst h
     exact hne (List.prefix_nil.1 hm)
    obtain ⟨ρ0,m0',h1,h2,h3,h4⟩:=Sim.pad (4096-m.length%4096+is[i].dst.getD 0) hs hmne
    exact ⟨ρ0,m0',h1,h2,h3,fun _=>by rw[h4];omega⟩
  have hstep:=dstep_step hd (hm.trans hpre0) (fun j=>hst j m m0' hpre0 (hf j)) hst hres0
  unfold wpOpIn
  rw[ho]
  simp only
  have:=instr_ok rd (n:=n) (Q:=Q') (K':=wpAnyIn (rdF rd) n P .any ops Q' fuel (listed.setIfInBounds i true)) hci (hfr.mono hev0.pre) hs0 (hgl.evol hev0) hstep (fun a' act' m' w' ρ' ⟨fs',m0',k1,k2,k3,k4⟩ h2 h3 h4 h5=>
   wpAny_of_SA rd his fuel _ a' fs' m0' k1 k2 k3 k4 h2 h4 ((hgl.evol hev0).evol h5) fun a2 act2 m2 w2 ρ2 q1 q2 q3 q4 q5=>hk a2 act2 m2 w2 ρ2 q1 q2 (q3.trans h3) q4 (hev0.trans (h5.trans q5)))
  split
  ·rename_i hw;rw[if_pos hw] at this;exact this
  ·rename_i hw;rw[if_neg hw] at this;exact this
end
end Go.Proofs.YtodhalcpnmddjaaDoor.Ax
