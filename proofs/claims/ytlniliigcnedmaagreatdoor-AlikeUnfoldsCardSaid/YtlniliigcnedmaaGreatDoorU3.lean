/- Layer 10's laws.  Conditions: none beyond those stated. -/
import Derived.Test.YtlniliigcnedmaaGreatDoorU2
import Derived.KernelRfl
import Derived.Test.YtlniliigcnedmaaGreatDoorProg
set_option linter.unusedSimpArgs false
set_option linter.unusedVariables false
namespace Go.Proofs.YtlniliigcnedmaaGreatDoor.Ax
open Go
inductive Tag {α:Type} (k:α):Type where
 |mk
@[simp] theorem ev_c (a:AFrame) (x:AVal):a.ev (.c x)=x:=rfl
@[simp] theorem putO_none (a:AFrame) (x:AVal):a.putO none x=a:=rfl
@[simp] theorem mat_length (nt:Nat) (sf:List (Nat×AVal)):(mat nt sf).length=nt:=by simp[mat]
theorem mat_getD (nt:Nat) (sf:List (Nat×AVal)) (n:Nat):(mat nt sf).getD n .undef=if n<nt then sget sf n else .undef:=by
 unfold mat
 by_cases h:n<nt<;>simp[h]
@[simp] theorem ev_mat (nt:Nat) (sf:List (Nat×AVal)) (n:Nat):(mat nt sf).ev (.t n)=if n<nt then sget sf n else .undef:=mat_getD nt sf n
@[simp] theorem putO_mat (nt:Nat) (sf:List (Nat×AVal)) (d:Nat) (x:AVal):(mat nt sf).putO (some d) x=mat nt ((d,x)::sf):=by
 show (mat nt sf).set d x=_
 refine List.ext_getElem? fun i=>?_
 rw[List.getElem?_set]
 unfold mat
 by_cases hi:i<nt
 ·by_cases hd:d=i
  ·subst hd;simp[hi,sget]
  ·simp[hi,hd,sget]
 ·by_cases hd:d=i
  ·subst hd;simp[hi]
  ·simp[hi,hd]
@[simp] theorem forget_mat (nt:Nat) (sf:List (Nat×AVal)) (l:List Nat):(mat nt sf).forget l=mat nt (l.map fun n=>(n,if n<nt then sget sf n else .undef)):=by
 unfold AFrame.forget
 simp only[mat_length,mat_getD]
attribute [simp] sget
def sArgs:Nat→List AVal→List (Nat×AVal)
 |_,[]=> []
 |i,x::xs=>(i,x)::sArgs (i+1) xs
attribute [simp] sArgs
theorem sget_sArgs: ∀(xs:List AVal) (i n:Nat),sget (sArgs i xs) n=if i≤n then (xs[n-i]?).getD .undef else .undef
 | [],i,n=>by simp[sArgs,sget]
 |x::xs,i,n=>by
  simp only[sArgs,sget]
  by_cases h:i=n
  ·subst h;simp
  ·rw[if_neg h,sget_sArgs xs (i+1) n]
   by_cases h1:i+1≤n
   ·rw[if_pos h1,if_pos (by omega)]
    obtain ⟨k,rfl⟩: ∃k,n=i+1+k:=⟨n-(i+1),by omega⟩
    rw[show i+1+k-i=k+1 by omega,show i+1+k-(i+1)=k by omega]
    simp
   ·rw[if_neg h1,if_neg (by omega)]
theorem mat_args (nt:Nat) (args:List AVal) (h:args.length≤nt):args++List.replicate (nt-args.length) .undef=mat nt (sArgs 0 args):=by
 refine List.ext_getElem? fun i=>?_
 unfold mat
 by_cases hi:i<nt
 ·rw[List.getElem?_map,List.getElem?_range hi,Option.map_some,sget_sArgs,if_pos (Nat.zero_le _),Nat.sub_zero]
  by_cases ha:i<args.length
  ·rw[List.getElem?_append_left ha,List.getElem?_eq_getElem ha];rfl
  ·rw[List.getElem?_append_right (by omega),List.getElem?_replicate,if_pos (by omega),List.getElem?_eq_none (by omega)];rfl
 ·rw[List.getElem?_eq_none (by simp;omega),List.getElem?_eq_none (by simp;omega)]
structure Hid (p:Prop):Prop where
 mk::
 out:p
theorem Hid.eq (p:Prop):Hid p=p:=propext ⟨Hid.out,Hid.mk⟩
def W (P:Program) (c:CC) (Q:AEx→AFrame→AMem→Prop) (_:Tag (c,Q)) (a:AFrame) (m:AMem):Prop:=Hid (c.wp P Q a m)
def L (P:Program) (K:AFrame→AMem→Prop) (is:List CI) (_:Tag (K,is)) (a:AFrame) (m:AMem):Prop:=Hid (CI.list P K is a m)
def S (P:Program) (K:AVal→AMem→Prop) (o:COp) (_:Tag (K,o)) (a:AFrame) (m:AMem):Prop:=Hid (o.step P K a m)
def obind {α:Type} (k:α→Prop) (_:Tag k) (o:Option α):Prop:=Hid (match o with|some x=>k x|none=>False)
def bbind (X Y:Prop) (_:Tag (X,Y)) (v:AVal):Prop:=Hid (match v with| .bool b=>(b=true→X)∧(b=false→Y)|_=>False)
def gbind (w:Bool) (X Y:Prop) (_:Tag (X,Y)) (v:AVal):Prop:=Hid (match gOf v w with|some true=>X|some false=>Y|none=>False)
def sel (g:Bool) (x:AVal):AVal:=if g then x else .tuple []
def gP (k:AVal→Prop) (_:Tag k) (w:Bool) (v:AVal) (o:Option AVal):Prop:=Hid (match gOf v w with|some true=>obind k .mk o|some false=>k (.tuple [])|none=>False)
def fbind (P:Program) (K:AVal→AMem→Prop) (_:Tag K) (v:AVal) (xs:List AVal) (m:AMem):Prop:=Hid (match v with| .func (.func g) fs cs=>ACalls P g (fs++xs++cs) m K|_=>False)
def C (P:Program) (K:AVal→AMem→Prop) (_:Tag K) (g:FuncId) (xs:List AVal) (m:AMem):Prop:=Hid (ACalls P g xs m K)
@[simp] theorem obind_some {α:Type} (x:α) (k:α→Prop) (t:Tag k):obind k t (some x)=k x:=Hid.eq _
@[simp] theorem bbind_true {X Y:Prop} (t:Tag (X,Y)):bbind X Y t (.bool true)=X:=by simp[bbind,Hid.eq]
@[simp] theorem bbind_false {X Y:Prop} (t:Tag (X,Y)):bbind X Y t (.bool false)=Y:=by simp[bbind,Hid.eq]
theorem bbind_intro {b:Bool} {X Y:Prop} {t:Tag (X,Y)} (hx:b=true→X) (hy:b=false→Y):bbind X Y t (.bool b):=⟨⟨hx,hy⟩⟩
theorem bbind_dec {p:Prop} [Decidable p] {X Y:Prop} {t:Tag (X,Y)} (hx:p→X) (hy: ¬p→Y):bbind X Y t (.bool (decide p)):=⟨⟨fun h=>hx (by simpa using h),fun h=>hy (by simpa using h)⟩⟩
@[simp] theorem sel_true (x:AVal):sel true x=x:=rfl
@[simp] theorem sel_false (x:AVal):sel false x= .tuple []:=rfl
@[simp] theorem sel_sel (g h:Bool) (x:AVal):sel g (sel h x)=sel (g&&h) x:=by cases g<;>cases h<;>rfl
@[simp] theorem gbind_tt {X Y:Prop} (t:Tag (X,Y)):gbind true X Y t (.bool true)=X:=Hid.eq _
@[simp] theorem gbind_ft {X Y:Prop} (t:Tag (X,Y)):gbind true X Y t (.bool false)=Y:=Hid.eq _
@[simp] theorem gbind_tf {X Y:Prop} (t:Tag (X,Y)):gbind false X Y t (.bool true)=Y:=Hid.eq _
@[simp] theorem gbind_ff {X Y:Prop} (t:Tag (X,Y)):gbind false X Y t (.bool false)=X:=Hid.eq _
@[simp] theorem gbind_no {w:Bool} {X Y:Prop} (t:Tag (X,Y)):gbind w X Y t (.tuple [])=Y:=Hid.eq _
@[simp] theorem gP_bool {k:AVal→Prop} (t:Tag k) (w b:Bool) (x:AVal):gP k t w (.bool b) (some x)=k (sel (b==w) x):=by
 cases b<;>cases w<;>simp[gP,gOf,Hid.eq]
@[simp] theorem gP_no {k:AVal→Prop} (t:Tag k) (w:Bool) (o:Option AVal):gP k t w (.tuple []) o=k (.tuple []):=Hid.eq _
@[simp] theorem gP_tt {k:AVal→Prop} (t:Tag k) (o:Option AVal):gP k t true (.bool true) o=obind k .mk o:=Hid.eq _
@[simp] theorem gP_ff {k:AVal→Prop} (t:Tag k) (o:Option AVal):gP k t false (.bool false) o=obind k .mk o:=Hid.eq _
@[simp] theorem gP_tf {k:AVal→Prop} (t:Tag k) (o:Option AVal):gP k t true (.bool false) o=k (.tuple []):=Hid.eq _
@[simp] theorem gP_ft {k:AVal→Prop} (t:Tag k) (o:Option AVal):gP k t false (.bool true) o=k (.tuple []):=Hid.eq _
@[simp] theorem gP_sel {k:AVal→Prop} (t:Tag k) (w g b:Bool) (x:AVal):gP k t w (sel g (.bool b)) (some x)=k (sel (g&&(b==w)) x):=by
 cases g
 ·simp[gP,gOf,Hid.eq]
 ·exact gP_bool t w b x
@[simp] theorem gOf_bool (w b:Bool):gOf (.bool b) w=some (b==w):=rfl
@[simp] theorem gOf_no (w:Bool):gOf (.tuple []) w=some false:=rfl
@[simp] theorem gOf_sel (w g b:Bool):gOf (sel g (.bool b)) w=some (g&&(b==w)):=by cases g<;>rfl
def pickE (c x y:AVal):Option AVal:=match c with| .bool b=>some (if b then x else y)|_=>none
theorem pickE_true (x y:AVal):pickE (.bool true) x y=some x:=rfl
theorem pickE_false (x y:AVal):pickE (.bool false) x y=some y:=rfl
theorem pickE_and {b g:Bool} {y:Bool} (h:b=true→g=true):pickE (.bool b) (sel g (.bool y)) (.bool false)=some (.bool (b&&y)):=by
 cases b
 ·rfl
 ·rw[h rfl];rfl
theorem pickE_or {b g:Bool} {y:Bool} (h:b=false→g=true):pickE (.bool b) (.bool true) (sel g (.bool y))=some (.bool (b||y)):=by
 cases b
 ·rw[h rfl];rfl
 ·rfl
theorem pickE_and' {b y:Bool}:pickE (.bool b) (.bool y) (.bool false)=some (.bool (b&&y)):=by cases b<;>rfl
theorem pickE_or' {b y:Bool}:pickE (.bool b) (.bool true) (.bool y)=some (.bool (b||y)):=by cases b<;>rfl
attribute [simp] pickE_true pickE_false pickE_and pickE_or pickE_and' pickE_or'
@[simp] theorem fbind_func {P:Program} {g:FuncId} {fs cs xs:List AVal} {m:AMem} {K:AVal→AMem→Prop} (t:Tag K):fbind P K t (.func (.func g) fs cs) xs m=C P K .mk g (fs++xs++cs) m:=_root_.id rfl
theorem C_of {P:Program} {K:AVal→AMem→Prop} {t:Tag K} {g:FuncId} {xs:List AVal} {m:AMem} {R:AVal→AMem→Prop} (h:ACalls P g xs m R) (hk: ∀v m',R v m'→K v m'):C P K t g xs m:=⟨h.mono hk⟩
section
variable {P:Program} {Q:AEx→AFrame→AMem→Prop} {a a':AFrame} {m m':AMem}
@[simp] theorem W_skip (t:Tag (CC.skip,Q)):W P .skip Q t a m=Q .normal a m:=Hid.eq _
@[simp] theorem W_reg {is:List CI} (t:Tag (CC.reg is,Q)):W P (.reg is) Q t a m=L P (Q .normal) is .mk a m:=_root_.id rfl
@[simp] theorem W_seq {x y:CC} (t:Tag (CC.seq x y,Q)):W P (.seq x y) Q t a m=W P x (AEx.then (fun a m=>W P y Q .mk a m) Q) .mk a m:=by simp only[W,CC.wp,Hid.eq]
@[simp] theorem W_block {id:Nat} {x:CC} (t:Tag (CC.block id x,Q)):W P (.block id x) Q t a m=W P x (AEx.inBlock id Q) .mk a m:=_root_.id rfl
@[simp] theorem W_exit {id:Nat} (t:Tag (CC.exit id,Q)):W P (.exit id) Q t a m=Q (.exit id) a m:=Hid.eq _
@[simp] theorem W_ret (t:Tag (CC.ret,Q)):W P .ret Q t a m=Q .ret a m:=Hid.eq _
@[simp] theorem W_kill {l:List Nat} {x:CC} (t:Tag (CC.kill l x,Q)):W P (.kill l x) Q t a m=W P x Q .mk (a.forget l) m:=_root_.id rfl
@[simp] theorem W_fin {l:List Nat} {x:CC} (t:Tag (CC.fin l x,Q)):W P (.fin l x) Q t a m=W P x (AEx.then (fun a m=>Q .normal (a.forget l) m) Q) .mk a m:=_root_.id rfl
@[simp] theorem W_cond {c:Arg} {x y:CC} (t:Tag (CC.cond c x y,Q)):W P (.cond c x y) Q t a m=bbind (W P x Q .mk a m) (W P y Q .mk a m) .mk (a.ev c):=by simp only[W,bbind,CC.wp,Hid.eq];rfl
@[simp] theorem then_normal {next:AFrame→AMem→Prop}:AEx.then next Q .normal=next:=_root_.id rfl
@[simp] theorem then_exit {next:AFrame→AMem→Prop} {id:Nat}:AEx.then next Q (.exit id)=Q (.exit id):=_root_.id rfl
@[simp] theorem then_ret {next:AFrame→AMem→Prop}:AEx.then next Q .ret=Q .ret:=_root_.id rfl
@[simp] theorem inBlock_normal {id:Nat}:AEx.inBlock id Q .normal=Q .normal:=_root_.id rfl
@[simp] theorem inBlock_exit {id k:Nat}:AEx.inBlock id Q (.exit k)=if k=id then Q .normal else Q (.exit k):=_root_.id rfl
@[simp] theorem inBlock_ret {id:Nat}:AEx.inBlock id Q .ret=Q .ret:=_root_.id rfl
variable {K:AFrame→AMem→Prop} {J:AVal→AMem→Prop}
@[simp] theorem L_nil (t:Tag (K,([]:List CI))):L P K [] t a m=K a m:=Hid.eq _
@[simp] theorem L_cons {d:Option Nat} {o:COp} {r:List CI} (t:Tag (K,(⟨d,o,none⟩::r:List CI))):L P K (⟨d,o,none⟩::r) t a m=S P (fun x m'=>L P K r .mk (a.putO d x) m') o .mk a m:=by simp only[L,S,CI.list,CI.step,Hid.eq]
theorem L_guard {d:Option Nat} {o:COp} {n:Nat} {w:Bool} {r:List CI} (t:Tag (K,(⟨d,o,some (n,w)⟩::r:List CI))):L P K (⟨d,o,some (n,w)⟩::r) t a m=gbind w (S P (fun x m'=>L P K r .mk (a.putO d x) m') o .mk a m) (L P K r .mk (a.putO d (.tuple [])) m) .mk (a.ev (.t n)):=by
 simp only[gbind,L,S,CI.list,CI.step,Hid.eq]
 cases gOf (a.ev (.t n)) w with
 |none=>rfl
 |some b=>cases b<;>rfl
@[simp] theorem L_guardC {d:Option Nat} {f:Arg} {xs:List Arg} {n:Nat} {w:Bool} {r:List CI} (t:Tag (K,(⟨d,.C f xs,some (n,w)⟩::r:List CI))):L P K (⟨d,.C f xs,some (n,w)⟩::r) t a m=gbind w (S P (fun x m'=>L P K r .mk (a.putO d x) m') (.C f xs) .mk a m) (L P K r .mk (a.putO d (.tuple [])) m) .mk (a.ev (.t n)):=L_guard _
@[simp] theorem L_guardA {d:Option Nat} {p:AOp} {n:Nat} {w:Bool} {r:List CI} (t:Tag (K,(⟨d,.A p,some (n,w)⟩::r:List CI))):L P K (⟨d,.A p,some (n,w)⟩::r) t a m=gbind w (S P (fun x m'=>L P K r .mk (a.putO d x) m') (.A p) .mk a m) (L P K r .mk (a.putO d (.tuple [])) m) .mk (a.ev (.t n)):=L_guard _
@[simp] theorem L_guardW {d:Option Nat} {p:WOp} {n:Nat} {w:Bool} {r:List CI} (t:Tag (K,(⟨d,.W p,some (n,w)⟩::r:List CI))):L P K (⟨d,.W p,some (n,w)⟩::r) t a m=gbind w (S P (fun x m'=>L P K r .mk (a.putO d x) m') (.W p) .mk a m) (L P K r .mk (a.putO d (.tuple [])) m) .mk (a.ev (.t n)):=L_guard _
@[simp] theorem L_guardP {d:Option Nat} {p:POp} {n:Nat} {w:Bool} {r:List CI} (t:Tag (K,(⟨d,.P p,some (n,w)⟩::r:List CI))):L P K (⟨d,.P p,some (n,w)⟩::r) t a m=gP (fun x=>L P K r .mk (a.putO d x) m) .mk w (a.ev (.t n)) (p.ev a):=by
 rw[L_guard]
 unfold gbind gP
 cases gOf (a.ev (.t n)) w with
 |none=>rfl
 |some b=>
  cases b with
  |false=>rfl
  |true=>simp only[S,COp.step,obind];cases p.ev a<;>rfl
@[simp] theorem L_guardR {d:Option Nat} {p:ROp} {n:Nat} {w:Bool} {r:List CI} (t:Tag (K,(⟨d,.R p,some (n,w)⟩::r:List CI))):L P K (⟨d,.R p,some (n,w)⟩::r) t a m=gP (fun x=>L P K r .mk (a.putO d x) m) .mk w (a.ev (.t n)) (p.ev a m):=by
 rw[L_guard]
 unfold gbind gP
 cases gOf (a.ev (.t n)) w with
 |none=>rfl
 |some b=>
  cases b with
  |false=>rfl
  |true=>simp only[S,COp.step,obind];cases p.ev a m<;>rfl
@[simp] theorem S_P {p:POp} (t:Tag (J,COp.P p)):S P J (.P p) t a m=obind (fun x=>J x m) .mk (p.ev a):=by simp only[S,COp.step,obind];cases p.ev a<;>rfl
@[simp] theorem S_R {p:ROp} (t:Tag (J,COp.R p)):S P J (.R p) t a m=obind (fun x=>J x m) .mk (p.ev a m):=by simp only[S,COp.step,obind];cases p.ev a m<;>rfl
@[simp] theorem S_A {p:AOp} (t:Tag (J,COp.A p)):S P J (.A p) t a m=obind (fun t=>J (t.2.2 m.length) (m++ [.own t.1 t.2.1 none])) .mk (p.ev a):=by simp only[S,COp.step,obind];cases p.ev a<;>rfl
@[simp] theorem S_W {p:WOp} (t:Tag (J,COp.W p)):S P J (.W p) t a m=obind (fun t=>J t.1 t.2) .mk (p.ev a m):=by simp only[S,COp.step,obind];cases p.ev a m<;>rfl
@[simp] theorem S_C {f:Arg} {xs:List Arg} (t:Tag (J,COp.C f xs)):S P J (.C f xs) t a m=fbind P J .mk (a.ev f) (xs.map a.ev) m:=_root_.id rfl
theorem W_loop {x:CC} {t:Tag (CC.loop x,Q)} (I:Nat→AFrame→AMem→Prop) (n:Nat) (h0:I n a m) (hr: ∀n a m,I n a m→W P x (AEx.then (fun a' m'=> ∃n',n'<n∧I n' a' m') Q) .mk a m):W P (.loop x) Q t a m:=⟨⟨I,⟨n,h0⟩,fun n a m h=>(hr n a m h).out⟩⟩
end
def E (rs:List ARes) (R:AVal→AMem→Prop) (_:Tag R):AEx→AFrame→AMem→Prop:=retPost rs R
@[simp] theorem E_ret {rs:List ARes} {R:AVal→AMem→Prop} {a:AFrame} {m:AMem} (t:Tag R):E rs R t .ret a m=obind (fun v=>R v m) .mk (resOf a m rs):=by simp only[E,retPost,obind,Hid.eq];cases resOf a m rs<;>rfl
@[simp] theorem E_normal {rs:List ARes} {R:AVal→AMem→Prop} {a:AFrame} {m:AMem} (t:Tag R):E rs R t .normal a m=obind (fun v=>R v m) .mk (resOf a m rs):=by simp only[E,retPost,obind,Hid.eq];cases resOf a m rs<;>rfl
theorem walk {P:Program} (hmix:P.follows .mixedOrders=true) {f:FuncId} {nt:Nat} {body:CC} {res:List ARes} (hc:cFn P f=some ⟨nt,body.erase,res⟩) {args:List AVal} {m:AMem} {R:AVal→AMem→Prop}
  (hl:args.length≤nt) (h:W P body (E res R .mk) .mk (mat nt (sArgs 0 args)) m):ACalls P f args m R:=enter (cf:=⟨nt,body,res⟩) hmix hc (by rw[mat_args nt args hl];exact h.out)
def unE (op:UnOp) (v:AVal):Option AVal:=match op,v with
 | .neg,.int k n=>some (.int k (k.wrap (0-n)))
 | .not,.bool b=>some (.bool (!b))
 |_,_=>none
def faddrE (off:Nat):AVal→Option AVal
 | .ptr b o=>some (.ptr b (o+off))
 |_=>none
def fieldE (off size:Nat) (agg:Bool):AVal→Option AVal
 | .agg cs=>if agg then (readN cs off size).map .agg else cs[off]?
 |_=>none
def iaddrE (esz:Nat) (v i:AVal):Option AVal:=match v,i with
 | .slice b o l _ _,.int _ n=>if 0≤n∧n<l then some (.ptr b (o+n.toNat*esz)) else none
 |_,_=>none
def ixsE (v i:AVal):Option AVal:=match v,i with
 | .str s,.int _ n=>(if 0≤n then s[n.toNat]? else none).map fun b=> .int .u8 b.toNat
 |_,_=>none
def extE (i:Nat):AVal→Option AVal
 | .tuple vs=>vs[i]?
 |_=>none
def lenE:AVal→Option AVal
 | .nilslice=>some (.int .i64 0)
 | .slice _ _ n _ _=>some (.int .i64 n)
 |_=>none
def lenSE:AVal→Option AVal
 | .str s=>some (.int .i64 s.size)
 |_=>none
def loadE (m:AMem) (n:Nat) (agg:Bool):AVal→Option AVal
 | .ptr b o=>(readB m b).bind fun cs=>if agg then (readN cs o n).map .agg else cs[o]?
 | .gptr g o=>if agg then none else (gcells g).bind fun cs=>cs[o]?
 |_=>none
def sdataE:AVal→Option AVal
 | .nilslice=>some .nilptr
 | .slice b o n _ _=>if 0<n then some (.ptr b o) else none
 |_=>none
def storeE (m:AMem) (n:Nat) (p v:AVal):Option (AVal×AMem):=match p with
 | .ptr b o=>if v.cells.length=n then (writeB m b o v.cells).map fun m'=>(.undef,m') else none
 |_=>none
section
variable (a:AFrame) (m:AMem)
@[simp] theorem ev_mov (x:Arg):POp.ev a (.mov x)=some (a.ev x):=rfl
@[simp] theorem ev_pick (c x y:Arg):POp.ev a (.pick c x y)=pickE (a.ev c) (a.ev x) (a.ev y):=rfl
@[simp] theorem ev_bin (op:BinOp) (x y:Arg):POp.ev a (.bin op x y)=binE op (a.ev x) (a.ev y):=rfl
@[simp] theorem ev_eqB (n:Bool) (x y:Arg):POp.ev a (.eqB n x y)=match a.ev x,a.ev y with| .bool b,.bool c=>some (.bool (if n then b !=c else b==c))|_,_=>none:=rfl
@[simp] theorem ev_eqS (n:Bool) (ks:List Bool) (x y:Arg):POp.ev a (.eqS n ks x y)=match a.ev x,a.ev y with| .agg xs,.agg ys=>(eqC ks xs ys).map fun b=> .bool (if n then !b else b)|_,_=>none:=rfl
@[simp] theorem ev_eqN (k:NilKind) (n:Bool) (x:Arg):POp.ev a (.eqN k n x)=(isNilOf k (a.ev x)).map fun b=> .bool (if n then !b else b):=rfl
@[simp] theorem ev_un (op:UnOp) (x:Arg):POp.ev a (.un op x)=unE op (a.ev x):=by cases op<;>simp only[POp.ev,unE]<;>split<;>simp_all
@[simp] theorem ev_i2i (k:IntKind) (x:Arg):POp.ev a (.i2i k x)=match a.ev x with| .int _ n=>some (.int k (k.wrap n))|_=>none:=rfl
@[simp] theorem ev_build (z:List AVal) (ps:List (Nat×Nat×Arg)):POp.ev a (.build z ps)=(fillA z (ps.map fun p=>(p.1,p.2.1,a.ev p.2.2))).map .agg:=rfl
@[simp] theorem ev_faddr (o:Nat) (x:Arg):POp.ev a (.faddr o x)=faddrE o (a.ev x):=rfl
@[simp] theorem ev_field (o n:Nat) (g:Bool) (x:Arg):POp.ev a (.field o n g x)=fieldE o n g (a.ev x):=rfl
@[simp] theorem ev_iaddr (n:Nat) (x i:Arg):POp.ev a (.iaddr n x i)=iaddrE n (a.ev x) (a.ev i):=rfl
@[simp] theorem ev_ixs (x i:Arg):POp.ev a (.ixs x i)=ixsE (a.ev x) (a.ev i):=rfl
@[simp] theorem ev_ext (x:Arg) (i:Nat):POp.ev a (.ext x i)=extE i (a.ev x):=rfl
@[simp] theorem ev_mkfn (f:Fn) (fs cs:List Arg):POp.ev a (.mkfn f fs cs)=some (.func f (fs.map a.ev) (cs.map a.ev)):=rfl
@[simp] theorem ev_len (x:Arg):POp.ev a (.len x)=lenE (a.ev x):=rfl
@[simp] theorem ev_lenS (x:Arg):POp.ev a (.lenS x)=lenSE (a.ev x):=rfl
@[simp] theorem ev_max (x y:Arg):POp.ev a (.max x y)=match a.ev x,a.ev y with| .int k n,.int _ m=>some (.int k (if m>n then m else n))|_,_=>none:=rfl
@[simp] theorem ev_sdata (x:Arg):POp.ev a (.sdata x)=sdataE (a.ev x):=rfl
@[simp] theorem ev_eqP (g:Bool) (x y:Arg):POp.ev a (.eqP g x y)=(ptrEq (a.ev x) (a.ev y)).map fun b=> .bool (if g then !b else b):=rfl
@[simp] theorem ev_rk (k:RK) (x:Arg):ROp.ev a m (.rk k x)=rkE m k (a.ev x):=rfl
@[simp] theorem ev_ustr (e:TypeId) (x n:Arg):WOp.ev a m (.ustr e x n)=ustrE m e (a.ev x) (a.ev n):=rfl
@[simp] theorem ev_load (n:Nat) (g:Bool) (x:Arg):ROp.ev a m (.load n g x)=loadE m n g (a.ev x):=rfl
@[simp] theorem ev_store (n:Nat) (x v:Arg):WOp.ev a m (.store n x v)=storeE m n (a.ev x) (a.ev v):=rfl
@[simp] theorem ev_lookup (z:AVal) (ok:Bool) (x k:Arg):ROp.ev a m (.lookup z ok x k)=lookupE m z ok (a.ev x) (a.ev k):=rfl
@[simp] theorem ev_mkmap:WOp.ev a m .mkmap=some (.map m.length,m++ [.mp []]):=rfl
@[simp] theorem ev_mapset (x k v:Arg):WOp.ev a m (.mapset x k v)=mapsetE m (a.ev x) (a.ev k) (a.ev v):=rfl
@[simp] theorem ev_growz (n by_:Nat) (ty:TypeId) (z:List AVal) (s x:Arg):WOp.ev a m (.growz n by_ ty z s x)=growE m n by_ ty z (a.ev s) (a.ev x):=rfl
@[simp] theorem ev_append (n by_:Nat) (ty:TypeId) (s x:Arg):WOp.ev a m (.append n by_ ty false s x)=(sliceCells m n (a.ev x)).bind fun xs=>appendE m n by_ ty (a.ev s) xs.1 xs.2:=by simp[WOp.ev]
end
@[simp] theorem unE_not (b:Bool):unE .not (.bool b)=some (.bool (!b)):=rfl
@[simp] theorem unE_neg (k:IntKind) (n:Int):unE .neg (.int k n)=some (.int k (k.wrap (0-n))):=rfl
@[simp] theorem faddrE_ptr (o b p:Nat):faddrE o (.ptr b p)=some (.ptr b (p+o)):=rfl
@[simp] theorem extE_tuple (i:Nat) (vs:List AVal):extE i (.tuple vs)=vs[i]? :=rfl
@[simp] theorem fieldE_agg (o n:Nat) (cs:List AVal):fieldE o n false (.agg cs)=cs[o]? :=rfl
@[simp] theorem fieldE_agg' (o n:Nat) (cs:List AVal):fieldE o n true (.agg cs)=(readN cs o n).map .agg:=rfl
@[simp] theorem lenE_nil:lenE .nilslice=some (.int .i64 0):=rfl
@[simp] theorem lenE_slice (b o n c:Nat) (g:Option Nat):lenE (.slice b o n c g)=some (.int .i64 n):=rfl
@[simp] theorem lenSE_str (s:ByteArray):lenSE (.str s)=some (.int .i64 s.size):=rfl
@[simp] theorem one_int (k:IntKind) (n:Int):(AVal.int k n).one=true:=rfl
@[simp] theorem one_bool (b:Bool):(AVal.bool b).one=true:=rfl
@[simp] theorem one_str (s:ByteArray):(AVal.str s).one=true:=rfl
@[simp] theorem one_nil:AVal.nilslice.one=true:=rfl
@[simp] theorem one_slice (b o n c:Nat) (g:Option Nat):(AVal.slice b o n c g).one=true:=rfl
@[simp] theorem one_ptr (b o:Nat):(AVal.ptr b o).one=true:=rfl
@[simp] theorem one_nilptr:AVal.nilptr.one=true:=rfl
@[simp] theorem one_map (b:Nat):(AVal.map b).one=true:=rfl
@[simp] theorem cells_nilptr:AVal.nilptr.cells= [.nilptr]:=rfl
@[simp] theorem cells_map (b:Nat):(AVal.map b).cells= [.map b]:=rfl
@[simp] theorem cells_int (k:IntKind) (n:Int):(AVal.int k n).cells= [.int k n]:=rfl
@[simp] theorem cells_bool (b:Bool):(AVal.bool b).cells= [.bool b]:=rfl
@[simp] theorem cells_str (s:ByteArray):(AVal.str s).cells= [.str s]:=rfl
@[simp] theorem cells_nil:AVal.nilslice.cells= [.nilslice]:=rfl
@[simp] theorem cells_slice (b o n c:Nat) (g:Option Nat):(AVal.slice b o n c g).cells= [.slice b o n c g]:=rfl
@[simp] theorem cells_ptr (b o:Nat):(AVal.ptr b o).cells= [.ptr b o]:=rfl
@[simp] theorem cells_agg (cs:List AVal):(AVal.agg cs).cells=cs:=rfl
attribute [simp] rkE ptrEq
attribute [simp] binE AOp.ev resOf resEv ARes.ev binInt isNilOf
theorem wrap64 {x:Int} (h1: -9223372036854775808≤x) (h2:x<9223372036854775808):IntKind.i64.wrap x=x:=by
 simp only[IntKind.wrap,IntKind.bits,IntKind.signed,Bool.true_and,decide_eq_true_eq,ge_iff_le,Nat.reduceSub,Int.reducePow]
 split<;>omega
end Go.Proofs.YtlniliigcnedmaaGreatDoor.Ax
namespace Go.Proofs.YtlniliigcnedmaaGreatDoor.Ax
open Go
def Sl (m:AMem) (esz:Nat) (s:AVal) (n:Nat) (cs:List AVal):Prop:=
 (s= .nilslice∧n=0∧cs= [])∨ ∃b o cap gr,s= .slice b o n cap gr∧(n≤cap∧(gr=none∨gr=some esz))∧((n=0∧cs= [])∨(n≠0∧ ∃bl,readB m b=some bl∧readN bl o (n*esz)=some cs))
theorem Sl.mono {m m':AMem} {esz:Nat} {s:AVal} {n:Nat} {cs:List AVal} (h:Sl m esz s n cs) (hm:m<+:m'):Sl m' esz s n cs:=by
 rcases h with h|⟨b,o,cap,gr,h1,hcg,h2|⟨h2,bl,h3,h4⟩⟩
 ·exact .inl h
 ·exact .inr ⟨b,o,cap,gr,h1,hcg,.inl h2⟩
 ·exact .inr ⟨b,o,cap,gr,h1,hcg,.inr ⟨h2,bl,readB_mono hm h3,h4⟩⟩
theorem Sl.len {m:AMem} {esz:Nat} {s:AVal} {n:Nat} {cs:List AVal} (h:Sl m esz s n cs):lenE s=some (.int .i64 n):=by
 rcases h with ⟨rfl,rfl,_⟩|⟨b,o,cap,gr,rfl,_⟩<;>rfl
theorem Sl.nil {m:AMem} {esz:Nat}:Sl m esz .nilslice 0 []:= .inl ⟨rfl,rfl,rfl⟩
theorem readN_length {cs ys:List AVal} {o n:Nat} (h:readN cs o n=some ys):ys.length=n:=by
 unfold readN at h
 split at h
 ·simp only[Option.some.injEq] at h;subst h;simp;omega
 ·simp at h
theorem Sl.length {m:AMem} {esz:Nat} {s:AVal} {n:Nat} {cs:List AVal} (h:Sl m esz s n cs):cs.length=n*esz:=by
 rcases h with ⟨_,rfl,rfl⟩|⟨b,o,cap,gr,_,_,⟨rfl,rfl⟩|⟨_,bl,_,h⟩⟩
 ·simp
 ·simp
 ·exact readN_length h
theorem readN_get {cs ys:List AVal} {o n:Nat} (h:readN cs o n=some ys) {i:Nat} (hi:i<n):cs[o+i]? =ys[i]? :=by
 unfold readN at h
 split at h
 ·simp only[Option.some.injEq] at h;subst h;rw[List.getElem?_take,if_pos hi,List.getElem?_drop]
 ·simp at h
theorem readN_sub {cs ys:List AVal} {o n:Nat} (h:readN cs o n=some ys) {i k:Nat} (hi:i+k≤n):readN cs (o+i) k=some ((ys.drop i).take k):=by
 unfold readN at h ⊢
 split at h
 ·simp only[Option.some.injEq] at h
  subst h
  rw[if_pos (by omega)]
  congr 1
  rw[List.drop_take,List.drop_drop,List.take_take]
  congr 1
  omega
 ·simp at h
theorem Sl.at {m:AMem} {esz:Nat} {s:AVal} {n:Nat} {cs:List AVal} (h:Sl m esz s n cs) {i:Nat} (hi:i<n):
  ∃b o,(∀k,iaddrE esz s (.int k i)=some (.ptr b o))∧(∀j,j<esz→loadE m 1 false (.ptr b (o+j))=cs[i*esz+j]?)∧loadE m esz true (.ptr b o)=some (.agg ((cs.drop (i*esz)).take esz)):=by
 rcases h with ⟨_,rfl,_⟩|⟨b,o,cap,gr,rfl,_,⟨rfl,rfl⟩|⟨h2,bl,h3,h4⟩⟩
 ·omega
 ·omega
 ·have hle:i*esz+esz≤n*esz:=by
   rw[←Nat.succ_mul]
   exact Nat.mul_le_mul_right _ hi
  refine ⟨b,o+i*esz,fun k=>?_,fun j hj=>?_,?_⟩
  ·simp[iaddrE,hi]
  ·simp only[loadE,h3,Option.bind_some,Bool.false_eq_true,if_false]
   rw[Nat.add_assoc]
   exact readN_get h4 (by omega)
  ·simp only[loadE,h3,Option.bind_some,if_true]
   rw[readN_sub h4 hle]
   rfl
def RInts (m:AMem) (s:AVal) (xs:List Int):Prop:=Sl m 1 s xs.length (xs.map fun x=> .int .i64 x)
def RStrs (m:AMem) (s:AVal) (xs:List ByteArray):Prop:=Sl m 1 s xs.length (xs.map fun x=> .str x)
def RBools (m:AMem) (s:AVal) (xs:List Bool):Prop:=Sl m 1 s xs.length (xs.map fun x=> .bool x)
theorem RInts.mono {m m':AMem} {s:AVal} {xs:List Int} (h:RInts m s xs) (hm:m<+:m'):RInts m' s xs:=Sl.mono h hm
theorem RStrs.mono {m m':AMem} {s:AVal} {xs:List ByteArray} (h:RStrs m s xs) (hm:m<+:m'):RStrs m' s xs:=Sl.mono h hm
theorem RBools.mono {m m':AMem} {s:AVal} {xs:List Bool} (h:RBools m s xs) (hm:m<+:m'):RBools m' s xs:=Sl.mono h hm
theorem RInts.len {m:AMem} {s:AVal} {xs:List Int} (h:RInts m s xs):lenE s=some (.int .i64 xs.length):=Sl.len h
theorem RStrs.len {m:AMem} {s:AVal} {xs:List ByteArray} (h:RStrs m s xs):lenE s=some (.int .i64 xs.length):=Sl.len h
theorem RBools.len {m:AMem} {s:AVal} {xs:List Bool} (h:RBools m s xs):lenE s=some (.int .i64 xs.length):=Sl.len h
theorem RInts.at {m:AMem} {s:AVal} {xs:List Int} (h:RInts m s xs) {i:Nat} (hi:i<xs.length):
  ∃b o,(∀k,iaddrE 1 s (.int k i)=some (.ptr b o))∧loadE m 1 false (.ptr b o)=some (.int .i64 xs[i]):=by
 obtain ⟨b,o,h1,h2,_⟩:=Sl.at h hi
 exact ⟨b,o,h1,by have:=h2 0 (by omega);simpa[hi] using this⟩
theorem RStrs.at {m:AMem} {s:AVal} {xs:List ByteArray} (h:RStrs m s xs) {i:Nat} (hi:i<xs.length):
  ∃b o,(∀k,iaddrE 1 s (.int k i)=some (.ptr b o))∧loadE m 1 false (.ptr b o)=some (.str xs[i]):=by
 obtain ⟨b,o,h1,h2,_⟩:=Sl.at h hi
 exact ⟨b,o,h1,by have:=h2 0 (by omega);simpa[hi] using this⟩
theorem RBools.at {m:AMem} {s:AVal} {xs:List Bool} (h:RBools m s xs) {i:Nat} (hi:i<xs.length):
  ∃b o,(∀k,iaddrE 1 s (.int k i)=some (.ptr b o))∧loadE m 1 false (.ptr b o)=some (.bool xs[i]):=by
 obtain ⟨b,o,h1,h2,_⟩:=Sl.at h hi
 exact ⟨b,o,h1,by have:=h2 0 (by omega);simpa[hi] using this⟩
end Go.Proofs.YtlniliigcnedmaaGreatDoor.Ax
namespace Go.Proofs.YtlniliigcnedmaaGreatDoor.Ax
open Go
structure Ch (S:Nat→Prop) (m m':AMem):Prop where
 len:m.length≤m'.length
 keep: ∀b blk,m[b]? =some blk→ ¬S b→m'[b]? =some blk
theorem Ch.refl (S:Nat→Prop) (m:AMem):Ch S m m:=⟨Nat.le_refl _,fun _ _ h _=>h⟩
theorem Ch.trans {S:Nat→Prop} {m m' m'':AMem} (h:Ch S m m') (h':Ch S m' m''):Ch S m m'':=⟨Nat.le_trans h.len h'.len,fun b blk k1 k2=>h'.keep b blk (h.keep b blk k1 k2) k2⟩
theorem Ch.weaken {S T:Nat→Prop} {m m':AMem} (h:Ch S m m') (hs: ∀b,b<m.length→S b→T b):Ch T m m':=⟨h.len,fun b blk k1 k2=>h.keep b blk k1 fun k=>k2 (hs b (List.getElem?_eq_some_iff.1 k1).1 k)⟩
theorem Ch.of_prefix {S:Nat→Prop} {m m':AMem} (h:m<+:m'):Ch S m m':=by
 refine ⟨h.length_le,fun b blk k1 _=>?_⟩
 obtain ⟨l,rfl⟩:=h
 rw[List.getElem?_append_left (List.getElem?_eq_some_iff.1 k1).1]
 exact k1
theorem Ch.pre {S:Nat→Prop} {m0 m m':AMem} (h:Ch S m m') (hp:m0<+:m) (hs: ∀b,b<m0.length→ ¬S b):m0<+:m':=by
 obtain ⟨l,rfl⟩:=hp
 refine List.prefix_iff_eq_take.2 (List.ext_getElem? fun i=>?_)
 rw[List.getElem?_take]
 split
 ·rename_i hi
  have h0:m0[i]? =some m0[i]:=List.getElem?_eq_getElem hi
  rw[h.keep i m0[i] (by rw[List.getElem?_append_left hi];exact h0) (hs i hi),h0]
 ·rename_i hi
  exact List.getElem?_eq_none (by omega)
theorem Ch.push {S:Nat→Prop} {m m':AMem} (h:Ch S m m') (x:List ABlk):Ch S m (m'++x):=h.trans (.of_prefix (List.prefix_append _ _))
theorem Ch.set {S:Nat→Prop} {m m':AMem} (h:Ch S m m') {b:Nat} (hb:S b∨m.length≤b) (x:ABlk):Ch S m (m'.set b x):=by
 refine ⟨by simpa using h.len,fun c blk k1 k2=>?_⟩
 rw[List.getElem?_set_ne]
 ·exact h.keep c blk k1 k2
 ·rintro rfl
  have:=(List.getElem?_eq_some_iff.1 k1).1
  rcases hb with hb|hb
  ·exact k2 hb
  ·omega
theorem Ch.setS {S:Nat→Prop} {m:AMem} {b:Nat} (x:ABlk) (hb:S b):Ch S m (m.set b x):=(Ch.refl S m).set (.inl hb) x
theorem Ch.read {S:Nat→Prop} {m m':AMem} (h:Ch S m m') {b:Nat} (hb: ¬S b) {cs:List AVal} (hr:readB m b=some cs):readB m' b=some cs:=by
 unfold readB at hr ⊢
 cases hm:m[b]? with
 |none=>rw[hm] at hr;simp at hr
 |some blk=>rw[h.keep b blk hm hb];rw[hm] at hr;exact hr
def AVal.blk:AVal→Option Nat
 | .slice b _ _ _ _=>some b
 |_=>none
theorem Sl.ch {S:Nat→Prop} {m m':AMem} (hc:Ch S m m') {esz:Nat} {s:AVal} {n:Nat} {cs:List AVal} (h:Sl m esz s n cs) (hs: ∀b,s.blk=some b→ ¬S b):Sl m' esz s n cs:=by
 rcases h with h|⟨b,o,cap,gr,rfl,hcg,h2|⟨h2,bl,h3,h4⟩⟩
 ·exact .inl h
 ·exact .inr ⟨b,o,cap,gr,rfl,hcg,.inl h2⟩
 ·exact .inr ⟨b,o,cap,gr,rfl,hcg,.inr ⟨h2,bl,hc.read (hs b rfl) h3,h4⟩⟩
theorem Sl.cells {m:AMem} {esz:Nat} {s:AVal} {n:Nat} {cs:List AVal} (h:Sl m esz s n cs):sliceCells m esz s=some (n,cs):=by
 rcases h with ⟨rfl,rfl,rfl⟩|⟨b,o,cap,gr,rfl,_,⟨rfl,rfl⟩|⟨h2,bl,h3,h4⟩⟩
 ·rfl
 ·simp[sliceCells]
 ·simp[sliceCells,h2,h3,h4]
def Ow (lo:Nat) (m:AMem) (esz:Nat) (ty:TypeId) (s:AVal) (n:Nat) (cs:List AVal):Prop:=
 (s= .nilslice∧n=0∧cs= [])∨ ∃b o cap gr bl gr',s= .slice b o n cap gr∧lo≤b∧m[b]? =some (.own bl ty gr')∧readN bl o (n*esz)=some cs∧n≤cap∧o+cap*esz≤bl.length∧bl.all AVal.one=true∧(gr=none∨gr=some esz∧gr'=some esz)
theorem Ow.sl {lo:Nat} {m:AMem} {esz:Nat} {ty:TypeId} {s:AVal} {n:Nat} {cs:List AVal} (h:Ow lo m esz ty s n cs):Sl m esz s n cs:=by
 rcases h with h|⟨b,o,cap,gr,bl,gr',rfl,_,h1,h2,h3,_,_,h4⟩
 ·exact .inl h
 ·refine .inr ⟨b,o,cap,gr,rfl,⟨h3,h4.imp id And.left⟩,?_⟩
  by_cases hn:n=0
  ·subst hn
   have:=readN_length h2
   exact .inl ⟨rfl,List.eq_nil_of_length_eq_zero (by omega)⟩
  ·exact .inr ⟨hn,bl,by simp[readB,h1,ABlk.cells],h2⟩
theorem Ow.ch {S:Nat→Prop} {lo:Nat} {m m':AMem} (hc:Ch S m m') {esz:Nat} {ty:TypeId} {s:AVal} {n:Nat} {cs:List AVal} (h:Ow lo m esz ty s n cs) (hs: ∀b,s.blk=some b→ ¬S b):Ow lo m' esz ty s n cs:=by
 rcases h with h|⟨b,o,cap,gr,bl,gr',rfl,h0,h1,h2⟩
 ·exact .inl h
 ·exact .inr ⟨b,o,cap,gr,bl,gr',rfl,h0,hc.keep b _ h1 (hs b rfl),h2⟩
theorem Ow.mono {lo:Nat} {m m':AMem} (hc:m<+:m') {esz:Nat} {ty:TypeId} {s:AVal} {n:Nat} {cs:List AVal} (h:Ow lo m esz ty s n cs):Ow lo m' esz ty s n cs:=
 h.ch (S:=fun _=>False) (.of_prefix hc) fun _ _=>id
theorem Ow.nil {lo:Nat} {m:AMem} {esz:Nat} {ty:TypeId}:Ow lo m esz ty .nilslice 0 []:= .inl ⟨rfl,rfl,rfl⟩
theorem Ow.lo {lo lo':Nat} {m:AMem} {esz:Nat} {ty:TypeId} {s:AVal} {n:Nat} {cs:List AVal} (h:Ow lo m esz ty s n cs) (hl:lo'≤lo):Ow lo' m esz ty s n cs:=by
 rcases h with h|⟨b,o,cap,gr,bl,gr',h1,h2,h3⟩
 ·exact .inl h
 ·exact .inr ⟨b,o,cap,gr,bl,gr',h1,Nat.le_trans hl h2,h3⟩
theorem Ow.new {m:AMem} {esz:Nat} {ty:TypeId} {n:Nat} {cs:List AVal} (hl:cs.length=n*esz) (h1:cs.all AVal.one=true):Ow m.length (m++ [.own cs ty none]) esz ty (.slice m.length 0 n n none) n cs:=by
 refine .inr ⟨_,0,n,none,cs,none,rfl,Nat.le_refl _,by simp,?_,Nat.le_refl _,by omega,h1,.inl rfl⟩
 unfold readN
 rw[if_pos (by omega),List.drop_zero,List.take_of_length_le (by omega)]
theorem Ow.blk_lo {lo:Nat} {m:AMem} {esz:Nat} {ty:TypeId} {s:AVal} {n:Nat} {cs:List AVal} (h:Ow lo m esz ty s n cs) {b:Nat} (hb:s.blk=some b):lo≤b∧b<m.length:=by
 rcases h with ⟨rfl,_⟩|⟨b',o,cap,gr,bl,gr',rfl,h1,h2,_⟩
 ·cases hb
 ·simp only[AVal.blk,Option.some.injEq] at hb
  subst hb
  exact ⟨h1,(List.getElem?_eq_some_iff.1 h2).1⟩
theorem setN_get: ∀(xs cs:List AVal) (o i:Nat),o+xs.length≤cs.length→(setN cs o xs)[i]? =if o≤i∧i<o+xs.length then xs[i-o]? else cs[i]?
 | [],cs,o,i,_=>by simp[setN];omega
 |x::xs,cs,o,i,h=>by
  simp only[List.length_cons] at h
  rw[setN,setN_get xs _ _ _ (by simp;omega)]
  simp only[List.length_cons]
  by_cases hi:o=i
  ·subst hi
   rw[if_neg (by omega),if_pos (by omega),List.getElem?_set_self (by omega)]
   simp
  ·rw[List.getElem?_set_ne hi]
   by_cases h2:o+1≤i∧i<o+1+xs.length
   ·rw[if_pos h2,if_pos (by omega)]
    obtain ⟨k,rfl⟩: ∃k,i=o+1+k:=⟨i-(o+1),by omega⟩
    rw[show o+1+k-o=k+1 by omega,show o+1+k-(o+1)=k by omega]
    simp
   ·rw[if_neg h2,if_neg (by omega)]
theorem all_setN {xs cs:List AVal} {o:Nat} (h1:cs.all AVal.one=true) (h2:xs.all AVal.one=true):(setN cs o xs).all AVal.one=true:=by
 induction xs generalizing cs o with
 |nil=>exact h1
 |cons x xs ih=>
  simp only[List.all_cons,Bool.and_eq_true] at h2
  refine ih ?_ h2.2
  rw[List.all_eq_true] at h1 ⊢
  intro y hy
  rcases List.mem_or_eq_of_mem_set hy with hy|rfl
  ·exact h1 y hy
  ·exact h2.1
theorem Ow.store {lo:Nat} {m:AMem} {esz:Nat} {ty:TypeId} {s:AVal} {n:Nat} {cs:List AVal} (h:Ow lo m esz ty s n cs) {i:Nat} (hi:i<n): ∃b o,s.blk=some b∧(∀k,iaddrE esz s (.int k i)=some (.ptr b o))∧
  ∀(j:Nat) (v:AVal),j+v.cells.length≤esz→v.cells.all AVal.one=true→ ∃m',storeE m v.cells.length (.ptr b (o+j)) v=some (.undef,m')∧Ch (fun c=>c=b) m m'∧Ow lo m' esz ty s n (setN cs (i*esz+j) v.cells):=by
 rcases h with ⟨_,rfl,_⟩|⟨b,o,cap,gr,bl,gr',rfl,h0,h1,h2,h3,h4,h5,h6⟩
 ·omega
 have hle:i*esz+esz≤n*esz:=by
  rw[←Nat.succ_mul]
  exact Nat.mul_le_mul_right _ hi
 have hle2:n*esz≤cap*esz:=Nat.mul_le_mul_right _ h3
 refine ⟨b,o+i*esz,rfl,fun k=>by simp[iaddrE,hi],fun j v hj hv=>?_⟩
 have hcl:=readN_length h2
 refine ⟨m.set b (.own (setN bl (o+i*esz+j) v.cells) ty gr'),?_,?_,?_⟩
 ·simp only[storeE,if_true,writeB,h1]
  rw[if_pos ⟨by omega,hv⟩]
  rfl
 ·exact Ch.setS _ rfl
 ·refine .inr ⟨b,o,cap,gr,setN bl (o+i*esz+j) v.cells,gr',rfl,h0,?_,?_,h3,by rw[setN_length];exact h4,all_setN h5 hv,h6⟩
  ·rw[List.getElem?_set_self (List.getElem?_eq_some_iff.1 h1).1]
  ·unfold readN
   rw[setN_length,if_pos (by omega)]
   congr 1
   refine List.ext_getElem? fun q=>?_
   rw[setN_get _ _ _ _ (by omega),List.getElem?_take]
   split
   ·rename_i hq
    rw[List.getElem?_drop,setN_get _ _ _ _ (by omega),readN_get h2 hq]
    by_cases hr:i*esz+j≤q∧q<i*esz+j+v.cells.length
    ·rw[if_pos (by omega),if_pos hr]
     congr 1
     omega
    ·rw[if_neg (by omega),if_neg hr]
   ·rename_i hq
    rw[if_neg (by omega)]
    exact (List.getElem?_eq_none (by omega)).symm
theorem Ow.append {lo:Nat} {m:AMem} {esz bytes:Nat} {ty:TypeId} {s:AVal} {n k:Nat} {cs xs:List AVal} (h:Ow lo m esz ty s n cs) (hlo:lo≤m.length) (hl:xs.length=k*esz) (hx:xs.all AVal.one=true) (hb:bytes≠0) (hsz:(n+k)*bytes≤140737488355328):
  ∃s' m',appendE m esz bytes ty s k xs=some (s',m')∧Ch (fun b=>s.blk=some b) m m'∧Ow lo m' esz ty s' (n+k) (cs++xs)∧(∀b,s'.blk=some b→s.blk=some b∨m.length≤b):=by
 have hnew: ∀(m1:AMem) (ys:List AVal) (q:Nat),m1.length=m.length→ys.length=q*esz→ys.all AVal.one=true→Ow lo (m1++ [.own ys ty (some esz)]) esz ty (.slice m.length 0 q q (some esz)) q ys:=by
  intro m1 ys q h1 h2 h3
  refine .inr ⟨_,0,q,some esz,ys,some esz,rfl,hlo,by rw[←h1];simp,?_,Nat.le_refl _,by omega,h3,.inr ⟨rfl,rfl⟩⟩
  unfold readN
  rw[if_pos (by omega),List.drop_zero,List.take_of_length_le (by omega)]
 unfold appendE
 rw[if_neg (by simp only[hx,hb];simp)]
 rcases h with ⟨rfl,rfl,rfl⟩|⟨b,o,cap,gr,bl,gr',rfl,h0,h1,h2,h3,h4,h5,h6⟩
 ·simp only
  by_cases hk:k=0
  ·subst hk
   have:xs= []:=List.eq_nil_of_length_eq_zero (by omega)
   subst this
   exact ⟨_,_,by simp,.refl _ _,.nil,fun b hb=> .inl hb⟩
  ·rw[if_neg hk,if_pos (by rw[Nat.zero_add] at hsz;exact hsz)]
   exact ⟨_,_,rfl,.of_prefix (List.prefix_append _ _),by simpa using hnew m xs k rfl hl hx,fun b hb=> .inr (by simp only[AVal.blk,Option.some.injEq] at hb;omega)⟩
 ·simp only
  have hcl:=readN_length h2
  have hle2:n*esz≤cap*esz:=Nat.mul_le_mul_right _ h3
  have hall:cs.all AVal.one=true:=by
   rw[List.all_eq_true] at h5 ⊢
   intro y hy
   unfold readN at h2
   split at h2
   ·simp only[Option.some.injEq] at h2
    subst h2
    exact h5 y (List.mem_of_mem_drop (List.mem_of_mem_take hy))
   ·simp at h2
  by_cases hk:k=0
  ·subst hk
   have:xs= []:=List.eq_nil_of_length_eq_zero (by omega)
   subst this
   exact ⟨_,_,by simp,.refl _ _,.inr ⟨b,o,cap,gr,bl,gr',rfl,h0,h1,by simpa using h2,h3,h4,h5,h6⟩,fun b hb=> .inl hb⟩
  ·rw[if_neg hk]
   by_cases hc:n+k≤cap
   ·rw[if_pos hc]
    have hle3:(n+k)*esz≤cap*esz:=Nat.mul_le_mul_right _ hc
    rw[Nat.add_mul] at hle3
    refine ⟨.slice b o (n+k) cap gr,m.set b (.own (setN bl (o+n*esz) xs) ty gr'),by simp only[writeB,h1];rw[if_pos ⟨by omega,hx⟩];rfl,Ch.setS _ rfl,?_,fun b hb=> .inl hb⟩
    refine .inr ⟨b,o,cap,gr,_,gr',rfl,h0,List.getElem?_set_self (List.getElem?_eq_some_iff.1 h1).1,?_,hc,by rw[setN_length];exact h4,all_setN h5 hx,h6⟩
    unfold readN
    rw[setN_length,if_pos (by rw[Nat.add_mul];omega)]
    congr 1
    refine List.ext_getElem? fun q=>?_
    rw[List.getElem?_take,Nat.add_mul]
    split
    ·rename_i hq
     rw[List.getElem?_drop,setN_get _ _ _ _ (by omega)]
     by_cases hr:q<n*esz
     ·rw[if_neg (by omega),List.getElem?_append_left (by omega),readN_get h2 hr]
     ·rw[if_pos (by omega),List.getElem?_append_right (by omega)]
      congr 1
      omega
    ·rename_i hq
     exact (List.getElem?_eq_none (by simp;omega)).symm
   ·rw[if_neg hc,if_pos hsz]
    have hsc:sliceCells m esz (.slice b o n cap gr)=some (n,cs):=by
     by_cases hn:n=0
     ·subst hn
      have:cs= []:=List.eq_nil_of_length_eq_zero (by omega)
      simp[sliceCells,this]
     ·simp[sliceCells,hn,readB,h1,ABlk.cells,h2]
    rw[hsc]
    simp only[Option.bind_some]
    rw[if_neg (by simp[hall])]
    have hlen:(cs++xs).length=(n+k)*esz:=by rw[List.length_append,hcl,hl,Nat.add_mul]
    have hal2:(cs++xs).all AVal.one=true:=by rw[List.all_append,hall,hx];rfl
    rcases h6 with rfl|⟨rfl,rfl⟩
    ·exact ⟨_,_,rfl,.of_prefix (List.prefix_append _ _),hnew m _ _ rfl hlen hal2,fun b hb=> .inr (by simp only[AVal.blk,Option.some.injEq] at hb;omega)⟩
    ·simp only[h1]
     rw[if_pos ⟨trivial,trivial,trivial,by omega⟩]
     exact ⟨_,_,rfl,(Ch.setS (S:=fun c=>AVal.blk (.slice b o n cap (some esz))=some c) _ rfl).push _,hnew _ _ _ (by simp) hlen hal2,fun b hb=> .inr (by simp only[AVal.blk,Option.some.injEq] at hb;omega)⟩
end Go.Proofs.YtlniliigcnedmaaGreatDoor.Ax
namespace Go.Proofs.YtlniliigcnedmaaGreatDoor.Ax
open Go
section
variable {P:Program}
theorem ilist_mono {K K':AFrame→AMem→Prop} (hk: ∀a m,K a m→K' a m): ∀{is:List CI} {a:AFrame} {m:AMem},CI.list P K is a m→CI.list P K' is a m
 | [],_,_,h=>hk _ _ h
 |_::_,_,_,h=>istep_mono h fun _ _=>ilist_mono hk
theorem LW_mono {cw:Bool} {ks:Nat→AVal→AMem→Prop} {is:List CI} {av late:Nat→List Nat} {Q Q':AFrame→AMem→Prop} (hq: ∀a m,Q a m→Q' a m): ∀{π:List Nat} {a:AFrame} {fs:Facts} {m0:AMem},LW cw P ks is av late Q π a fs m0→LW cw P ks is av late Q' π a fs m0
 | [],_,_,_,h=>fun m h1 h2=>hq _ _ (h m h1 h2)
 |i::r,a,fs,m0,h=>by
  simp only[LW] at h ⊢
  split at h
  ·exact dstep_mono (fun _ _ _ _=>LW_mono hq) h
  ·exact h
theorem wp_mono: ∀{c:CC} {Q Q':AEx→AFrame→AMem→Prop} {a:AFrame} {m:AMem},c.wp P Q a m→(∀e a m,Q e a m→Q' e a m)→c.wp P Q' a m
 | .skip,_,_,_,_,h,hq=>hq _ _ _ h
 | .reg _,_,_,_,_,h,hq=>ilist_mono (hq .normal) h
 | .draw ..,_,_,_,_,h,hq=>by
  simp only[CC.wp] at h ⊢
  obtain ⟨h1,ks,h2⟩:=h
  exact ⟨h1,ks,LW_mono (hq .normal) h2⟩
 | .draw2 ..,_,_,_,_,h,hq=>by
  simp only[CC.wp] at h ⊢
  obtain ⟨h1,ks,h2,h3⟩:=h
  exact ⟨h1,ks,LW_mono (hq .normal) h2,LW_mono (hq .normal) h3⟩
 | .seq x y,Q,Q',a,m,h,hq=>by
  simp only[CC.wp] at h ⊢
  refine wp_mono (c:=x) h fun e a m h=>?_
  cases e with
  |normal=>exact wp_mono (c:=y) h hq
  |exit id=>exact hq _ _ _ h
  |ret=>exact hq _ _ _ h
 | .cond c x y,Q,Q',a,m,h,hq=>by
  simp only[CC.wp] at h ⊢
  split at h
  ·exact ⟨fun e=>wp_mono (h.1 e) hq,fun e=>wp_mono (h.2 e) hq⟩
  ·exact h
 | .block id x,Q,Q',a,m,h,hq=>by
  simp only[CC.wp] at h ⊢
  refine wp_mono (c:=x) h fun e a m h=>?_
  cases e with
  |normal=>exact hq _ _ _ h
  |exit k=>
   simp only[AEx.inBlock] at h ⊢
   split
   ·rename_i hk;rw[if_pos hk] at h;exact hq _ _ _ h
   ·rename_i hk;rw[if_neg hk] at h;exact hq _ _ _ h
  |ret=>exact hq _ _ _ h
 | .loop x,Q,Q',a,m,h,hq=>by
  simp only[CC.wp] at h ⊢
  obtain ⟨I,h0,hr⟩:=h
  refine ⟨I,h0,fun n a m hI=>wp_mono (c:=x) (hr n a m hI) fun e a m h=>?_⟩
  cases e with
  |normal=>exact h
  |exit id=>exact hq _ _ _ h
  |ret=>exact hq _ _ _ h
 | .exit _,_,_,_,_,h,hq=>hq _ _ _ h
 | .ret,_,_,_,_,h,hq=>hq _ _ _ h
 | .bad,_,_,_,_,h,_=>by simp only[CC.wp] at h
 | .kill _ x,_,_,_,_,h,hq=>by
  simp only[CC.wp] at h ⊢
  exact wp_mono (c:=x) h hq
 | .fin l x,Q,Q',a,m,h,hq=>by
  simp only[CC.wp] at h ⊢
  refine wp_mono (c:=x) h fun e a m h=>?_
  cases e with
  |normal=>exact hq _ _ _ h
  |exit id=>exact hq _ _ _ h
  |ret=>exact hq _ _ _ h
theorem obind_cases {α:Type} {k:α→Prop} {t:Tag k} {o:Option α} (h:obind k t o): ∃x,o=some x∧k x:=by
 have:=h.out
 cases o with
 |none=>exact this.elim
 |some x=>exact ⟨x,rfl,this⟩
def D (cw:Bool) (P:Program) (ks:Nat→AVal→AMem→Prop) (is:List CI) (av late:List (List Nat)) (Q:AFrame→AMem→Prop) (π:List Nat) (_:Tag (is,Q,ks)) (a:AFrame) (fs:Facts) (m:AMem):Prop:=
 LW cw P ks is (fun i=>av.getD i []) (fun i=>late.getD i []) Q π a fs m
variable {cw:Bool} {ks:Nat→AVal→AMem→Prop} {is:List CI} {av late:List (List Nat)} {Q:AFrame→AMem→Prop} {π:List Nat} {a:AFrame} {fs:Facts} {m:AMem}
theorem W_draw {Q:AEx→AFrame→AMem→Prop} {t:Tag (CC.draw cw is av late π,Q)} (ks:Nat→AVal→AMem→Prop) (hm:maxDst is≤a.length) (h:D cw P ks is av late (Q .normal) π .mk a noFacts m):W P (.draw cw is av late π) Q t a m:=⟨⟨hm,ks,h⟩⟩
theorem W_draw2 {Q:AEx→AFrame→AMem→Prop} {π2:List Nat} {t:Tag (CC.draw2 cw is av late π π2,Q)} (ks:Nat→AVal→AMem→Prop) (hm:maxDst is≤a.length) (h:D cw P ks is av late (Q .normal) π .mk a noFacts m) (h2:D cw P ks is av late (Q .normal) π2 .mk a noFacts m):W P (.draw2 cw is av late π π2) Q t a m:=⟨⟨hm,ks,h,h2⟩⟩
theorem D_end {t:Tag (is,Q,ks)} (h: ∀m',m<+:m'→(∀j,fs j m')→Q a m'):D cw P ks is av late Q [] t a fs m:=h
def gOK (a:AFrame):Option (Nat×Bool)→Prop
 |none=>True
 |some (t,w)=>gOf (a.ev (.t t)) w=some true
theorem spec_guard {kf:AVal→AMem→Prop} {i:CI} {m:AMem} {pf:AMem→Prop} (h:gOK a i.guard):i.spec P kf m pf a=i.op.spec P kf m pf a:=by
 unfold CI.spec
 cases hg:i.guard with
 |none=>rfl
 |some p=>
  obtain ⟨t,w⟩:=p
  rw[hg] at h
  simp only[gOK] at h
  simp only[h]
theorem D_P {t:Tag (is,Q,ks)} {i:Nat} {d:Option Nat} {p:POp} {g:Option (Nat×Bool)} (hi:is[i]? =some ⟨d,.P p,g⟩) (hg:gOK a g) (h:obind (fun x=>D cw P ks is av late Q π .mk (a.putO d x) (upd fs i fun _=>True) m) .mk (p.ev a)):D cw P ks is av late Q (i::π) t a fs m:=by
 unfold D
 simp only[LW,hi,dstep,COp.isW,Bool.false_eq_true,if_false]
 rw[spec_guard (i:=⟨d,.P p,g⟩) hg]
 simp only[COp.spec]
 obtain ⟨x,he,h⟩:=obind_cases h
 rw[he]
 exact ⟨⟨x,rfl⟩,fun y hy=>by cases hy;exact h⟩
theorem D_R {t:Tag (is,Q,ks)} {i:Nat} {d:Option Nat} {p:ROp} {g:Option (Nat×Bool)} (hi:is[i]? =some ⟨d,.R p,g⟩) (hg:gOK a g) (hs: ∃m',m<+:m'∧pfacts (av.getD i []) fs m') (h:obind (fun x=>D cw P ks is av late Q π .mk (a.putO d x) (upd fs i fun _=>True) m) .mk (p.ev a m)):D cw P ks is av late Q (i::π) t a fs m:=by
 unfold D
 simp only[LW,hi,dstep,COp.isW,Bool.false_eq_true,if_false]
 rw[spec_guard (i:=⟨d,.R p,g⟩) hg]
 simp only[COp.spec]
 obtain ⟨x,he,h⟩:=obind_cases h
 refine ⟨⟨x,fun m' hm _=>ROp.ev_mono hm he⟩,fun y hy=>?_⟩
 obtain ⟨m',h1,h2⟩:=hs
 have:=(hy m' h1 h2).symm.trans (ROp.ev_mono h1 he)
 simp only[Option.some.injEq] at this
 subst this
 exact h
theorem D_An {t:Tag (is,Q,ks)} {i:Nat} {d:Option Nat} {p:AOp} {g:Option (Nat×Bool)} (hi:is[i]? =some ⟨d,.A p,g⟩) (hg:gOK a g) (h:obind (fun c=> ∀b,m.length≤b→D cw P ks is av late Q π .mk (a.putO d (c.2.2 b)) (upd fs i fun m=> ∃b',c.2.2 b=c.2.2 b'∧m[b']? =some (.own c.1 c.2.1 none)) m) .mk (p.ev a)):D cw P ks is av late Q (i::π) t a fs m:=by
 unfold D
 simp only[LW,hi,dstep,COp.isW,Bool.false_eq_true,if_false]
 rw[spec_guard (i:=⟨d,.A p,g⟩) hg]
 simp only[COp.spec]
 obtain ⟨c,he,h⟩:=obind_cases h
 rw[he]
 refine ⟨⟨c,rfl⟩,fun y hy=>?_⟩
 obtain ⟨c',b,h1,hb,rfl⟩:=hy
 simp only[Option.some.injEq] at h1
 subst h1
 have:=h b hb
 simp only[Option.some.injEq,exists_and_left,exists_eq_left']
 exact this
theorem D_A {t:Tag (is,Q,ks)} {i:Nat} {d:Option Nat} {p:AOp} {g:Option (Nat×Bool)} (hi:is[i]? =some ⟨d,.A p,g⟩) (hg:gOK a g) (h:obind (fun c=> ∀b,D cw P ks is av late Q π .mk (a.putO d (c.2.2 b)) (upd fs i fun m=> ∃b',c.2.2 b=c.2.2 b'∧m[b']? =some (.own c.1 c.2.1 none)) m) .mk (p.ev a)):D cw P ks is av late Q (i::π) t a fs m:=by
 obtain ⟨c,he,h⟩:=obind_cases h
 refine D_An hi hg ?_
 rw[he]
 exact ⟨fun b _=>h b⟩
theorem D_X {t:Tag (is,Q,ks)} {i:Nat} {d:Option Nat} {o:COp} (hi:is[i]? =some ⟨d,o,none⟩) (hw:o.isW cw=true)
  (h: ∀m',m<+:m'→(∀j,fs j m')→S P (fun x m''=>(∀p∈lateOf is (late.getD i []),p.1.ev (a.putO d x) m''=some ((a.putO d x).ev (.t p.2)))∧D cw P ks is av late Q π .mk (a.putO d x) noFacts m'') o .mk a m'):D cw P ks is av late Q (i::π) t a fs m:=by
 unfold D
 simp only[LW,hi,dstep,hw,if_true]
 exact fun m' h1 h2=>(h m' h1 h2).out
theorem D_Xg {t:Tag (is,Q,ks)} {i:Nat} {d:Option Nat} {o:COp} {n:Nat} {w b:Bool} (hi:is[i]? =some ⟨d,o,some (n,w)⟩) (hw:o.isW cw=true) (hb:a.ev (.t n)= .bool b)
  (h1:b=w→ ∀m',m<+:m'→(∀j,fs j m')→S P (fun x m''=>(∀p∈lateOf is (late.getD i []),p.1.ev (a.putO d x) m''=some ((a.putO d x).ev (.t p.2)))∧D cw P ks is av late Q π .mk (a.putO d x) noFacts m'') o .mk a m')
  (h2:b≠w→ ∀m',m<+:m'→(∀j,fs j m')→(∀p∈lateOf is (late.getD i []),p.1.ev (a.putO d (.tuple [])) m'=some ((a.putO d (.tuple [])).ev (.t p.2)))∧D cw P ks is av late Q π .mk (a.putO d (.tuple [])) noFacts m'):D cw P ks is av late Q (i::π) t a fs m:=by
 unfold D
 simp only[LW,hi,dstep,hw,if_true]
 intro m' k1 k2
 simp only[CI.step,hb,gOf_bool]
 by_cases hbw:b=w
 ·subst hbw
  simp only[beq_self_eq_true]
  exact (h1 rfl m' k1 k2).out
 ·have:(b==w)=false:=by simpa using hbw
  simp only[this]
  exact h2 hbw m' k1 k2
theorem D_C {t:Tag (is,Q,ks)} {i:Nat} {d:Option Nat} {f:Arg} {xs:List Arg} {g:Option (Nat×Bool)} (hi:is[i]? =some ⟨d,.C f xs,g⟩) (hg:gOK a g) {fn:FuncId} {fs' cs:List AVal} (hf:a.ev f= .func (.func fn) fs' cs)
  (hc: ∀m',m<+:m'→pfacts (av.getD i []) fs m'→ACalls P fn (fs'++xs.map a.ev++cs) m' fun v m''=>m'<+:m''∧ks i v m'')
  (hne: ∃v m',m<+:m'∧ks i v m') (hst: ∀v m m',m<+:m'→ks i v m→ks i v m')
  (h: ∀v m',m<+:m'→ks i v m'→D false P ks is av late Q π .mk (a.putO d v) (upd fs i (ks i v)) m):D false P ks is av late Q (i::π) t a fs m:=by
 unfold D
 simp only[LW,hi,dstep,COp.isW,Bool.false_eq_true,if_false]
 rw[spec_guard (i:=⟨d,.C f xs,g⟩) hg]
 simp only[COp.spec]
 exact ⟨⟨⟨fn,fs',cs,hf,hc⟩,hne,hst⟩,fun v ⟨m',h1,h2⟩=>h v m' h1 h2⟩
theorem D_Cv {t:Tag (is,Q,ks)} {i:Nat} {d:Option Nat} {f:Arg} {xs:List Arg} {g:Option (Nat×Bool)} (x:AVal) (hi:is[i]? =some ⟨d,.C f xs,g⟩) (hg:gOK a g) (hk:ks i=fun v _=>v=x) {fn:FuncId} {fs' cs:List AVal} (hf:a.ev f= .func (.func fn) fs' cs)
  (hc: ∀m',m<+:m'→pfacts (av.getD i []) fs m'→ACalls P fn (fs'++xs.map a.ev++cs) m' fun v m''=>m'<+:m''∧v=x)
  (h:D false P ks is av late Q π .mk (a.putO d x) (upd fs i fun _=>True) m):D false P ks is av late Q (i::π) t a fs m:=by
 refine D_C hi hg hf (fun m' h1 h2=>(hc m' h1 h2).mono fun v m'' h=>⟨h.1,by rw[hk];exact h.2⟩) ⟨x,m,List.prefix_refl _,by rw[hk]⟩ (fun v m m' _ h=>by rw[hk] at h ⊢;exact h) fun v m' _ hv=>?_
 rw[hk] at hv
 subst hv
 rw[hk]
 simpa using h
theorem D_skip {t:Tag (is,Q,ks)} {i:Nat} {d:Option Nat} {o:COp} {n:Nat} {w:Bool} (hi:is[i]? =some ⟨d,o,some (n,w)⟩) (hw:o.isW cw=false) (hg:gOf (a.ev (.t n)) w=some false) (h:D cw P ks is av late Q π .mk (a.putO d (.tuple [])) (upd fs i fun _=>True) m):D cw P ks is av late Q (i::π) t a fs m:=by
 unfold D
 simp only[LW,hi,dstep,hw,Bool.false_eq_true,if_false]
 have:CI.spec P (ks i) ⟨d,o,some (n,w)⟩ m (pfacts (av.getD i []) fs) a=⟨True,fun x=>x= .tuple [],fun _ _=>True⟩:=by
  unfold CI.spec
  simp only[hg]
 rw[this]
 exact ⟨trivial,fun x hx=>by subst hx;exact h⟩
theorem D_W {t:Tag (is,Q,ks)} {i:Nat} {d:Option Nat} {p:WOp} (hi:is[i]? =some ⟨d,.W p,none⟩) (hl:late.getD i []= []) (h: ∀m',m<+:m'→(∀j,fs j m')→obind (fun x=>D cw P ks is av late Q π .mk (a.putO d x.1) noFacts x.2) .mk (p.ev a m')):D cw P ks is av late Q (i::π) t a fs m:=by
 refine D_X hi rfl fun m' h1 h2=>?_
 obtain ⟨x,he,h⟩:=obind_cases (h m' h1 h2)
 refine ⟨?_⟩
 simp only[COp.step,he,hl]
 exact ⟨fun p hp=>by simp[lateOf] at hp,h⟩
end
def COp.isPR:COp→Bool
 | .P _| .R _=>true
 |_=>false
section
variable {cw:Bool} {P:Program} {ks:Nat→AVal→AMem→Prop} {is:List CI} {av late:List (List Nat)} {Q:AFrame→AMem→Prop}
theorem D_list: ∀(l:List CI) (i:Nat),is.drop i=l→(∀c∈l,c.op.isPR=true)→ ∀(fs:Facts) (t:Tag (is,Q,ks)) (a:AFrame) (m:AMem),(∀j m',fs j m')→CI.list P (fun a m'=> ∀m'',m'<+:m''→Q a m'') l a m→D cw P ks is av late Q (List.range' i l.length) t a fs m
 | [],i,_,_,fs,t,a,m,_,h=>D_end fun m' hm _=>h m' hm
 |c::l,i,hd,hpr,fs,t,a,m,hfs,h=>by
  have hi:is[i]? =some c:=by
   have:=congrArg (·[0]?) hd
   simpa using this
  have hd':is.drop (i+1)=l:=by rw[←List.drop_drop,hd];rfl
  have ih:=fun a fs (hfs: ∀j m',fs j m')=>D_list l (i+1) hd' (fun c hc=>hpr c (List.mem_cons_of_mem _ hc)) fs t a m hfs
  have hup: ∀j m',upd fs i (fun _=>True) j m':=fun j m'=>by
   unfold upd
   split
   ·trivial
   ·exact hfs j m'
  have hc:=hpr c List.mem_cons_self
  obtain ⟨d,o,g⟩:=c
  simp only[List.length_cons,List.range'_succ]
  simp only[CI.list,CI.step] at h
  have core:gOK a g→COp.step P (fun x m'=>CI.list P (fun a m'=> ∀m'',m'<+:m''→Q a m'') l (a.putO d x) m') a m o→D cw P ks is av late Q (i::List.range' (i+1) l.length) t a fs m:=by
   intro hg h
   cases o with
   |P p=>
    refine D_P hi hg ?_
    simp only[COp.step] at h
    split at h
    ·rename_i x hx
     rw[hx,obind_some]
     exact ih _ _ hup h
    ·exact h.elim
   |R p=>
    refine D_R hi hg ⟨m,List.prefix_refl _,fun j _=>hfs j m⟩ ?_
    simp only[COp.step] at h
    split at h
    ·rename_i x hx
     rw[hx,obind_some]
     exact ih _ _ hup h
    ·exact h.elim
   |A x=>cases hc
   |W x=>cases hc
   |C f xs=>cases hc
  cases g with
  |none=>exact core trivial h
  |some p=>
   obtain ⟨n,w⟩:=p
   simp only at h
   cases hb:gOf (a.ev (.t n)) w with
   |none=>rw[hb] at h;exact h.elim
   |some b=>
    rw[hb] at h
    cases b with
    |true=>exact core hb h
    |false=>
     refine D_skip hi ?_ hb (ih _ _ hup h)
     cases o<;>first|rfl|cases hc
theorem W_drawPR {Q:AEx→AFrame→AMem→Prop} {π:List Nat} {t:Tag (CC.draw cw is av late π,Q)} {a:AFrame} {m:AMem} (hm:maxDst is≤a.length) (hpr:(is.all fun c=>c.op.isPR)=true) (hπ:π=List.range' 0 is.length) (h:L P (fun a m'=> ∀m'',m'<+:m''→Q .normal a m'') is .mk a m):W P (.draw cw is av late π) Q t a m:=by
 subst hπ
 exact W_draw (fun _ _ _=>True) hm (D_list is 0 rfl (fun c hc=>List.all_eq_true.1 hpr c hc) _ _ _ _ (fun _ _=>trivial) h.out)
end
structure Md where
 kind:Int
 size:Int
 elems:List Int
 names:List ByteArray
 dims:Int
 flex:Bool
def RMode (m:AMem) (cs:List AVal) (x:Md):Prop:= ∃e nm,cs= [.int .i64 x.kind,.int .i64 x.size,e,nm,.int .i64 x.dims,.bool x.flex]∧RInts m e x.elems∧RStrs m nm x.names
theorem RMode.mono {m m':AMem} {cs:List AVal} {x:Md} (h:RMode m cs x) (hm:m<+:m'):RMode m' cs x:=by
 obtain ⟨e,nm,h1,h2,h3⟩:=h
 exact ⟨e,nm,h1,h2.mono hm,h3.mono hm⟩
def RTab (m:AMem) (s:AVal) (l:List Md):Prop:= ∃cs,Sl m 6 s l.length cs∧ ∀(i:Nat) x,l[i]? =some x→RMode m ((cs.drop (i*6)).take 6) x
theorem RTab.mono {m m':AMem} {s:AVal} {l:List Md} (h:RTab m s l) (hm:m<+:m'):RTab m' s l:=by
 obtain ⟨cs,h1,h2⟩:=h
 exact ⟨cs,h1.mono hm,fun i x hx=>(h2 i x hx).mono hm⟩
theorem RTab.len {m:AMem} {s:AVal} {l:List Md} (h:RTab m s l):lenE s=some (.int .i64 l.length):=by
 obtain ⟨cs,h1,_⟩:=h
 exact h1.len
theorem RTab.at {m:AMem} {s:AVal} {l:List Md} (h:RTab m s l) {i:Nat} (hi:i<l.length): ∃b o e nm,(∀k,iaddrE 6 s (.int k i)=some (.ptr b o))∧
  loadE m 6 true (.ptr b o)=some (.agg [.int .i64 l[i].kind,.int .i64 l[i].size,e,nm,.int .i64 l[i].dims,.bool l[i].flex])∧
  loadE m 1 false (.ptr b o)=some (.int .i64 l[i].kind)∧loadE m 1 false (.ptr b (o+1))=some (.int .i64 l[i].size)∧loadE m 1 false (.ptr b (o+2))=some e∧loadE m 1 false (.ptr b (o+3))=some nm∧loadE m 1 false (.ptr b (o+4))=some (.int .i64 l[i].dims)∧loadE m 1 false (.ptr b (o+5))=some (.bool l[i].flex)∧
  RInts m e l[i].elems∧RStrs m nm l[i].names:=by
 obtain ⟨cs,h1,h2⟩:=h
 obtain ⟨b,o,h3,h4,h5⟩:=h1.at hi
 obtain ⟨e,nm,h6,h7,h8⟩:=h2 i _ (List.getElem?_eq_getElem hi)
 have hc: ∀j,j<6→cs[i*6+j]? = [.int .i64 l[i].kind,.int .i64 l[i].size,e,nm,.int .i64 l[i].dims,.bool l[i].flex][j]? :=fun j hj=>by
  rw[←h6,List.getElem?_take,if_pos hj,List.getElem?_drop]
 refine ⟨b,o,e,nm,h3,by rw[h5,h6],?_,?_,?_,?_,?_,?_,h7,h8⟩
 ·have:=h4 0 (by omega);rw[hc 0 (by omega)] at this;exact this
 ·have:=h4 1 (by omega);rw[hc 1 (by omega)] at this;exact this
 ·have:=h4 2 (by omega);rw[hc 2 (by omega)] at this;exact this
 ·have:=h4 3 (by omega);rw[hc 3 (by omega)] at this;exact this
 ·have:=h4 4 (by omega);rw[hc 4 (by omega)] at this;exact this
 ·have:=h4 5 (by omega);rw[hc 5 (by omega)] at this;exact this
end Go.Proofs.YtlniliigcnedmaaGreatDoor.Ax
namespace Go.Proofs.YtlniliigcnedmaaGreatDoor.Ax
open Go
variable {P:Program}
@[simp] theorem readN_all (a b c d e f:AVal):readN [a,b,c,d,e,f] 0 6=some [a,b,c,d,e,f]:=rfl
theorem bx {m:AMem} {b:Nat} {cs:List AVal} (h:readB m b=some cs) (i:Nat):loadE m 1 false (.ptr b i)=cs[i]? :=by simp[loadE,h]
theorem bxW {m:AMem} {b:Nat} {cs:List AVal} (h:readB m b=some cs) (n:Nat):loadE m n true (.ptr b 0)=(readN cs 0 n).map .agg:=by simp[loadE,h]
theorem beqF {x y:Int} (h: ¬x=y):(x==y)=false:=by simpa using h
theorem bneT {x y:Int} (h: ¬x=y):(x !=y)=true:=by simpa using h
theorem gP_T {k:AVal→Prop} {t:Tag k} {b:Bool} {o:Option AVal} (hx:b=true→obind k .mk o) (hy:b=false→k (.tuple [])):gP k t true (.bool b) o:=by
 cases b
 ·exact ⟨hy rfl⟩
 ·exact ⟨(hx rfl)⟩
theorem W_mono {x:CC} {Q Q':AEx→AFrame→AMem→Prop} {t:Tag (x,Q)} {t':Tag (x,Q')} {a:AFrame} {m:AMem} (hq: ∀e a m,Q' e a m→Q e a m) (h:W P x Q' t' a m):W P x Q t a m:=⟨wp_mono (c:=x) h.out hq⟩
theorem bbind_mono {X Y X' Y':Prop} {t:Tag (X,Y)} {t':Tag (X',Y')} {v:AVal} (hx:X'→X) (hy:Y'→Y) (h:bbind X' Y' t' v):bbind X Y t v:=by
 have h:=h.out
 refine ⟨?_⟩
 cases v with
 |bool b=>exact ⟨fun e=>hx (h.1 e),fun e=>hy (h.2 e)⟩
 |_=>exact h
theorem bbind_J {x y:CC} {next:AFrame→AMem→Prop} {Q:AEx→AFrame→AMem→Prop} {t1:Tag (x,AEx.then next Q)} {t2:Tag (y,AEx.then next Q)} {a a':AFrame} {m m':AMem} {t} {v:AVal} (J:AFrame→AMem→Prop)
  (h1:bbind (W P x (AEx.then J Q) .mk a m) (W P y (AEx.then J Q) .mk a' m') .mk v) (h2: ∀a m,J a m→next a m):bbind (W P x (AEx.then next Q) t1 a m) (W P y (AEx.then next Q) t2 a' m') t v:=by
 have hq: ∀e a m,AEx.then J Q e a m→AEx.then next Q e a m:=fun e a m h=>by cases e<;>first|exact h2 _ _ h|exact h
 exact bbind_mono (W_mono hq) (W_mono hq) h1
theorem bbind_JB {k:Nat} {x y:CC} {next:AFrame→AMem→Prop} {Q:AEx→AFrame→AMem→Prop} {t1:Tag (x,AEx.inBlock k (AEx.then next Q))} {t2:Tag (y,AEx.inBlock k (AEx.then next Q))} {a a':AFrame} {m m':AMem} {t} {v:AVal} (J:AFrame→AMem→Prop)
  (h1:bbind (W P x (AEx.inBlock k (AEx.then J Q)) .mk a m) (W P y (AEx.inBlock k (AEx.then J Q)) .mk a' m') .mk v) (h2: ∀a m,J a m→next a m):bbind (W P x (AEx.inBlock k (AEx.then next Q)) t1 a m) (W P y (AEx.inBlock k (AEx.then next Q)) t2 a' m') t v:=by
 have hq: ∀e a m,AEx.inBlock k (AEx.then J Q) e a m→AEx.inBlock k (AEx.then next Q) e a m:=fun e a m h=>by
  cases e with
  |normal=>exact h2 _ _ h
  |exit i=>
   simp only[AEx.inBlock] at h ⊢
   split
   ·rename_i hi;rw[if_pos hi] at h;exact h2 _ _ h
   ·rename_i hi;rw[if_neg hi] at h;exact h
  |ret=>exact h
 exact bbind_mono (W_mono hq) (W_mono hq) h1
theorem W_J {x:CC} {next:AFrame→AMem→Prop} {Q:AEx→AFrame→AMem→Prop} {t:Tag (x,AEx.then next Q)} {a:AFrame} {m:AMem} (J:AFrame→AMem→Prop)
  (h1:W P x (AEx.then J Q) .mk a m) (h2: ∀a m,J a m→next a m):W P x (AEx.then next Q) t a m:=by
 have hq: ∀e a m,AEx.then J Q e a m→AEx.then next Q e a m:=fun e a m h=>by cases e<;>first|exact h2 _ _ h|exact h
 exact W_mono hq h1
theorem W_JB {k:Nat} {x:CC} {next:AFrame→AMem→Prop} {Q:AEx→AFrame→AMem→Prop} {t:Tag (x,AEx.inBlock k (AEx.then next Q))} {a:AFrame} {m:AMem} (J:AFrame→AMem→Prop)
  (h1:W P x (AEx.inBlock k (AEx.then J Q)) .mk a m) (h2: ∀a m,J a m→next a m):W P x (AEx.inBlock k (AEx.then next Q)) t a m:=by
 have hq: ∀e a m,AEx.inBlock k (AEx.then J Q) e a m→AEx.inBlock k (AEx.then next Q) e a m:=fun e a m h=>by
  cases e with
  |normal=>exact h2 _ _ h
  |exit i=>
   simp only[AEx.inBlock] at h ⊢
   split
   ·rename_i hi;rw[if_pos hi] at h;exact h2 _ _ h
   ·rename_i hi;rw[if_neg hi] at h;exact h
  |ret=>exact h
 exact W_mono hq h1
section
variable {cw:Bool} {ks:Nat→AVal→AMem→Prop} {is:List CI} {av late:List (List Nat)} {Q:AFrame→AMem→Prop}
theorem D_pre': ∀(l:List CI) (i:Nat) (rest:List Nat),(is.drop i).take l.length=l→(∀c∈l,c.op.isPR=true)→ ∀(fs:Facts) (t:Tag (is,Q,ks)) (a:AFrame) (m:AMem),(∀j m',fs j m')→CI.list P (fun a m'=> ∀fs':Facts,(∀j m',fs' j m')→D cw P ks is av late Q rest .mk a fs' m') l a m→D cw P ks is av late Q (List.range' i l.length++rest) t a fs m
 | [],i,rest,_,_,fs,t,a,m,hfs,h=>h fs hfs
 |c::l,i,rest,hd,hpr,fs,t,a,m,hfs,h=>by
  have hi:is[i]? =some c:=by
   have:=congrArg (·[0]?) hd
   simpa using this
  have hd':(is.drop (i+1)).take l.length=l:=by
   have:=congrArg (·.drop 1) hd
   rw[←List.drop_drop]
   simpa[List.drop_take] using this
  have ih:=fun a fs (hfs: ∀j m',fs j m')=>D_pre' l (i+1) rest hd' (fun c hc=>hpr c (List.mem_cons_of_mem _ hc)) fs t a m hfs
  have hup: ∀j m',upd fs i (fun _=>True) j m':=fun j m'=>by
   unfold upd
   split
   ·trivial
   ·exact hfs j m'
  have hc:=hpr c List.mem_cons_self
  obtain ⟨d,o,g⟩:=c
  simp only[List.length_cons,List.range'_succ,List.cons_append]
  simp only[CI.list,CI.step] at h
  have core:gOK a g→COp.step P (fun x m'=>CI.list P (fun a m'=> ∀fs':Facts,(∀j m',fs' j m')→D cw P ks is av late Q rest .mk a fs' m') l (a.putO d x) m') a m o→D cw P ks is av late Q (i::(List.range' (i+1) l.length++rest)) t a fs m:=by
   intro hg h
   cases o with
   |P p=>
    refine D_P hi hg ?_
    simp only[COp.step] at h
    split at h
    ·rename_i x hx
     rw[hx,obind_some]
     exact ih _ _ hup h
    ·exact h.elim
   |R p=>
    refine D_R hi hg ⟨m,List.prefix_refl _,fun j _=>hfs j m⟩ ?_
    simp only[COp.step] at h
    split at h
    ·rename_i x hx
     rw[hx,obind_some]
     exact ih _ _ hup h
    ·exact h.elim
   |A x=>cases hc
   |W x=>cases hc
   |C f xs=>cases hc
  cases g with
  |none=>exact core trivial h
  |some p=>
   obtain ⟨n,w⟩:=p
   simp only at h
   cases hb:gOf (a.ev (.t n)) w with
   |none=>rw[hb] at h;exact h.elim
   |some b=>
    rw[hb] at h
    cases b with
    |true=>exact core hb h
    |false=>
     refine D_skip hi ?_ hb (ih _ _ hup h)
     cases o<;>first|rfl|cases hc
theorem D_pre {π:List Nat} {fs:Facts} {t:Tag (is,Q,ks)} {a:AFrame} {m:AMem} (i n:Nat) (rest:List Nat) {l:List CI} (hl:(is.drop i).take n=l) (hπ:π=List.range' i ((is.drop i).take n).length++rest) (hpr:(((is.drop i).take n).all fun c=>c.op.isPR)=true) (hfs: ∀j m',fs j m')
  (h:L P (fun a m'=> ∀fs':Facts,(∀j m',fs' j m')→D cw P ks is av late Q rest .mk a fs' m') l .mk a m):D cw P ks is av late Q π t a fs m:=by
 subst hπ hl
 refine D_pre' _ i rest ?_ (fun c hc=>List.all_eq_true.1 hpr c hc) fs t a m hfs h.out
 rw[List.length_take,List.length_drop,List.take_eq_take_iff,List.length_drop]
 omega
theorem D_pc {π:List Nat} {fs:Facts} {t:Tag (is,Q,ks)} {a:AFrame} {m:AMem} (i n:Nat) (rest:List Nat) {l:List CI}
  (h:L P (fun a m'=> ∀fs':Facts,(∀j m',fs' j m')→D cw P ks is av late Q rest .mk a fs' m') l .mk a m)
  (hl:(is.drop i).take n=l:=by simp only[List.drop_zero,List.drop_succ_cons,List.take_succ_cons,List.take_zero];rfl) (hπ:π=List.range' i ((is.drop i).take n).length++rest:=by rfl) (hpr:(((is.drop i).take n).all fun c=>c.op.isPR)=true:=by rfl) (hfs: ∀j m',fs j m':=by exact fun _ _=>trivial):D cw P ks is av late Q π t a fs m:=D_pre i n rest hl hπ hpr hfs h
end
end Go.Proofs.YtlniliigcnedmaaGreatDoor.Ax
namespace Go.Proofs.YtlniliigcnedmaaGreatDoor.Ax
open Go
@[simp] theorem one_func (f:Fn) (fs cs:List AVal):(AVal.func f fs cs).one=true:=rfl
@[simp] theorem cells_func (f:Fn) (fs cs:List AVal):(AVal.func f fs cs).cells= [.func f fs cs]:=rfl
@[simp] theorem one_nilfunc:AVal.nilfunc.one=true:=rfl
@[simp] theorem cells_nilfunc:AVal.nilfunc.cells= [.nilfunc]:=rfl
def bdE (x:Option AVal) (d:Nat):Option Nat:=match x with
 |none=>some d
 |some (.int _ n)=>if 0≤n then some n.toNat else none
 |_=>none
def sliceE (esz:Nat) (v:AVal) (lo hi:Option AVal):Option AVal:=match v,bdE lo 0 with
 | .nilslice,some l=>(bdE hi 0).bind fun h=>evSlice esz .nilslice l h none
 | .slice b o n k ex,some l=>(bdE hi n).bind fun h=>evSlice esz (.slice b o n k ex) l h none
 |_,_=>none
theorem bnd_eq (a:AFrame) (x:Option Arg) (d:Nat):bnd a x d=bdE (x.map a.ev) d:=by
 cases x with
 |none=>rfl
 |some x=>
  simp only[bnd,bdE,Option.map_some]
  cases a.ev x<;>rfl
@[simp] theorem ev_slice (a:AFrame) (esz:Nat) (x:Arg) (lo hi:Option Arg):POp.ev a (.slice esz x lo hi none)=sliceE esz (a.ev x) (lo.map a.ev) (hi.map a.ev):=by
 simp only[POp.ev,sliceE,bnd_eq]
 cases a.ev x<;>cases bdE (lo.map a.ev) 0<;>rfl
theorem Sl.take {m:AMem} {esz:Nat} {s:AVal} {n:Nat} {cs:List AVal} (h:Sl m esz s n cs) {i:Nat} (hi:i≤n): ∃s',(∀k,sliceE esz s none (some (.int k i))=some s')∧Sl m esz s' i (cs.take (i*esz)):=by
 rcases h with ⟨rfl,rfl,rfl⟩|⟨b,o,cap,gr,rfl,⟨hc,hgr⟩,h⟩
 ·obtain rfl:i=0:=by omega
  exact ⟨.nilslice,fun k=>by simp[sliceE,bdE,evSlice],by simpa using Sl.nil⟩
 ·have hcg:i≤cap∧(gr=none∨gr=some esz):=⟨by omega,hgr⟩
  refine ⟨.slice b o i cap gr,fun k=>by simp only[sliceE,bdE,evSlice];simp;exact ⟨by omega,by rcases hgr with h|h<;>simp[h]⟩,?_⟩
  rcases h with ⟨rfl,rfl⟩|⟨h1,bl,h2,h3⟩
  ·obtain rfl:i=0:=by omega
   exact .inr ⟨b,o,cap,gr,rfl,hcg,.inl ⟨rfl,by simp⟩⟩
  ·by_cases h0:i=0
   ·subst h0;exact .inr ⟨b,o,cap,gr,rfl,hcg,.inl ⟨rfl,by simp⟩⟩
   ·refine .inr ⟨b,o,cap,gr,rfl,hcg,.inr ⟨h0,bl,h2,?_⟩⟩
    have:=readN_sub h3 (i:=0) (k:=i*esz) (by rw[Nat.zero_add];exact Nat.mul_le_mul_right _ hi)
    simpa using this
theorem Ow.take {lo:Nat} {m:AMem} {esz:Nat} {ty:TypeId} {s:AVal} {n:Nat} {cs:List AVal} (h:Ow lo m esz ty s n cs) {i:Nat} (hi:i≤n): ∃s',(∀k,sliceE esz s none (some (.int k i))=some s')∧Ow lo m esz ty s' i (cs.take (i*esz))∧s'.blk=s.blk:=by
 rcases h with ⟨rfl,rfl,rfl⟩|⟨b,o,cap,gr,bl,gr',rfl,h1,h2,h3,h4,h5,h6,h7⟩
 ·obtain rfl:i=0:=by omega
  exact ⟨.nilslice,fun k=>by simp[sliceE,bdE,evSlice],by simpa using Ow.nil,rfl⟩
 ·refine ⟨.slice b o i cap gr,fun k=>by simp only[sliceE,bdE,evSlice];simp;exact ⟨by omega,by rcases h7 with h|h<;>simp[h]⟩,.inr ⟨b,o,cap,gr,bl,gr',rfl,h1,h2,?_,by omega,h5,h6,h7⟩,rfl⟩
  have:=readN_sub h3 (i:=0) (k:=i*esz) (by rw[Nat.zero_add];exact Nat.mul_le_mul_right _ hi)
  simpa using this
theorem Ow.drop {lo:Nat} {m:AMem} {esz:Nat} {ty:TypeId} {s:AVal} {n:Nat} {cs:List AVal} (h:Ow lo m esz ty s n cs) {i:Nat} (hi:i≤n): ∃s',(∀k,sliceE esz s (some (.int k i)) none=some s')∧Ow lo m esz ty s' (n-i) (cs.drop (i*esz))∧s'.blk=s.blk:=by
 rcases h with ⟨rfl,rfl,rfl⟩|⟨b,o,cap,gr,bl,gr',rfl,h1,h2,h3,h4,h5,h6,h7⟩
 ·obtain rfl:i=0:=by omega
  exact ⟨.nilslice,fun k=>by simp[sliceE,bdE,evSlice],by simpa using Ow.nil,rfl⟩
 ·refine ⟨.slice b (o+i*esz) (n-i) (cap-i) gr,fun k=>by simp only[sliceE,bdE,evSlice];simp;exact ⟨by omega,h4,by rcases h7 with h|h<;>simp[h]⟩,.inr ⟨b,o+i*esz,cap-i,gr,bl,gr',rfl,h1,h2,?_,by omega,?_,h6,h7⟩,rfl⟩
  ·have hs:i*esz+(n-i)*esz=n*esz:=by rw[←Nat.add_mul];congr 1;omega
   have:=readN_sub h3 (i:=i*esz) (k:=(n-i)*esz) (by omega)
   rw[this,List.take_of_length_le]
   rw[List.length_drop,readN_length h3];omega
  ·have hs:i*esz+(cap-i)*esz=cap*esz:=by rw[←Nat.add_mul];congr 1;omega
   omega
theorem pred64 {n:Nat} (h:0<n) (hn:n<2^62):IntKind.i64.wrap ((n:Int)-1)=((n-1:Nat):Int):=by rw[wrap64 (by omega) (by omega)];omega
theorem store_new (m:AMem) (z cs:List AVal) (ty:TypeId) (g:Option Nat) (n:Nat) (h1:cs.length=n) (h2:z.length=n) (h3:cs.all AVal.one=true):storeE (m++ [.own z ty g]) n (.ptr m.length 0) (.agg cs)=some (.undef,m++ [.own cs ty g]):=by
 have hs: ∀(ys xs:List AVal),ys.length=xs.length→setN ys 0 xs=xs:=by
  intro ys xs h
  refine List.ext_getElem? fun i=>?_
  rw[setN_get _ _ _ _ (by omega)]
  split
  ·simp
  ·rename_i hi
   rw[List.getElem?_eq_none (by omega),List.getElem?_eq_none (by omega)]
 simp only[storeE,cells_agg,h1,if_true,writeB]
 rw[List.getElem?_append_right (Nat.le_refl _)]
 simp[h3,hs z cs (by omega),h1,h2]
theorem store_new1 (m:AMem) (z v:AVal) (ty:TypeId) (g:Option Nat) (h1:v.cells= [v]) (h3:v.one=true):storeE (m++ [.own [z] ty g]) 1 (.ptr m.length 0) v=some (.undef,m++ [.own [v] ty g]):=by
 simp only[storeE,h1,if_true,writeB]
 rw[List.getElem?_append_right (Nat.le_refl _)]
 simp[h3,setN]
@[simp] theorem readB_new (m:AMem) (cs:List AVal) (ty:TypeId) (g:Option Nat):readB (m++ [.own cs ty g]) m.length=some cs:=by simp[readB,ABlk.cells]
theorem RMode.all {m:AMem} {c:List AVal} {x:Md} (h:RMode m c x):c.length=6∧c.all AVal.one=true:=by
 obtain ⟨e,nm,rfl,he,hn⟩:=h
 have h1:e.one=true:=by rcases he with ⟨rfl,_⟩|⟨_,_,_,_,rfl,_⟩<;>rfl
 have h2:nm.one=true:=by rcases hn with ⟨rfl,_⟩|⟨_,_,_,_,rfl,_⟩<;>rfl
 simp[h1,h2]
theorem RMode.get {m:AMem} {c:List AVal} {x:Md} (h:RMode m c x): ∃e nm,c[0]? =some (.int .i64 x.kind)∧c[1]? =some (.int .i64 x.size)∧c[2]? =some e∧c[3]? =some nm∧c[4]? =some (.int .i64 x.dims)∧c[5]? =some (.bool x.flex)∧RInts m e x.elems∧RStrs m nm x.names∧c= [.int .i64 x.kind,.int .i64 x.size,e,nm,.int .i64 x.dims,.bool x.flex]:=by
 obtain ⟨e,nm,rfl,he,hn⟩:=h
 exact ⟨e,nm,rfl,rfl,rfl,rfl,rfl,rfl,he,hn,rfl⟩
theorem loadE_mono {m m':AMem} (hm:m<+:m') {n:Nat} {g:Bool} {p v:AVal} (h:loadE m n g p=some v):loadE m' n g p=some v:=by
 cases p with
 |ptr b o=>
  simp only[loadE] at h ⊢
  cases hb:readB m b with
  |none=>rw[hb] at h;cases h
  |some cs=>rw[readB_mono hm hb];rw[hb] at h;exact h
 |gptr b o=>exact h
 |_=>cases h
theorem RTab.atC {m:AMem} {s:AVal} {l:List Md} (h:RTab m s l) {i:Nat} (hi:i<l.length): ∃b o c,(∀k,iaddrE 6 s (.int k i)=some (.ptr b o))∧loadE m 6 true (.ptr b o)=some (.agg c)∧loadE m 1 false (.ptr b o)=some (.int .i64 l[i].kind)∧(∀j,j<6→loadE m 1 false (.ptr b (o+j))=c[j]?)∧RMode m c l[i]:=by
 obtain ⟨b,o,e,nm,h1,h2,h3,h4,h5,h6,h7,h8,h9,h10⟩:=h.at hi
 refine ⟨b,o,_,h1,h2,h3,fun j hj=>?_,e,nm,rfl,h9,h10⟩
 match j,hj with
 |0,_=>exact h3
 |1,_=>exact h4
 |2,_=>exact h5
 |3,_=>exact h6
 |4,_=>exact h7
 |5,_=>exact h8
theorem RInts.take {m:AMem} {s:AVal} {xs:List Int} (h:RInts m s xs) {i:Nat} (hi:i≤xs.length): ∃s',(∀k,sliceE 1 s none (some (.int k i))=some s')∧(∀m',RInts m' s xs→RInts m' s' (xs.take i)):=by
 obtain ⟨s',h1,_⟩:=Sl.take h hi
 refine ⟨s',h1,fun m' h'=>?_⟩
 obtain ⟨s'',h3,h4⟩:=Sl.take h' hi
 have:=(h3 .i64).symm.trans (h1 .i64)
 cases this
 unfold RInts
 rw[List.length_take,Nat.min_eq_left hi,List.map_take]
 simpa using h4
theorem RStrs.take {m:AMem} {s:AVal} {xs:List ByteArray} (h:RStrs m s xs) {i:Nat} (hi:i≤xs.length): ∃s',(∀k,sliceE 1 s none (some (.int k i))=some s')∧(∀m',RStrs m' s xs→RStrs m' s' (xs.take i)):=by
 obtain ⟨s',h1,_⟩:=Sl.take h hi
 refine ⟨s',h1,fun m' h'=>?_⟩
 obtain ⟨s'',h3,h4⟩:=Sl.take h' hi
 have:=(h3 .i64).symm.trans (h1 .i64)
 cases this
 unfold RStrs
 rw[List.length_take,Nat.min_eq_left hi,List.map_take]
 simpa using h4
class Cell {α:Type} (f:α→AVal):Prop where
 cells: ∀x,(f x).cells= [f x]
 one: ∀x,(f x).one=true
instance (k:IntKind):Cell (AVal.int k):=⟨fun _=>rfl,fun _=>rfl⟩
instance:Cell AVal.bool:=⟨fun _=>rfl,fun _=>rfl⟩
instance:Cell AVal.str:=⟨fun _=>rfl,fun _=>rfl⟩
abbrev natI (n:Nat):AVal:= .int .i64 n
instance:Cell natI:=⟨fun _=>rfl,fun _=>rfl⟩
def OwL {α:Type} (f:α→AVal) (lo:Nat) (m:AMem) (ty:TypeId) (s:AVal) (xs:List α):Prop:=Ow lo m 1 ty s xs.length (xs.map f)
section
variable {α:Type} {f:α→AVal} {lo:Nat} {m m':AMem} {ty:TypeId} {s:AVal} {xs:List α}
theorem OwL.len (h:OwL f lo m ty s xs):lenE s=some (.int .i64 xs.length):=(Ow.sl h).len
theorem OwL.ch {S:Nat→Prop} (h:OwL f lo m ty s xs) (hc:Ch S m m') (hs: ∀b,s.blk=some b→ ¬S b):OwL f lo m' ty s xs:=Ow.ch hc h hs
theorem OwL.mono (h:OwL f lo m ty s xs) (hc:m<+:m'):OwL f lo m' ty s xs:=Ow.mono hc h
theorem OwL.lo' {lo':Nat} (h:OwL f lo m ty s xs) (hl:lo'≤lo):OwL f lo' m ty s xs:=Ow.lo h hl
theorem OwL.blk_lo (h:OwL f lo m ty s xs) {b:Nat} (hb:s.blk=some b):lo≤b∧b<m.length:=Ow.blk_lo h hb
theorem OwL.nil:OwL f lo m ty .nilslice []:=Ow.nil
theorem OwL.ints {ty:TypeId} {xs:List Int} (h:OwL (AVal.int .i64) lo m ty s xs):RInts m s xs:=Ow.sl h
theorem OwL.bools {ty:TypeId} {xs:List Bool} (h:OwL AVal.bool lo m ty s xs):RBools m s xs:=Ow.sl h
theorem OwL.take (h:OwL f lo m ty s xs) {i:Nat} (hi:i≤xs.length): ∃s',(∀k,sliceE 1 s none (some (.int k i))=some s')∧OwL f lo m ty s' (xs.take i)∧s'.blk=s.blk:=by
 obtain ⟨s',h1,h2,h3⟩:=Ow.take h hi
 refine ⟨s',h1,?_,h3⟩
 unfold OwL
 rw[List.length_take,Nat.min_eq_left hi,List.map_take]
 simpa using h2
theorem OwL.drop (h:OwL f lo m ty s xs) {i:Nat} (hi:i≤xs.length): ∃s',(∀k,sliceE 1 s (some (.int k i)) none=some s')∧OwL f lo m ty s' (xs.drop i)∧s'.blk=s.blk:=by
 obtain ⟨s',h1,h2,h3⟩:=Ow.drop h hi
 refine ⟨s',h1,?_,h3⟩
 unfold OwL
 rw[List.length_drop,List.map_drop]
 simpa using h2
theorem setN_one (cs:List AVal) (i:Nat) (x:AVal):setN cs i [x]=cs.set i x:=rfl
theorem OwL.at [hf:Cell f] (h:OwL f lo m ty s xs) {i:Nat} (hi:i<xs.length): ∃b o,s.blk=some b∧(∀k,iaddrE 1 s (.int k i)=some (.ptr b o))∧loadE m 1 false (.ptr b o)=some (f xs[i])∧
  ∀x,∃m',storeE m 1 (.ptr b o) (f x)=some (.undef,m')∧Ch (fun c=>c=b) m m'∧OwL f lo m' ty s (xs.set i x):=by
 obtain ⟨b,o,h1,h2,h3⟩:=Ow.store h hi
 obtain ⟨b',o',k1,k2,_⟩:=(Ow.sl h).at hi
 obtain ⟨rfl,rfl⟩:b'=b∧o'=o:=by have:=(k1 .i64).symm.trans (h2 .i64);simpa using this
 refine ⟨b',o',h1,h2,by have:=k2 0 (by omega);simpa[hi] using this,fun x=>?_⟩
 have hc:=hf.cells x
 obtain ⟨m',e1,e2,e3⟩:=h3 0 (f x) (by rw[hc];simp) (by rw[hc];simp[hf.one x])
 refine ⟨m',by rw[hc] at e1;exact e1,e2,?_⟩
 unfold OwL
 rw[List.length_set,List.map_set]
 rw[hc] at e3
 simpa[setN_one] using e3
theorem OwL.append [hf:Cell f] (h:OwL f lo m ty s xs) (hlo:lo≤m.length) {by_:Nat} (hb:by_≠0) (ys:List α) (hsz:(xs.length+ys.length)*by_≤140737488355328):
  ∃s' m',appendE m 1 by_ ty s ys.length (ys.map f)=some (s',m')∧Ch (fun b=>s.blk=some b) m m'∧OwL f lo m' ty s' (xs++ys)∧(∀b,s'.blk=some b→s.blk=some b∨m.length≤b):=by
 obtain ⟨s',m',h1,h2,h3,h4⟩:=Ow.append h hlo (k:=ys.length) (xs:=ys.map f) (by simp) (by simp[hf.one]) hb hsz
 refine ⟨s',m',h1,h2,?_,h4⟩
 unfold OwL
 rw[List.length_append,List.map_append]
 exact h3
theorem OwL.push [hf:Cell f] (h:OwL f lo m ty s xs) (hlo:lo≤m.length) {by_:Nat} (hb:by_≠0) (x:α) (hsz:(xs.length+1)*by_≤140737488355328):
  ∃s' m',appendE m 1 by_ ty s 1 [f x]=some (s',m')∧Ch (fun b=>s.blk=some b) m m'∧OwL f lo m' ty s' (xs++ [x])∧(∀b,s'.blk=some b→s.blk=some b∨m.length≤b):=OwL.append h hlo hb [x] hsz
theorem OwL.new [hf:Cell f] (m:AMem) (ty:TypeId) (xs:List α):OwL f m.length (m++ [.own (xs.map f) ty none]) ty (.slice m.length 0 xs.length xs.length none) xs:=
 Ow.new (by simp) (by simp[hf.one])
theorem OwL.rep [hf:Cell f] (m:AMem) (ty:TypeId) (n:Nat) (x:α):OwL f m.length (m++ [.own (List.replicate n (f x)) ty none]) ty (.slice m.length 0 n n none) (List.replicate n x):=by
 have:=OwL.new (f:=f) m ty (List.replicate n x)
 simpa using this
end
@[simp] theorem cells_lit (m:AMem) (c:AVal) (ty:TypeId) (g:Option Nat):sliceCells (m++ [.own [c] ty g]) 1 (.slice m.length 0 1 1 none)=some (1,[c]):=by
 simp[sliceCells,readB,ABlk.cells,readN]
end Go.Proofs.YtlniliigcnedmaaGreatDoor.Ax
namespace Go.Proofs.YtlniliigcnedmaaGreatDoor
open Go Ax
open Relation
def stepR (l:List Md) (p:Md→Bool) (a b:Nat):Prop:= ∃x,l[a]? =some x∧p x=true∧(b:Int)∈x.elems
def goodT (l:List Md):Prop:= ∀x∈l,∀e∈x.elems,0≤e∧e<l.length
structure RInv (l:List Md) (p:Md→Bool) (m:Nat) (S:List Bool) (Q:List Nat):Prop where
 len:S.length=l.length
 q: ∀x∈Q,x<l.length∧(x=m∨TransGen (stepR l p) m x)
 s: ∀i,S[i]? =some true→TransGen (stepR l p) m i
 c: ∀z,z=m∨S[z]? =some true→z∈Q∨ ∀y,stepR l p z y→S[y]? =some true
structure RIn (l:List Md) (p:Md→Bool) (m:Nat) (S:List Bool) (Q:List Nat) (x k:Nat):Prop where
 len:S.length=l.length
 q: ∀x∈Q,x<l.length∧(x=m∨TransGen (stepR l p) m x)
 s: ∀i,S[i]? =some true→TransGen (stepR l p) m i
 xr:x<l.length∧(x=m∨TransGen (stepR l p) m x)
 px: ∀y,l[x]? =some y→p y=true
 c: ∀z,z=m∨S[z]? =some true→z∈Q∨z=x∨ ∀y,stepR l p z y→S[y]? =some true
 d: ∀j y e,j<k→l[x]? =some y→y.elems[j]? =some e→S[e.toNat]? =some true
variable {l:List Md} {p:Md→Bool} {m:Nat} {S:List Bool} {Q Q':List Nat} {x k:Nat}
theorem RInv.init (hm:m<l.length):RInv l p m (List.replicate l.length false) [m] where
 len:=by simp
 q:=fun x hx=>by rw[List.mem_singleton] at hx;subst hx;exact ⟨hm,.inl rfl⟩
 s:=fun i hi=>by rw[List.getElem?_replicate] at hi;split at hi<;>cases hi
 c:=fun z hz=>by
  rcases hz with rfl|hz
  ·exact .inl (List.mem_singleton.2 rfl)
  ·rw[List.getElem?_replicate] at hz;split at hz<;>cases hz
theorem RInv.skip (h:RInv l p m S Q) (hQ: ∀z,z∈Q↔z∈Q'∨z=x) {y:Md} (hy:l[x]? =some y) (hp:p y=false):RInv l p m S Q' where
 len:=h.len
 q:=fun z hz=>h.q z ((hQ z).2 (.inl hz))
 s:=h.s
 c:=fun z hz=>by
  rcases h.c z hz with h1|h1
  ·rcases (hQ z).1 h1 with h2|rfl
   ·exact .inl h2
   ·refine .inr fun w hw=>?_
    obtain ⟨y',h3,h4,_⟩:=hw
    rw[hy] at h3;cases h3
    rw[hp] at h4;cases h4
  ·exact .inr h1
theorem RInv.enter (h:RInv l p m S Q) (hQ: ∀z,z∈Q↔z∈Q'∨z=x) {y:Md} (hy:l[x]? =some y) (hp:p y=true):RIn l p m S Q' x 0 where
 len:=h.len
 q:=fun z hz=>h.q z ((hQ z).2 (.inl hz))
 s:=h.s
 xr:=h.q x ((hQ x).2 (.inr rfl))
 px:=fun y' hy'=>by rw[hy] at hy';cases hy';exact hp
 c:=fun z hz=>by
  rcases h.c z hz with h1|h1
  ·rcases (hQ z).1 h1 with h2|rfl
   ·exact .inl h2
   ·exact .inr (.inl rfl)
  ·exact .inr (.inr h1)
 d:=fun j _ _ hj=>by omega
theorem RIn.seen (h:RIn l p m S Q x k) {y:Md} {e:Int} (hy:l[x]? =some y) (he:y.elems[k]? =some e) (hs:S[e.toNat]? =some true):RIn l p m S Q x (k+1) where
 len:=h.len
 q:=h.q
 s:=h.s
 xr:=h.xr
 px:=h.px
 c:=h.c
 d:=fun j y' e' hj hy' he'=>by
  by_cases hjk:j=k
  ·subst hjk
   rw[hy] at hy';cases hy'
   rw[he] at he';cases he'
   exact hs
  ·exact h.d j y' e' (by omega) hy' he'
theorem set_true {S:List Bool} {i j:Nat} (h:S[j]? =some true):(S.set i true)[j]? =some true:=by
 rw[List.getElem?_set]
 split
 ·rename_i hij;subst hij
  rw[if_pos (List.getElem?_eq_some_iff.1 h).1]
 ·exact h
theorem of_set {S:List Bool} {i j:Nat} (h:(S.set i true)[j]? =some true):j=i∨S[j]? =some true:=by
 rw[List.getElem?_set] at h
 split at h
 ·rename_i hij;exact .inl hij.symm
 ·exact .inr h
theorem RIn.unseen (hg:goodT l) (h:RIn l p m S Q x k) {y:Md} {e:Int} (hy:l[x]? =some y) (he:y.elems[k]? =some e):RIn l p m (S.set e.toNat true) (Q++ [e.toNat]) x (k+1):=by
 have hyl:y∈l:=List.mem_of_getElem? hy
 have hel:e∈y.elems:=List.mem_of_getElem? he
 have hge:=hg y hyl e hel
 have hst:stepR l p x e.toNat:=⟨y,hy,h.px y hy,by rw[Int.toNat_of_nonneg hge.1];exact hel⟩
 have htr:TransGen (stepR l p) m e.toNat:=by
  rcases h.xr.2 with h1|h1
  ·rw[←h1];exact .single hst
  ·exact .tail h1 hst
 refine ⟨by simpa using h.len,fun z hz=>?_,fun i hi=>?_,h.xr,h.px,fun z hz=>?_,fun j y' e' hj hy' he'=>?_⟩
 ·rcases List.mem_append.1 hz with hz|hz
  ·exact h.q z hz
  ·rw[List.mem_singleton] at hz
   subst hz
   exact ⟨by omega,.inr htr⟩
 ·rcases of_set hi with rfl|hi
  ·exact htr
  ·exact h.s i hi
 ·rcases hz with hz|hz
  ·rcases h.c z (.inl hz) with h1|h1|h1
   ·exact .inl (List.mem_append_left _ h1)
   ·exact .inr (.inl h1)
   ·exact .inr (.inr fun w hw=>set_true (h1 w hw))
  ·rcases of_set hz with rfl|hz
   ·exact .inl (List.mem_append_right _ (List.mem_singleton.2 rfl))
   ·rcases h.c z (.inr hz) with h1|h1|h1
    ·exact .inl (List.mem_append_left _ h1)
    ·exact .inr (.inl h1)
    ·exact .inr (.inr fun w hw=>set_true (h1 w hw))
 ·by_cases hjk:j=k
  ·subst hjk
   rw[hy] at hy';cases hy'
   rw[he] at he';cases he'
   rw[List.getElem?_set_self (by rw[h.len];omega)]
  ·exact set_true (h.d j y' e' (by omega) hy' he')
theorem RIn.leave (h:RIn l p m S Q x k) (hk: ∀y,l[x]? =some y→y.elems.length≤k):RInv l p m S Q where
 len:=h.len
 q:=h.q
 s:=h.s
 c:=fun z hz=>by
  rcases h.c z hz with h1|rfl|h1
  ·exact .inl h1
  ·refine .inr fun w hw=>?_
   obtain ⟨y,h3,_,h5⟩:=hw
   obtain ⟨j,hj,h6⟩:=List.mem_iff_getElem.1 h5
   have:=h.d j y _ (Nat.lt_of_lt_of_le hj (hk y h3)) h3 (List.getElem?_eq_getElem hj)
   rw[h6] at this
   simpa using this
  ·exact .inr h1
theorem RInv.done (h:RInv l p m S []): ∀i,S[i]? =some true↔TransGen (stepR l p) m i:=by
 intro i
 refine ⟨h.s i,fun ht=>?_⟩
 induction ht with
 |single h1=>
  rcases h.c m (.inl rfl) with h2|h2
  ·cases h2
  ·exact h2 _ h1
 |tail _ h1 ih=>
  rcases h.c _ (.inr ih) with h2|h2
  ·cases h2
  ·exact h2 _ h1
def cntF (S:List Bool):Nat:=S.count false
theorem cntF_set {S:List Bool} {i:Nat} (h:S[i]? =some false):cntF (S.set i true)+1=cntF S:=by
 unfold cntF
 induction S generalizing i with
 |nil=>simp at h
 |cons b S ih=>
  cases i with
  |zero=>simp at h;subst h;simp
  |succ i=>
   rw[List.getElem?_cons_succ] at h
   have:=ih h
   simp only[List.set_cons_succ,List.count_cons]
   omega
end Go.Proofs.YtlniliigcnedmaaGreatDoor
namespace Go.Proofs.YtlniliigcnedmaaGreatDoor
open Go Ax
theorem mix: Tryz.prog.follows .mixedOrders=true:=by kernel_rfl
abbrev qv (d s:Nat):CI:=⟨some d,.P (.mov (.t s)),none⟩
abbrev qi (d:Nat) (z:Int):CI:=⟨some d,.P (.mov (.c (.int .i64 z))),none⟩
abbrev qb (d:Nat) (b:Bool):CI:=⟨some d,.P (.mov (.c (.bool b))),none⟩
abbrev qg (d s n:Nat) (b:Bool):CI:=⟨some d,.P (.mov (.t s)),some (n,b)⟩
abbrev ql (d s:Nat):CI:=⟨some d,.R (.load 1 false (.t s)),none⟩
abbrev qa (d n s i:Nat):CI:=⟨some d,.P (.iaddr n (.t s) (.t i)),none⟩
abbrev qx (d s i:Nat):CI:=⟨some d,.P (.ext (.t s) i),none⟩
abbrev qn (d s:Nat):CI:=⟨some d,.P (.len (.t s)),none⟩
abbrev qc (d f:Nat) (xs:List Arg):CI:=⟨some d,.C (.c (.func (.func f) [] [])) xs,none⟩
abbrev qo (d:Nat) (o:BinOp) (x y:Nat):CI:=⟨some d,.P (.bin o (.t x) (.t y)),none⟩
abbrev qk (d:Nat) (o:BinOp) (x:Nat) (z:Int):CI:=⟨some d,.P (.bin o (.t x) (.c (.int .i64 z))),none⟩
abbrev qz (z:Int):Arg:= .c (.int .i64 z)
end Go.Proofs.YtlniliigcnedmaaGreatDoor
namespace Go.Proofs.YtlniliigcnedmaaGreatDoor
open Go Ax
set_option maxRecDepth 100000
theorem w103 {args m R} (h:W Tryz.prog (.seq (.reg [qv 5 0,qn 6 5,qv 4 6]) (.kill [0,1,4] (.reg [qv 7 0,qv 8 4,qv 9 4,⟨some 10,.P (.i2i .u64 (.t 9)),none⟩,qc 11 115 [(.t 10)],qv 12 1,qc 13 137 [(.t 7),(qz 0),(.t 8),(.t 11),(.t 12)]]))) (E [] R .mk) .mk (mat 14 (sArgs 0 args)) m) (hl:Nat.ble args.length 14=true:=by rfl):ACalls Tryz.prog 103 args m R:=walk mix (by kernel_rfl) (Nat.le_of_ble_eq_true hl) h
theorem w85 {args m R} (h:W Tryz.prog (.seq (.reg [qi 2 0]) (.kill [0] (.seq (.reg [qi 3 0]) (.seq (.seq (.reg [qv 6 0,qn 7 6,qi 8 0]) (.kill [3,6,7,8] (.block 0 (.kill [3,6,7,8] (.loop (.fin [3,6,7,8] (.seq (.reg [qo 9 .lss 8 7]) (.seq (.cond (.t 9) .skip (.exit 0)) (.kill [3,6,7,8] (.seq (.block 1 (.seq (.reg [qa 10 1 6 8,ql 11 10,qv 5 11]) (.kill [3,5,6,7,8] (.seq (.reg [qv 12 5,qv 13 3,qo 14 .neq 12 13]) (.kill [3,5,6,7,8,14] (.cond (.t 14) (.seq (.reg [qv 15 5,qv 2 15]) .ret) .skip)))))) (.kill [3,6,7,8] (.reg [qk 16 .add 8 1,qv 8 16])))))))))))) (.kill [3] (.seq (.reg [qv 17 3,qv 2 17]) .ret)))))) (E [(.tmp 2)] R .mk) .mk (mat 18 (sArgs 0 args)) m) (hl:Nat.ble args.length 18=true:=by rfl):ACalls Tryz.prog 85 args m R:=walk mix (by kernel_rfl) (Nat.le_of_ble_eq_true hl) h
abbrev h85_0 (t3 t6 t7 t8:AVal):AFrame:=mat 18 [(3,t3),(6,t6),(7,t7),(8,t8)]
theorem w86 {args m R} (h:W Tryz.prog (.seq (.reg [qi 4 0]) (.kill [0,1] (.seq (.reg [qv 7 0,qc 8 119 [(.t 7)],qv 5 8]) (.kill [0,1,5] (.seq (.reg [qv 9 1,qc 10 119 [(.t 9)],qv 6 10]) (.kill [0,1,5,6] (.seq (.seq (.reg [qv 11 5]) (.kill [0,1,6,11] (.cond (.t 11) (.seq (.seq (.reg [qv 12 6]) (.kill [12] (.cond (.t 12) (.seq (.reg [qi 4 0]) .ret) .skip))) (.kill [] (.seq (.reg [⟨some 4,.P (.mov (.c (.int .i64 (-1)))),none⟩]) .ret))) .skip))) (.kill [0,1,6] (.seq (.seq (.reg [qv 13 6]) (.kill [0,1,13] (.cond (.t 13) (.seq (.reg [qi 4 1]) .ret) .skip))) (.kill [0,1] (.seq (.seq (.reg [qv 14 0,qv 15 1,qo 16 .lss 14 15]) (.kill [0,1,16] (.cond (.t 16) (.seq (.reg [⟨some 4,.P (.mov (.c (.int .i64 (-1)))),none⟩]) .ret) .skip))) (.kill [0,1] (.seq (.seq (.reg [qv 17 0,qv 18 1,qo 19 .gtr 17 18]) (.kill [19] (.cond (.t 19) (.seq (.reg [qi 4 1]) .ret) .skip))) (.kill [] (.seq (.reg [qi 4 0]) .ret))))))))))))))) (E [(.tmp 4)] R .mk) .mk (mat 20 (sArgs 0 args)) m) (hl:Nat.ble args.length 20=true:=by rfl):ACalls Tryz.prog 86 args m R:=walk mix (by kernel_rfl) (Nat.le_of_ble_eq_true hl) h
theorem w105 {args m R} (h:W Tryz.prog (.seq (.reg [⟨some 4,.P (.mov (.c .nilslice)),none⟩]) (.kill [0,1] (.seq (.seq (.reg [qv 8 0,qn 9 8,qk 10 .lss 9 2]) (.kill [0,1,10] (.cond (.t 10) (.seq (.reg [qv 11 0,qv 4 11]) .ret) .skip))) (.kill [0,1] (.seq (.seq (.reg [qi 5 1]) (.block 0 (.kill [0,1,5] (.loop (.fin [0,1,5] (.seq (.seq (.reg [qv 12 5,qv 13 0,qn 14 13,qo 15 .lss 12 14]) (.kill [0,1,5,15] (.cond (.t 15) .skip (.exit 0)))) (.kill [0,1,5] (.seq (.block 1 (.seq (.draw true [qv 18 1,qv 19 0,qv 20 5,qa 21 1 19 20,ql 22 21,qv 23 0,qv 24 5,qk 25 .sub 24 1,qa 26 1 23 25,ql 27 26,⟨some 28,.C (.t 18) [(.t 22),(.t 27)],none⟩] [[],[],[],[],[],[],[],[],[],[],[]] [[],[],[],[],[],[],[],[],[],[],[]] [0,1,2,3,4,5,6,7,8,9,10]) (.kill [0,1,5,28] (.cond (.t 28) (.seq (.reg [qv 29 0,qv 30 5,⟨some 31,.P (.slice 1 (.t 29) (some (.t 30)) none none),none⟩,qv 6 31]) (.kill [0,1,5,6] (.seq (.seq (.reg [qi 7 1]) (.block 2 (.kill [0,1,5,6,7] (.loop (.fin [0,1,5,6,7] (.seq (.seq (.reg [qv 32 7,qv 33 6,qn 34 33,qo 35 .lss 32 34]) (.kill [0,1,5,6,7,35] (.cond (.t 35) .skip (.exit 2)))) (.kill [0,1,5,6,7] (.seq (.block 3 (.seq (.draw true [qv 38 1,qv 39 6,qv 40 7,qa 41 1 39 40,ql 42 41,qv 43 6,qv 44 7,qk 45 .sub 44 1,qa 46 1 43 45,ql 47 46,⟨some 48,.C (.t 38) [(.t 42),(.t 47)],none⟩,⟨some 49,.P (.un .not (.t 48)),none⟩] [[],[],[],[],[],[],[],[],[],[],[],[10]] [[],[],[],[],[],[],[],[],[],[],[],[]] [0,1,2,3,4,5,6,7,8,9,10,11]) (.kill [0,1,5,6,7,49] (.cond (.t 49) (.seq (.reg [qv 50 0,qv 51 5,qv 52 6,qv 53 7,qa 54 1 52 53,ql 55 54,qa 56 1 50 51,⟨none,.W (.store 1 (.t 56) (.t 55)),none⟩]) (.kill [0,1,5,6,7] (.reg [qv 57 5,qk 58 .add 57 1,qv 5 58]))) .skip)))) (.kill [0,1,5,6,7] (.reg [qv 36 7,qk 37 .add 36 1,qv 7 37])))))))))) (.kill [0,5] (.seq (.reg [qv 59 0,qv 60 5,⟨some 61,.P (.slice 1 (.t 59) (some (.t 60)) none none),none⟩,⟨none,.W (.clear [(.int .i64 0)] (.t 61)),none⟩]) (.kill [0,5] (.seq (.reg [qv 62 0,qv 63 5,⟨some 64,.P (.slice 1 (.t 62) none (some (.t 63)) none),none⟩,qv 4 64]) .ret))))))) .skip)))) (.kill [0,1,5] (.reg [qv 16 5,qk 17 .add 16 1,qv 5 17])))))))))) (.kill [0] (.seq (.reg [qv 65 0,qv 4 65]) .ret))))))) (E [(.tmp 4)] R .mk) .mk (mat 66 (sArgs 0 args)) m) (hl:Nat.ble args.length 66=true:=by rfl):ACalls Tryz.prog 105 args m R:=walk mix (by kernel_rfl) (Nat.le_of_ble_eq_true hl) h
abbrev h105_0 (t0 t1 t5:AVal):AFrame:=mat 66 [(0,t0),(1,t1),(5,t5)]
abbrev h105_1 (t0 t1 t5 t6 t7:AVal):AFrame:=mat 66 [(0,t0),(1,t1),(5,t5),(6,t6),(7,t7)]
theorem w97 {args m R} (h:W Tryz.prog (.seq (.reg [⟨some 2,.A (.box 22 (.t 0)),none⟩,⟨some 3,.A (.box 39 (.t 1)),none⟩,qi 4 0]) (.kill [2,3] (.seq (.seq (.reg [⟨some 8,.R (.load 6 true (.t 3)),none⟩,qc 9 122 [(.t 8)],qv 5 9]) (.kill [2,3,5] (.seq (.reg [qv 10 5,qk 11 .neq 10 0]) (.kill [2,3,5,11] (.cond (.t 11) (.seq (.reg [qv 12 5,qv 4 12]) .ret) .skip))))) (.kill [2,3] (.seq (.seq (.reg [⟨some 13,.P (.faddr 2 (.t 3)),none⟩,ql 14 13,⟨some 15,.P (.mkfn (.func 123) [] [(.t 2)]),none⟩,qc 16 36 [(.t 14),(.t 15)]]) (.kill [3,16] (.cond (.t 16) (.seq (.reg [qi 4 11]) .ret) .skip))) (.kill [3] (.seq (.seq (.reg [⟨some 17,.P (.faddr 3 (.t 3)),none⟩,ql 18 17,⟨some 19,.C (.c (.func (.func 125) [] [])) [(.t 18),(.c (.func (.func 126) [] []))],none⟩]) (.kill [3,19] (.cond (.t 19) (.seq (.reg [qi 4 8]) .ret) .skip))) (.kill [3] (.seq (.seq (.reg [⟨some 20,.P (.faddr 3 (.t 3)),none⟩,ql 21 20,qn 22 21,qi 23 0]) (.kill [3,21,22,23] (.block 0 (.kill [3,21,22,23] (.loop (.fin [3,21,22,23] (.seq (.reg [qo 24 .lss 23 22]) (.seq (.cond (.t 24) .skip (.exit 0)) (.kill [3,21,22,23] (.seq (.block 1 (.seq (.reg [qv 25 23,qa 26 1 21 23,ql 27 26,qv 6 25,qv 7 27]) (.kill [3,6,7,21,22,23] (.seq (.reg [⟨some 28,.P (.faddr 3 (.t 3)),none⟩,ql 29 28,qv 30 6,⟨some 31,.P (.slice 1 (.t 29) none (some (.t 30)) none),none⟩,qv 32 7,qc 33 128 [(.t 31),(.t 32)]]) (.kill [3,21,22,23,33] (.cond (.t 33) (.seq (.reg [qi 4 5]) .ret) .skip)))))) (.kill [3,21,22,23] (.reg [qk 34 .add 23 1,qv 23 34])))))))))))) (.kill [] (.seq (.reg [qi 4 0]) .ret))))))))))) (E [(.tmp 4)] R .mk) .mk (mat 35 (sArgs 0 args)) m) (hl:Nat.ble args.length 35=true:=by rfl):ACalls Tryz.prog 97 args m R:=walk mix (by kernel_rfl) (Nat.le_of_ble_eq_true hl) h
abbrev h97_0 (t3 t21 t22 t23:AVal):AFrame:=mat 35 [(3,t3),(21,t21),(22,t22),(23,t23)]
theorem w98 {args m R} (h:W Tryz.prog (.seq (.reg [⟨some 2,.A (.box 22 (.t 0)),none⟩,⟨some 3,.A (.box 39 (.t 1)),none⟩,qb 4 false]) (.kill [2,3] (.seq (.reg [⟨some 6,.P (.faddr 2 (.t 3)),none⟩,ql 7 6,qv 5 7]) (.kill [2,3,5] (.seq (.seq (.reg [⟨some 8,.P (.faddr 0 (.t 3)),none⟩,ql 9 8]) (.kill [2,5,9] (.block 0 (.seq (.reg [qk 11 .eql 9 12,qv 10 11]) (.kill [2,5,9,10] (.cond (.t 10) (.seq (.reg [qb 4 false]) .ret) (.seq (.reg [qk 13 .eql 9 13,qv 12 13]) (.kill [2,5,12] (.cond (.t 12) (.reg [qv 14 5,qv 15 5,qn 16 15,qk 17 .sub 16 1,⟨some 18,.P (.slice 1 (.t 14) none (some (.t 17)) none),none⟩,qv 5 18]) .skip))))))))) (.kill [2,5] (.seq (.reg [qv 19 5,⟨some 20,.P (.mkfn (.func 129) [] [(.t 2)]),none⟩,qc 21 36 [(.t 19),(.t 20)],qv 4 21]) .ret))))))) (E [(.tmp 4)] R .mk) .mk (mat 22 (sArgs 0 args)) m) (hl:Nat.ble args.length 22=true:=by rfl):ACalls Tryz.prog 98 args m R:=walk mix (by kernel_rfl) (Nat.le_of_ble_eq_true hl) h
theorem w99 {args m R} (h:W Tryz.prog (.seq (.reg [qb 4 false]) (.kill [0,1] (.seq (.reg [qv 5 0,qv 6 1,qc 7 130 [(.t 5),(.t 6)],qk 8 .geq 7 0,qv 4 8]) .ret))) (E [(.tmp 4)] R .mk) .mk (mat 9 (sArgs 0 args)) m) (hl:Nat.ble args.length 9=true:=by rfl):ACalls Tryz.prog 99 args m R:=walk mix (by kernel_rfl) (Nat.le_of_ble_eq_true hl) h
theorem w100 {args m R} (h:W Tryz.prog (.seq (.reg [⟨some 2,.P (.mov (.c .nilslice)),none⟩]) (.kill [0] (.seq (.reg [qv 11 0,qn 12 11,⟨some 13,.A (.mkslice 4 1 [(.bool false)] (.t 12) (.t 12)),none⟩,qv 3 13]) (.kill [0,3] (.seq (.seq (.reg [qv 14 0,qn 15 14,qi 16 0]) (.kill [0,3,15,16] (.block 0 (.kill [0,3,15,16] (.loop (.fin [0,3,15,16] (.seq (.reg [qo 17 .lss 16 15]) (.seq (.cond (.t 17) .skip (.exit 0)) (.kill [0,3,15,16] (.seq (.block 1 (.seq (.reg [qv 18 16,qv 4 18]) (.kill [0,3,4,15,16] (.seq (.reg [⟨some 19,.A (.bslice 53 2 [.nilfunc] [(0,(1,(.c (.func (.func 131) [] [])))),(1,(1,(.c (.func (.func 132) [] []))))]),none⟩,qn 20 19,qi 21 0]) (.block 2 (.kill [0,3,4,15,16,19,20,21] (.loop (.fin [0,3,4,15,16,19,20,21] (.seq (.reg [qo 22 .lss 21 20]) (.seq (.cond (.t 22) .skip (.exit 2)) (.kill [0,3,4,15,16,19,20,21] (.seq (.block 3 (.seq (.reg [qa 23 1 19 21,ql 24 23,⟨some 6,.A (.alloc 53 [.nilfunc]),none⟩,⟨none,.W (.store 1 (.t 6) (.t 24)),none⟩]) (.kill [0,3,4,6,15,16,19,20,21] (.seq (.reg [qv 25 0,qv 26 4,⟨some 27,.P (.mkfn (.func 134) [] [(.t 6)]),none⟩,qc 28 133 [(.t 25),(.t 26),(.t 27)],qv 29 4,qa 30 1 28 29,ql 31 30]) (.kill [0,3,4,15,16,19,20,21,31] (.cond (.t 31) (.reg [qv 32 3,qv 33 4,qa 34 1 32 33,⟨none,.W (.store 1 (.t 34) (.c (.bool true))),none⟩]) .skip)))))) (.kill [0,3,4,15,16,19,20,21] (.reg [qk 35 .add 21 1,qv 21 35])))))))))))))) (.kill [0,3,15,16] (.reg [qk 36 .add 16 1,qv 16 36])))))))))))) (.kill [0,3] (.seq (.reg [qv 37 0,qn 38 37,⟨some 39,.A (.mkslice 4 1 [(.bool false)] (.t 38) (.t 38)),none⟩,qv 7 39]) (.kill [0,3,7] (.seq (.seq (.reg [qv 40 0,qn 41 40,qi 42 0]) (.kill [0,3,7,41,42] (.block 4 (.kill [0,3,7,41,42] (.loop (.fin [0,3,7,41,42] (.seq (.reg [qo 43 .lss 42 41]) (.seq (.cond (.t 43) .skip (.exit 4)) (.kill [0,3,7,41,42] (.seq (.block 5 (.seq (.reg [qv 44 42,qv 8 44]) (.kill [0,3,7,8,41,42] (.seq (.reg [qv 45 7,qv 46 8,qv 47 3,qv 48 8,qa 49 1 47 48,ql 50 49,⟨some 51,.P (.un .not (.t 50)),none⟩,qa 52 1 45 46,⟨none,.W (.store 1 (.t 52) (.t 51)),none⟩]) (.kill [0,3,7,8,41,42] (.seq (.reg [qv 53 0,qv 54 8,⟨some 55,.C (.c (.func (.func 133) [] [])) [(.t 53),(.t 54),(.c (.func (.func 135) [] []))],none⟩,qn 56 55,qi 57 0]) (.kill [0,3,7,8,41,42,55,56,57] (.block 6 (.kill [0,3,7,8,41,42,55,56,57] (.loop (.fin [0,3,7,8,41,42,55,56,57] (.seq (.reg [qo 58 .lss 57 56]) (.seq (.cond (.t 58) .skip (.exit 6)) (.kill [0,3,7,8,41,42,55,56,57] (.seq (.block 7 (.seq (.reg [qv 59 57,qa 60 1 55 57,ql 61 60,qv 9 59,qv 10 61]) (.kill [0,3,7,8,9,10,41,42,55,56,57] (.seq (.reg [qv 62 10,qv 63 62,⟨some 64,.P (.mov (.t 3)),(some (63,true))⟩,⟨some 65,.P (.mov (.t 9)),(some (63,true))⟩,⟨some 66,.P (.iaddr 1 (.t 64) (.t 65)),(some (63,true))⟩,⟨some 67,.R (.load 1 false (.t 66)),(some (63,true))⟩,⟨some 68,.P (.pick (.t 63) (.t 67) (.c (.bool false))),none⟩]) (.kill [0,3,7,8,41,42,55,56,57,68] (.cond (.t 68) (.reg [qv 69 7,qv 70 8,qa 71 1 69 70,⟨none,.W (.store 1 (.t 71) (.c (.bool false))),none⟩]) .skip)))))) (.kill [0,3,7,8,41,42,55,56,57] (.reg [qk 72 .add 57 1,qv 57 72]))))))))))))))))) (.kill [0,3,7,41,42] (.reg [qk 73 .add 42 1,qv 42 73])))))))))))) (.kill [7] (.seq (.reg [qv 74 7,qv 2 74]) .ret))))))))))) (E [(.tmp 2)] R .mk) .mk (mat 75 (sArgs 0 args)) m) (hl:Nat.ble args.length 75=true:=by rfl):ACalls Tryz.prog 100 args m R:=walk mix (by kernel_rfl) (Nat.le_of_ble_eq_true hl) h
abbrev h100_0 (t0 t3 t15 t16:AVal):AFrame:=mat 75 [(0,t0),(3,t3),(15,t15),(16,t16)]
abbrev h100_1 (t0 t3 t4 t15 t16 t19 t20 t21:AVal):AFrame:=mat 75 [(0,t0),(3,t3),(4,t4),(15,t15),(16,t16),(19,t19),(20,t20),(21,t21)]
abbrev h100_2 (t0 t3 t7 t41 t42:AVal):AFrame:=mat 75 [(0,t0),(3,t3),(7,t7),(41,t41),(42,t42)]
abbrev h100_3 (t0 t3 t7 t8 t41 t42 t55 t56 t57:AVal):AFrame:=mat 75 [(0,t0),(3,t3),(7,t7),(8,t8),(41,t41),(42,t42),(55,t55),(56,t56),(57,t57)]
theorem w101 {args m R} (h:W Tryz.prog (.seq (.reg [⟨some 1,.A (.box 22 (.t 0)),none⟩,⟨some 2,.P (.mov (.c .nilslice)),none⟩]) (.kill [1] (.seq (.reg [ql 7 1,qn 8 7,⟨some 9,.A (.mkslice 4 1 [(.bool false)] (.t 8) (.t 8)),none⟩,⟨some 3,.A (.alloc 120 [.nilslice]),none⟩,⟨none,.W (.store 1 (.t 3) (.t 9)),none⟩]) (.kill [1,3] (.seq (.reg [ql 10 1,qn 11 10,⟨some 12,.A (.mkslice 4 1 [(.bool false)] (.t 11) (.t 11)),none⟩,⟨some 4,.A (.alloc 120 [.nilslice]),none⟩,⟨none,.W (.store 1 (.t 4) (.t 12)),none⟩]) (.kill [1,3,4] (.seq (.reg [⟨some 5,.A (.alloc 56 [.nilfunc]),none⟩]) (.seq (.reg [⟨some 13,.P (.mkfn (.func 136) [] [(.t 1),(.t 4),(.t 3),(.t 5)]),none⟩,⟨none,.W (.store 1 (.t 5) (.t 13)),none⟩]) (.kill [1,3,5] (.seq (.seq (.reg [ql 14 1,qn 15 14,qi 16 0]) (.kill [3,5,15,16] (.block 0 (.kill [3,5,15,16] (.loop (.fin [3,5,15,16] (.seq (.reg [qo 17 .lss 16 15]) (.seq (.cond (.t 17) .skip (.exit 0)) (.kill [3,5,15,16] (.seq (.block 1 (.seq (.reg [qv 18 16,qv 6 18]) (.kill [3,5,6,15,16] (.reg [ql 19 5,qv 20 6,⟨some 21,.C (.t 19) [(.t 20)],none⟩])))) (.kill [3,5,15,16] (.reg [qk 22 .add 16 1,qv 16 22])))))))))))) (.kill [3] (.seq (.reg [ql 23 3,qv 2 23]) .ret)))))))))))) (E [(.tmp 2)] R .mk) .mk (mat 24 (sArgs 0 args)) m) (hl:Nat.ble args.length 24=true:=by rfl):ACalls Tryz.prog 101 args m R:=walk mix (by kernel_rfl) (Nat.le_of_ble_eq_true hl) h
abbrev h101_0 (t3 t5 t15 t16:AVal):AFrame:=mat 24 [(3,t3),(5,t5),(15,t15),(16,t16)]
theorem w102 {args m R} (h:W Tryz.prog (.seq (.reg [qb 3 false]) (.kill [0,1] (.seq (.reg [ql 4 1,qv 5 0,qa 6 1 4 5,ql 7 6,qv 3 7]) .ret))) (E [(.tmp 3)] R .mk) .mk (mat 8 (sArgs 0 args)) m) (hl:Nat.ble args.length 8=true:=by rfl):ACalls Tryz.prog 102 args m R:=walk mix (by kernel_rfl) (Nat.le_of_ble_eq_true hl) h
theorem w77 {args m R} (h:W Tryz.prog (.seq (.reg [qb 3 false]) (.kill [0,1] (.seq (.reg [ql 4 1,qv 5 0,qc 6 64 [(.t 4),(.t 5)],⟨some 7,.P (.un .not (.t 6)),none⟩,qv 3 7]) .ret))) (E [(.tmp 3)] R .mk) .mk (mat 8 (sArgs 0 args)) m) (hl:Nat.ble args.length 8=true:=by rfl):ACalls Tryz.prog 77 args m R:=walk mix (by kernel_rfl) (Nat.le_of_ble_eq_true hl) h
end Go.Proofs.YtlniliigcnedmaaGreatDoor
namespace Go.Proofs.YtlniliigcnedmaaGreatDoor
open Go Ax
set_option maxRecDepth 100000
theorem w78 {args m R} (h:W Tryz.prog (.seq (.reg [⟨some 6,.P (.mov (.c .nilslice)),none⟩]) (.kill [0,1,2] (.seq (.reg [qv 12 0,qn 13 12,⟨some 14,.A (.mkslice 4 1 [(.bool false)] (.t 13) (.t 13)),none⟩,qv 7 14]) (.kill [0,1,2,7] (.seq (.seq (.reg [qv 15 1,⟨some 16,.A (.bslice 3 1 [(.int .i64 0)] [(0,(1,(.t 15)))]),none⟩,qv 8 16]) (.kill [0,2,7,8] (.block 0 (.kill [0,2,7,8] (.loop (.fin [0,2,7,8] (.seq (.seq (.reg [qv 17 8,qn 18 17,qk 19 .gtr 18 0]) (.kill [0,2,7,8,19] (.cond (.t 19) .skip (.exit 0)))) (.kill [0,2,7,8] (.block 1 (.seq (.reg [qv 20 0,qv 21 8,⟨some 22,.P (.iaddr 1 (.t 21) (qz 0)),none⟩,ql 23 22,qa 24 6 20 23,⟨some 25,.R (.load 6 true (.t 24)),none⟩,⟨some 9,.A (.alloc 39 [(.int .i64 0),(.int .i64 0),.nilslice,.nilslice,(.int .i64 0),(.bool false)]),none⟩,⟨none,.W (.store 6 (.t 9) (.t 25)),none⟩]) (.kill [0,2,7,8,9] (.seq (.reg [qv 26 8,⟨some 27,.P (.slice 1 (.t 26) (some (qz 1)) none none),none⟩,qv 8 27]) (.kill [0,2,7,8,9] (.seq (.reg [⟨some 28,.P (.faddr 2 (.t 9)),none⟩,ql 29 28,qn 30 29,qi 31 0]) (.kill [0,2,7,8,29,30,31] (.block 2 (.kill [0,2,7,8,29,30,31] (.loop (.fin [0,2,7,8,29,30,31] (.seq (.reg [qo 32 .lss 31 30]) (.seq (.cond (.t 32) .skip (.exit 2)) (.kill [0,2,7,8,29,30,31] (.seq (.block 3 (.seq (.reg [qa 33 1 29 31,ql 34 33,qv 11 34]) (.kill [0,2,7,8,11,29,30,31] (.seq (.block 4 (.seq (.reg [qv 40 7,qv 41 11,qa 42 1 40 41,ql 43 42,qv 39 43]) (.kill [0,2,7,8,11,29,30,31,39] (.cond (.t 39) .skip (.seq (.reg [qv 45 0,qv 46 11,qa 47 6 45 46,⟨some 48,.P (.faddr 0 (.t 47)),none⟩,ql 49 48,qk 50 .eql 49 12,qv 44 50]) (.kill [0,2,7,8,11,29,30,31,44] (.cond (.t 44) (.reg [qv 51 8,qv 52 11,⟨some 53,.A (.bslice 3 1 [(.int .i64 0)] [(0,(1,(.t 52)))]),none⟩,⟨some 54,.W (.append 1 8 3 false (.t 51) (.t 53)),none⟩,qv 8 54]) (.reg [qv 35 2,qv 36 11,⟨some 37,.A (.bslice 3 1 [(.int .i64 0)] [(0,(1,(.t 36)))]),none⟩,⟨some 38,.W (.append 1 8 3 false (.t 35) (.t 37)),none⟩,qv 2 38])))))))) (.kill [0,2,7,8,11,29,30,31] (.reg [qv 55 7,qv 56 11,qa 57 1 55 56,⟨none,.W (.store 1 (.t 57) (.c (.bool true))),none⟩])))))) (.kill [0,2,7,8,29,30,31] (.reg [qk 58 .add 31 1,qv 31 58]))))))))))))))))))))))))) (.kill [2] (.seq (.reg [qv 59 2,qv 6 59]) .ret))))))) (E [(.tmp 6)] R .mk) .mk (mat 60 (sArgs 0 args)) m) (hl:Nat.ble args.length 60=true:=by rfl):ACalls Tryz.prog 78 args m R:=walk mix (by kernel_rfl) (Nat.le_of_ble_eq_true hl) h
abbrev h78_0 (t0 t2 t7 t8:AVal):AFrame:=mat 60 [(0,t0),(2,t2),(7,t7),(8,t8)]
abbrev h78_1 (t0 t2 t7 t8 t29 t30 t31:AVal):AFrame:=mat 60 [(0,t0),(2,t2),(7,t7),(8,t8),(29,t29),(30,t30),(31,t31)]
theorem w79 {args m R} (h:W Tryz.prog (.seq (.reg [⟨some 4,.P (.mov (.c .nilslice)),none⟩,qi 5 0]) (.kill [0,1] (.seq (.reg [qv 12 0,⟨some 13,.A (.mkslice 3 8 [(.int .i64 0)] (.t 12) (.t 12)),none⟩,qv 6 13]) (.kill [0,1,6] (.seq (.seq (.reg [qv 14 6,qn 15 14,qi 16 0]) (.kill [0,1,6,15,16] (.block 0 (.kill [0,1,6,15,16] (.loop (.fin [0,1,6,15,16] (.seq (.reg [qo 17 .lss 16 15]) (.seq (.cond (.t 17) .skip (.exit 0)) (.kill [0,1,6,15,16] (.seq (.block 1 (.seq (.reg [qv 18 16,qv 7 18]) (.kill [0,1,6,7,15,16] (.reg [qv 19 6,qv 20 7,qv 21 7,qa 22 1 19 20,⟨none,.W (.store 1 (.t 22) (.t 21)),none⟩])))) (.kill [0,1,6,15,16] (.reg [qk 23 .add 16 1,qv 16 23])))))))))))) (.kill [0,1,6] (.seq (.reg [qv 24 6,qv 25 1,qc 26 103 [(.t 24),(.t 25)]]) (.kill [0,1,6] (.seq (.reg [qv 27 0,⟨some 28,.A (.mkslice 3 8 [(.int .i64 0)] (.t 27) (.t 27)),none⟩,qv 8 28,qi 9 0]) (.kill [0,1,6,8,9] (.seq (.seq (.reg [qv 29 6,qn 30 29,qi 31 0]) (.block 2 (.kill [0,1,6,8,9,29,30,31] (.loop (.fin [0,1,6,8,9,29,30,31] (.seq (.reg [qo 32 .lss 31 30]) (.seq (.cond (.t 32) .skip (.exit 2)) (.kill [0,1,6,8,9,29,30,31] (.seq (.block 3 (.seq (.reg [qv 33 31,qa 34 1 29 31,ql 35 34,qv 10 33,qv 11 35]) (.kill [0,1,6,8,9,10,11,29,30,31] (.seq (.seq (.reg [qv 36 10,qk 37 .gtr 36 0,qv 38 37,⟨some 39,.P (.mov (.t 1)),(some (38,true))⟩,⟨some 40,.P (.mov (.t 6)),(some (38,true))⟩,⟨some 41,.P (.mov (.t 10)),(some (38,true))⟩,⟨some 42,.P (.bin .sub (.t 41) (qz 1)),(some (38,true))⟩,⟨some 43,.P (.iaddr 1 (.t 40) (.t 42)),(some (38,true))⟩,⟨some 44,.R (.load 1 false (.t 43)),(some (38,true))⟩,⟨some 45,.P (.mov (.t 11)),(some (38,true))⟩,⟨some 46,.C (.t 39) [(.t 44),(.t 45)],(some (38,true))⟩,⟨some 47,.P (.bin .neq (.t 46) (qz 0)),(some (38,true))⟩,⟨some 48,.P (.pick (.t 38) (.t 47) (.c (.bool false))),none⟩]) (.kill [0,1,6,8,9,11,29,30,31,48] (.cond (.t 48) (.reg [qv 49 9,qk 50 .add 49 1,qv 9 50]) .skip))) (.kill [0,1,6,8,9,11,29,30,31] (.reg [qv 51 8,qv 52 11,qv 53 9,qa 54 1 51 52,⟨none,.W (.store 1 (.t 54) (.t 53)),none⟩])))))) (.kill [0,1,6,8,9,29,30,31] (.reg [qk 55 .add 31 1,qv 31 55]))))))))))) (.kill [0,8,9] (.seq (.reg [qv 56 8,qv 57 9,qv 58 0,qk 59 .gtr 58 0,qc 60 116 [(.t 59)],qo 61 .add 57 60,qv 4 56,qv 5 61]) .ret))))))))))))) (E [(.tmp 4),(.tmp 5)] R .mk) .mk (mat 62 (sArgs 0 args)) m) (hl:Nat.ble args.length 62=true:=by rfl):ACalls Tryz.prog 79 args m R:=walk mix (by kernel_rfl) (Nat.le_of_ble_eq_true hl) h
abbrev h79_0 (t0 t1 t6 t15 t16:AVal):AFrame:=mat 62 [(0,t0),(1,t1),(6,t6),(15,t15),(16,t16)]
abbrev h79_1 (t0 t1 t6 t8 t9 t29 t30 t31:AVal):AFrame:=mat 62 [(0,t0),(1,t1),(6,t6),(8,t8),(9,t9),(29,t29),(30,t30),(31,t31)]
theorem w80 {args m R} (h:W Tryz.prog (.seq (.reg [qi 5 0]) (.kill [0,1,2] (.seq (.draw true [ql 6 2,qv 7 0,qa 8 6 6 7,⟨some 9,.R (.load 6 true (.t 8)),none⟩,ql 10 2,qv 11 1,qa 12 6 10 11,⟨some 13,.R (.load 6 true (.t 12)),none⟩,qc 14 81 [(.t 9),(.t 13)],qv 5 14] [[],[],[],[],[],[],[],[],[],[8]] [[],[],[],[],[],[],[],[],[],[]] [0,1,2,3,4,5,6,7,8,9]) .ret))) (E [(.tmp 5)] R .mk) .mk (mat 15 (sArgs 0 args)) m) (hl:Nat.ble args.length 15=true:=by rfl):ACalls Tryz.prog 80 args m R:=walk mix (by kernel_rfl) (Nat.le_of_ble_eq_true hl) h
theorem w81 {args m R} (h:W Tryz.prog (.seq (.reg [⟨some 2,.A (.box 39 (.t 0)),none⟩,⟨some 3,.A (.box 39 (.t 1)),none⟩,qi 4 0]) (.kill [2,3] (.seq (.reg [qi 5 0]) (.seq (.seq (.reg [⟨some 6,.P (.faddr 0 (.t 2)),none⟩,ql 7 6,qk 8 .neq 7 12]) (.kill [2,3,5,8] (.cond (.t 8) (.reg [⟨some 9,.P (.faddr 2 (.t 2)),none⟩,ql 10 9,qn 11 10,⟨some 12,.P (.faddr 2 (.t 3)),none⟩,ql 13 12,qn 14 13,qc 15 86 [(.t 11),(.t 14)],qv 5 15]) .skip))) (.kill [2,3,5] (.seq (.draw false [⟨some 16,.P (.faddr 0 (.t 2)),none⟩,ql 17 16,⟨some 18,.P (.faddr 0 (.t 3)),none⟩,ql 19 18,qc 20 86 [(.t 17),(.t 19)],⟨some 21,.P (.faddr 1 (.t 2)),none⟩,ql 22 21,⟨some 23,.P (.faddr 1 (.t 3)),none⟩,ql 24 23,qc 25 86 [(.t 22),(.t 24)],⟨some 26,.P (.faddr 4 (.t 2)),none⟩,ql 27 26,⟨some 28,.P (.faddr 4 (.t 3)),none⟩,ql 29 28,qc 30 86 [(.t 27),(.t 29)],⟨some 31,.P (.faddr 5 (.t 2)),none⟩,ql 32 31,qc 33 116 [(.t 32)],⟨some 34,.P (.faddr 5 (.t 3)),none⟩,ql 35 34,qc 36 116 [(.t 35)],qc 37 86 [(.t 33),(.t 36)],qv 38 5,⟨some 39,.P (.faddr 3 (.t 2)),none⟩,ql 40 39,⟨some 41,.P (.faddr 3 (.t 3)),none⟩,ql 42 41,qc 43 117 [(.t 40),(.t 42)],⟨some 44,.A (.bslice 3 6 [(.int .i64 0)] [(0,(1,(.t 20))),(1,(1,(.t 25))),(2,(1,(.t 30))),(3,(1,(.t 37))),(4,(1,(.t 38))),(5,(1,(.t 43)))]),none⟩,qc 45 85 [(.t 44)],qv 4 45] [[],[],[],[],[],[],[],[],[],[4],[],[],[],[],[4,9],[],[],[4,9,14],[],[],[4,9,14,17],[4,9,14,17,20],[],[],[],[],[],[4,9,14,17,20,21],[4,9,14,17,20,21,27],[4,9,14,17,20,21,27,28],[4,9,14,17,20,21,27,28,29]] [[],[],[],[],[],[],[],[],[],[],[],[],[],[],[],[],[],[],[],[],[],[],[],[],[],[],[],[],[],[],[]] [0,1,2,3,4,5,6,7,8,9,10,11,12,13,14,15,16,17,18,19,20,21,22,23,24,25,26,27,28,29,30]) .ret)))))) (E [(.tmp 4)] R .mk) .mk (mat 46 (sArgs 0 args)) m) (hl:Nat.ble args.length 46=true:=by rfl):ACalls Tryz.prog 81 args m R:=walk mix (by kernel_rfl) (Nat.le_of_ble_eq_true hl) h
theorem w82 {args m R} (h:W Tryz.prog (.seq (.reg [qv 3 0,qn 4 3,qv 2 4]) (.kill [0,2] (.reg [qv 5 0,qv 6 2,qv 7 2,⟨some 8,.P (.i2i .u64 (.t 7)),none⟩,qc 9 115 [(.t 8)],qc 10 118 [(.t 5),(qz 0),(.t 6),(.t 9)]]))) (E [] R .mk) .mk (mat 11 (sArgs 0 args)) m) (hl:Nat.ble args.length 11=true:=by rfl):ACalls Tryz.prog 82 args m R:=walk mix (by kernel_rfl) (Nat.le_of_ble_eq_true hl) h
theorem w83 {args m R} (h:W Tryz.prog (.seq (.reg [⟨some 2,.P (.mov (.c .nilslice)),none⟩]) (.kill [0] (.seq (.seq (.reg [qv 6 0,qn 7 6,qk 8 .lss 7 2]) (.kill [0,8] (.cond (.t 8) (.seq (.reg [qv 9 0,qv 2 9]) .ret) .skip))) (.kill [0] (.seq (.seq (.reg [qi 3 1]) (.block 0 (.kill [0,3] (.loop (.fin [0,3] (.seq (.seq (.reg [qv 10 3,qv 11 0,qn 12 11,qo 13 .lss 10 12]) (.kill [0,3,13] (.cond (.t 13) .skip (.exit 0)))) (.kill [0,3] (.seq (.block 1 (.seq (.draw true [qv 16 0,qv 17 3,qa 18 1 16 17,ql 19 18,qv 20 0,qv 21 3,qk 22 .sub 21 1,qa 23 1 20 22,ql 24 23,qo 25 .eql 19 24] [[],[],[],[],[],[],[],[],[],[]] [[],[],[],[],[],[],[],[],[],[]] [0,1,2,3,4,5,6,7,8,9]) (.kill [0,3,25] (.cond (.t 25) (.seq (.reg [qv 26 0,qv 27 3,⟨some 28,.P (.slice 1 (.t 26) (some (.t 27)) none none),none⟩,qv 4 28]) (.kill [0,3,4] (.seq (.seq (.reg [qi 5 1]) (.block 2 (.kill [0,3,4,5] (.loop (.fin [0,3,4,5] (.seq (.seq (.reg [qv 29 5,qv 30 4,qn 31 30,qo 32 .lss 29 31]) (.kill [0,3,4,5,32] (.cond (.t 32) .skip (.exit 2)))) (.kill [0,3,4,5] (.seq (.block 3 (.seq (.draw true [qv 35 4,qv 36 5,qa 37 1 35 36,ql 38 37,qv 39 4,qv 40 5,qk 41 .sub 40 1,qa 42 1 39 41,ql 43 42,qo 44 .neq 38 43] [[],[],[],[],[],[],[],[],[],[]] [[],[],[],[],[],[],[],[],[],[]] [0,1,2,3,4,5,6,7,8,9]) (.kill [0,3,4,5,44] (.cond (.t 44) (.seq (.reg [qv 45 0,qv 46 3,qv 47 4,qv 48 5,qa 49 1 47 48,ql 50 49,qa 51 1 45 46,⟨none,.W (.store 1 (.t 51) (.t 50)),none⟩]) (.kill [0,3,4,5] (.reg [qv 52 3,qk 53 .add 52 1,qv 3 53]))) .skip)))) (.kill [0,3,4,5] (.reg [qv 33 5,qk 34 .add 33 1,qv 5 34])))))))))) (.kill [0,3] (.seq (.reg [qv 54 0,qv 55 3,⟨some 56,.P (.slice 1 (.t 54) (some (.t 55)) none none),none⟩,⟨none,.W (.clear [(.int .i64 0)] (.t 56)),none⟩]) (.kill [0,3] (.seq (.reg [qv 57 0,qv 58 3,⟨some 59,.P (.slice 1 (.t 57) none (some (.t 58)) none),none⟩,qv 2 59]) .ret))))))) .skip)))) (.kill [0,3] (.reg [qv 14 3,qk 15 .add 14 1,qv 3 15])))))))))) (.kill [0] (.seq (.reg [qv 60 0,qv 2 60]) .ret))))))) (E [(.tmp 2)] R .mk) .mk (mat 61 (sArgs 0 args)) m) (hl:Nat.ble args.length 61=true:=by rfl):ACalls Tryz.prog 83 args m R:=walk mix (by kernel_rfl) (Nat.le_of_ble_eq_true hl) h
abbrev h83_0 (t0 t3:AVal):AFrame:=mat 61 [(0,t0),(3,t3)]
abbrev h83_1 (t0 t3 t4 t5:AVal):AFrame:=mat 61 [(0,t0),(3,t3),(4,t4),(5,t5)]
theorem w84 {args m R} (h:W Tryz.prog (.seq (.reg [qi 6 0]) (.kill [0,1,2,3] (.seq (.draw false [ql 7 2,qv 8 0,qa 9 1 7 8,ql 10 9,ql 11 2,qv 12 1,qa 13 1 11 12,ql 14 13,qc 15 86 [(.t 10),(.t 14)],ql 16 3,qv 17 0,qa 18 1 16 17,ql 19 18,ql 20 3,qv 21 1,qa 22 1 20 21,ql 23 22,qc 24 87 [(.t 19),(.t 23)],⟨some 25,.A (.bslice 3 2 [(.int .i64 0)] [(0,(1,(.t 15))),(1,(1,(.t 24)))]),none⟩,qc 26 85 [(.t 25)],qv 6 26] [[],[],[],[],[],[],[],[],[],[],[],[],[],[],[],[],[],[8],[8,17],[8,17,18],[8,17,18,19]] [[],[],[],[],[],[],[],[],[],[],[],[],[],[],[],[],[],[],[],[],[]] [0,1,2,3,4,5,6,7,8,9,10,11,12,13,14,15,16,17,18,19,20]) .ret))) (E [(.tmp 6)] R .mk) .mk (mat 27 (sArgs 0 args)) m) (hl:Nat.ble args.length 27=true:=by rfl):ACalls Tryz.prog 84 args m R:=walk mix (by kernel_rfl) (Nat.le_of_ble_eq_true hl) h
theorem w87 {args m R} (h:W Tryz.prog (.seq (.reg [qi 4 0]) (.kill [0,1] (.seq (.seq (.reg [qv 9 0,qn 10 9,qi 11 0]) (.block 0 (.kill [0,1,9,10,11] (.loop (.fin [0,1,9,10,11] (.seq (.reg [qo 12 .lss 11 10]) (.seq (.cond (.t 12) .skip (.exit 0)) (.kill [0,1,9,10,11] (.seq (.block 1 (.seq (.reg [qv 13 11,qa 14 1 9 11,ql 15 14,qv 5 13,qv 6 15]) (.kill [0,1,5,6,9,10,11] (.seq (.seq (.reg [qv 16 5,qv 17 1,qn 18 17,qo 19 .geq 16 18]) (.kill [0,1,5,6,9,10,11,19] (.cond (.t 19) (.seq (.reg [qi 4 1]) .ret) .skip))) (.kill [0,1,5,6,9,10,11] (.seq (.reg [qv 20 1,qv 21 5,qa 22 1 20 21,ql 23 22,qv 7 23]) (.kill [0,1,6,7,9,10,11] (.seq (.reg [qv 24 6,qv 25 7,qc 26 86 [(.t 24),(.t 25)],qv 8 26]) (.kill [0,1,8,9,10,11] (.seq (.reg [qv 27 8,qk 28 .neq 27 0]) (.kill [0,1,8,9,10,11,28] (.cond (.t 28) (.seq (.reg [qv 29 8,qv 4 29]) .ret) .skip)))))))))))) (.kill [0,1,9,10,11] (.reg [qk 30 .add 11 1,qv 11 30]))))))))))) (.kill [0,1] (.seq (.seq (.reg [qv 31 0,qn 32 31,qv 33 1,qn 34 33,qo 35 .lss 32 34]) (.kill [35] (.cond (.t 35) (.seq (.reg [⟨some 4,.P (.mov (.c (.int .i64 (-1)))),none⟩]) .ret) .skip))) (.kill [] (.seq (.reg [qi 4 0]) .ret))))))) (E [(.tmp 4)] R .mk) .mk (mat 36 (sArgs 0 args)) m) (hl:Nat.ble args.length 36=true:=by rfl):ACalls Tryz.prog 87 args m R:=walk mix (by kernel_rfl) (Nat.le_of_ble_eq_true hl) h
abbrev h87_0 (t0 t1 t9 t10 t11:AVal):AFrame:=mat 36 [(0,t0),(1,t1),(9,t9),(10,t10),(11,t11)]
theorem w57 {args m R} (h:W Tryz.prog (.seq (.reg [qi 4 0]) (.kill [0,1] (.seq (.seq (.reg [qv 6 0,qn 7 6,qi 8 0]) (.kill [0,1,7,8] (.block 0 (.kill [0,1,7,8] (.loop (.fin [0,1,7,8] (.seq (.reg [qo 9 .lss 8 7]) (.seq (.cond (.t 9) .skip (.exit 0)) (.kill [0,1,7,8] (.seq (.block 1 (.seq (.reg [qv 10 8,qv 5 10]) (.kill [0,1,5,7,8] (.seq (.reg [qv 11 1,qv 12 0,qv 13 5,qa 14 1 12 13,ql 15 14,qo 16 .eql 11 15]) (.kill [0,1,5,7,8,16] (.cond (.t 16) (.seq (.reg [qv 17 5,qv 4 17]) .ret) .skip)))))) (.kill [0,1,7,8] (.reg [qk 18 .add 8 1,qv 8 18])))))))))))) (.kill [] (.seq (.reg [⟨some 4,.P (.mov (.c (.int .i64 (-1)))),none⟩]) .ret))))) (E [(.tmp 4)] R .mk) .mk (mat 19 (sArgs 0 args)) m) (hl:Nat.ble args.length 19=true:=by rfl):ACalls Tryz.prog 57 args m R:=walk mix (by kernel_rfl) (Nat.le_of_ble_eq_true hl) h
abbrev h57_0 (t0 t1 t7 t8:AVal):AFrame:=mat 19 [(0,t0),(1,t1),(7,t7),(8,t8)]
theorem w104 {args m R} (h:W Tryz.prog (.seq (.reg [qi 5 0]) (.kill [0,1,2] (.seq (.draw true [ql 6 2,qv 7 0,qa 8 1 6 7,ql 9 8,ql 10 2,qv 11 1,qa 12 1 10 11,ql 13 12,qc 14 86 [(.t 9),(.t 13)],qv 15 0,qv 16 1,qc 17 86 [(.t 15),(.t 16)],⟨some 18,.A (.bslice 3 2 [(.int .i64 0)] [(0,(1,(.t 14))),(1,(1,(.t 17)))]),none⟩,qc 19 85 [(.t 18)],qv 5 19] [[],[],[],[],[],[],[],[],[],[],[],[8],[8,11],[8,11,12],[8,11,12,13]] [[],[],[],[],[],[],[],[],[],[],[],[],[],[],[]] [0,1,2,3,4,5,6,7,9,10,8,11,12,13,14]) .ret))) (E [(.tmp 5)] R .mk) .mk (mat 20 (sArgs 0 args)) m) (hl:Nat.ble args.length 20=true:=by rfl):ACalls Tryz.prog 104 args m R:=walk mix (by kernel_rfl) (Nat.le_of_ble_eq_true hl) h
theorem w106 {args m R} (h:W Tryz.prog (.seq (.reg [qb 5 false]) (.kill [0,1,2] (.seq (.draw true [ql 6 2,qv 7 0,qa 8 1 6 7,ql 9 8,ql 10 2,qv 11 1,qa 12 1 10 11,ql 13 12,qo 14 .eql 9 13,qv 5 14] [[],[],[],[],[],[],[],[],[],[]] [[],[],[],[],[],[],[],[],[],[]] [0,1,2,3,4,5,6,7,8,9]) .ret))) (E [(.tmp 5)] R .mk) .mk (mat 15 (sArgs 0 args)) m) (hl:Nat.ble args.length 15=true:=by rfl):ACalls Tryz.prog 106 args m R:=walk mix (by kernel_rfl) (Nat.le_of_ble_eq_true hl) h
theorem w124 {args m R} (h:W Tryz.prog (.seq (.reg [qb 4 false]) (.kill [0,1] (.seq (.reg [qv 5 1,qk 6 .geq 5 0,qv 7 6,⟨some 8,.P (.mov (.t 1)),(some (7,true))⟩,⟨some 9,.P (.mov (.t 0)),(some (7,true))⟩,⟨some 10,.P (.len (.t 9)),(some (7,true))⟩,⟨some 11,.P (.bin .lss (.t 8) (.t 10)),(some (7,true))⟩,⟨some 12,.P (.pick (.t 7) (.t 11) (.c (.bool false))),none⟩,qv 4 12]) .ret))) (E [(.tmp 4)] R .mk) .mk (mat 13 (sArgs 0 args)) m) (hl:Nat.ble args.length 13=true:=by rfl):ACalls Tryz.prog 124 args m R:=walk mix (by kernel_rfl) (Nat.le_of_ble_eq_true hl) h
end Go.Proofs.YtlniliigcnedmaaGreatDoor
namespace Go.Proofs.YtlniliigcnedmaaGreatDoor
open Go Ax
set_option maxRecDepth 100000
theorem w137 {args m R} (h:W Tryz.prog (.seq (.reg [qb 10 true]) (.seq (.reg [qb 11 true]) (.block 0 (.kill [0,1,2,3,4,10,11] (.loop (.fin [0,1,2,3,4,10,11] (.block 1 (.seq (.reg [qv 21 2,qv 22 1,qo 23 .sub 21 22,qv 12 23]) (.kill [0,1,2,3,4,10,11,12] (.seq (.seq (.reg [qv 24 12,qk 25 .leq 24 12]) (.kill [0,1,2,3,4,10,11,12,25] (.cond (.t 25) (.seq (.reg [qv 26 0,qv 27 1,qv 28 2,qv 29 4,qc 30 171 [(.t 26),(.t 27),(.t 28),(.t 29)]]) .ret) .skip))) (.kill [0,1,2,3,4,10,11,12] (.seq (.seq (.reg [qv 31 3,qk 32 .eql 31 0]) (.kill [0,1,2,3,4,10,11,12,32] (.cond (.t 32) (.seq (.reg [qv 33 0,qv 34 1,qv 35 2,qv 36 4,qc 37 172 [(.t 33),(.t 34),(.t 35),(.t 36)]]) .ret) .skip))) (.kill [0,1,2,3,4,10,11,12] (.seq (.seq (.reg [qv 38 10,⟨some 39,.P (.un .not (.t 38)),none⟩]) (.kill [0,1,2,3,4,10,11,12,39] (.cond (.t 39) (.seq (.reg [qv 40 0,qv 41 1,qv 42 2,qv 43 4,qc 44 173 [(.t 40),(.t 41),(.t 42),(.t 43)]]) (.kill [0,1,2,3,4,10,11,12] (.reg [qv 45 3,qk 46 .sub 45 1,qv 3 46]))) .skip))) (.kill [0,1,2,3,4,10,11,12] (.seq (.reg [qv 48 0,qv 49 1,qv 50 2,qv 51 4,qc 52 174 [(.t 48),(.t 49),(.t 50),(.t 51)],qv 47 52,qx 53 47 0,qx 54 47 1,qv 13 53,qv 14 54]) (.kill [0,1,2,3,4,10,11,12,13,14] (.seq (.seq (.reg [qv 55 14,qk 56 .eql 55 2]) (.kill [0,1,2,3,4,10,11,12,13,14,56] (.cond (.t 56) (.seq (.reg [qv 57 0,qv 58 1,qv 59 2,qv 60 4,qc 61 175 [(.t 57),(.t 58),(.t 59),(.t 60)]]) (.kill [0,1,2,3,4,10,11,12,13] (.seq (.reg [qv 62 2,qk 63 .sub 62 1,qv 64 13,qv 65 1,qo 66 .sub 64 65,qo 67 .sub 63 66,qv 13 67]) (.kill [0,1,2,3,4,10,11,12,13] (.reg [qi 14 1]))))) .skip))) (.kill [0,1,2,3,4,10,11,12,13,14] (.seq (.seq (.reg [qv 68 10,qv 69 68,⟨some 70,.P (.mov (.t 11)),(some (69,true))⟩,⟨some 71,.P (.pick (.t 69) (.t 70) (.c (.bool false))),none⟩,qv 72 71,⟨some 73,.P (.mov (.t 14)),(some (72,true))⟩,⟨some 74,.P (.bin .eql (.t 73) (qz 1)),(some (72,true))⟩,⟨some 75,.P (.pick (.t 72) (.t 74) (.c (.bool false))),none⟩]) (.kill [0,1,2,3,4,10,11,12,13,75] (.cond (.t 75) (.seq (.reg [qv 76 0,qv 77 1,qv 78 2,qv 79 4,qc 80 176 [(.t 76),(.t 77),(.t 78),(.t 79)]]) (.kill [0,1,2,3,4,10,11,12,13,80] (.cond (.t 80) .ret .skip))) .skip))) (.kill [0,1,2,3,4,10,11,12,13] (.seq (.seq (.draw true [qv 81 1,qk 82 .gtr 81 0,qv 83 82,⟨some 84,.P (.mov (.t 4)),(some (83,true))⟩,⟨some 85,.P (.mov (.t 0)),(some (83,true))⟩,⟨some 86,.P (.mov (.t 1)),(some (83,true))⟩,⟨some 87,.P (.bin .sub (.t 86) (qz 1)),(some (83,true))⟩,⟨some 88,.P (.iaddr 1 (.t 85) (.t 87)),(some (83,true))⟩,⟨some 89,.R (.load 1 false (.t 88)),(some (83,true))⟩,⟨some 90,.P (.mov (.t 0)),(some (83,true))⟩,⟨some 91,.P (.mov (.t 13)),(some (83,true))⟩,⟨some 92,.P (.iaddr 1 (.t 90) (.t 91)),(some (83,true))⟩,⟨some 93,.R (.load 1 false (.t 92)),(some (83,true))⟩,⟨some 94,.C (.t 84) [(.t 89),(.t 93)],(some (83,true))⟩,⟨some 95,.P (.bin .lss (.t 94) (qz 0)),(some (83,true))⟩,⟨some 96,.P (.un .not (.t 95)),(some (83,true))⟩,⟨some 97,.P (.pick (.t 83) (.t 96) (.c (.bool false))),none⟩] [[],[],[],[],[],[],[],[],[],[],[],[],[],[],[13],[13],[13]] [[],[],[],[],[],[],[],[],[],[],[],[],[],[],[],[],[]] [0,1,2,3,4,5,6,7,8,9,10,11,12,13,14,15,16]) (.kill [0,1,2,3,4,10,11,12,13,97] (.cond (.t 97) (.seq (.reg [qv 98 0,qv 99 1,qv 100 2,qv 101 13,qv 102 4,qc 103 177 [(.t 98),(.t 99),(.t 100),(.t 101),(.t 102)],qv 15 103]) (.kill [0,2,3,4,10,11,15] (.seq (.reg [qv 104 15,qv 1 104]) (.exit 1)))) .skip))) (.kill [0,1,2,3,4,12,13] (.seq (.reg [qv 106 0,qv 107 1,qv 108 2,qv 109 13,qv 110 4,qc 111 178 [(.t 106),(.t 107),(.t 108),(.t 109),(.t 110)],qv 105 111,qx 112 105 0,qx 113 105 1,qv 16 112,qv 17 113]) (.kill [0,1,2,3,4,12,16,17] (.seq (.reg [qv 114 17,qv 11 114]) (.kill [0,1,2,3,4,11,12,16] (.seq (.reg [qv 115 16,qv 116 1,qo 117 .sub 115 116,qv 118 2,qv 119 16,qo 120 .sub 118 119,qv 18 117,qv 19 120]) (.kill [0,1,2,3,4,11,12,16,18,19] (.seq (.reg [qv 121 12,qk 122 .quo 121 8,qv 20 122]) (.kill [0,1,2,3,4,11,16,18,19,20] (.seq (.reg [qv 123 18,qv 124 19,qo 125 .lss 123 124]) (.kill [0,1,2,3,4,11,16,18,19,20,125] (.cond (.t 125) (.seq (.reg [qv 126 18,qv 127 20,qo 128 .geq 126 127,qv 10 128]) (.kill [0,1,2,3,4,10,11,16] (.seq (.reg [qv 129 0,qv 130 1,qv 131 16,qv 132 3,qv 133 4,qc 134 137 [(.t 129),(.t 130),(.t 131),(.t 132),(.t 133)]]) (.kill [0,2,3,4,10,11,16] (.reg [qv 135 16,qk 136 .add 135 1,qv 1 136]))))) (.seq (.reg [qv 137 19,qv 138 20,qo 139 .geq 137 138,qv 10 139]) (.kill [0,1,2,3,4,10,11,16] (.seq (.reg [qv 140 0,qv 141 16,qk 142 .add 141 1,qv 143 2,qv 144 3,qv 145 4,qc 146 137 [(.t 140),(.t 142),(.t 143),(.t 144),(.t 145)]]) (.kill [0,1,3,4,10,11,16] (.reg [qv 147 16,qv 2 147]))))))))))))))))))))))))))))))))))))))) (E [] R .mk) .mk (mat 148 (sArgs 0 args)) m) (hl:Nat.ble args.length 148=true:=by rfl):ACalls Tryz.prog 137 args m R:=walk mix (by kernel_rfl) (Nat.le_of_ble_eq_true hl) h
abbrev h137_0 (t0 t1 t2 t3 t4 t10 t11:AVal):AFrame:=mat 148 [(0,t0),(1,t1),(2,t2),(3,t3),(4,t4),(10,t10),(11,t11)]
theorem w115 {args m R} (h:W Tryz.prog (.seq (.reg [qi 2 0]) (.kill [0] (.seq (.cond (.c (.bool false)) (.seq (.reg [qv 3 0,⟨some 4,.P (.i2i .u32 (.t 3)),none⟩,qc 5 154 [(.t 4)],qv 2 5]) .ret) .skip) (.seq (.reg [qv 6 0,qc 7 155 [(.t 6)],qv 2 7]) .ret)))) (E [(.tmp 2)] R .mk) .mk (mat 8 (sArgs 0 args)) m) (hl:Nat.ble args.length 8=true:=by rfl):ACalls Tryz.prog 115 args m R:=walk mix (by kernel_rfl) (Nat.le_of_ble_eq_true hl) h
theorem w119 {args m R} (h:W Tryz.prog (.seq (.reg [qb 2 false]) (.kill [0] (.seq (.reg [qv 3 0,qv 4 0,qo 5 .neq 3 4,qv 2 5]) .ret))) (E [(.tmp 2)] R .mk) .mk (mat 6 (sArgs 0 args)) m) (hl:Nat.ble args.length 6=true:=by rfl):ACalls Tryz.prog 119 args m R:=walk mix (by kernel_rfl) (Nat.le_of_ble_eq_true hl) h
theorem w122 {args m R} (h:W Tryz.prog (.seq (.reg [⟨some 1,.A (.box 39 (.t 0)),none⟩,qi 2 0]) (.kill [1] (.seq (.seq (.reg [⟨some 8,.P (.faddr 0 (.t 1)),none⟩,ql 9 8,qk 10 .lss 9 0,qv 11 10,⟨some 12,.P (.faddr 0 (.t 1)),(some (11,false))⟩,⟨some 13,.R (.load 1 false (.t 12)),(some (11,false))⟩,⟨some 14,.P (.bin .geq (.t 13) (qz 14)),(some (11,false))⟩,⟨some 15,.P (.pick (.t 11) (.c (.bool true)) (.t 14)),none⟩]) (.kill [1,15] (.cond (.t 15) (.seq (.reg [qi 2 13]) .ret) .skip))) (.kill [1] (.seq (.reg [qi 3 0,qi 4 0]) (.seq (.seq (.reg [⟨some 16,.P (.faddr 0 (.t 1)),none⟩,ql 17 16]) (.kill [1,3,4,17] (.block 0 (.seq (.seq (.reg [qk 19 .eql 17 9,qv 18 19]) (.kill [1,3,4,17,18] (.cond (.t 18) .skip (.reg [qk 20 .eql 17 10,qv 18 20])))) (.kill [1,3,4,17,18] (.cond (.t 18) (.reg [qi 3 1,qi 4 1]) (.seq (.seq (.reg [qk 22 .eql 17 11,qv 21 22]) (.kill [1,3,4,17,21] (.cond (.t 21) .skip (.reg [qk 23 .eql 17 13,qv 21 23])))) (.kill [1,3,4,17,21] (.cond (.t 21) (.draw true [⟨some 24,.P (.faddr 2 (.t 1)),none⟩,ql 25 24,qn 26 25,qi 3 1,qv 4 26] [[],[],[],[],[]] [[],[],[],[],[]] [0,1,2,3,4]) (.seq (.reg [qk 28 .eql 17 12,qv 27 28]) (.kill [1,3,4,27] (.cond (.t 27) (.draw true [⟨some 29,.P (.faddr 2 (.t 1)),none⟩,ql 30 29,qn 31 30,qi 3 2,qv 4 31] [[],[],[],[],[]] [[],[],[],[],[]] [0,1,2,3,4]) .skip)))))))))))) (.kill [1,3,4] (.seq (.draw true [⟨some 32,.P (.faddr 0 (.t 1)),none⟩,ql 33 32,qk 34 .eql 33 10,⟨some 35,.P (.faddr 0 (.t 1)),none⟩,ql 36 35,qk 37 .eql 36 3,qv 38 37,⟨some 39,.P (.faddr 0 (.t 1)),(some (38,false))⟩,⟨some 40,.R (.load 1 false (.t 39)),(some (38,false))⟩,⟨some 41,.P (.bin .eql (.t 40) (qz 4)),(some (38,false))⟩,⟨some 42,.P (.pick (.t 38) (.c (.bool true)) (.t 41)),none⟩,qv 43 42,⟨some 44,.P (.faddr 0 (.t 1)),(some (43,false))⟩,⟨some 45,.R (.load 1 false (.t 44)),(some (43,false))⟩,⟨some 46,.P (.bin .eql (.t 45) (qz 5)),(some (43,false))⟩,⟨some 47,.P (.pick (.t 43) (.c (.bool true)) (.t 46)),none⟩,qi 5 0,qv 6 34,qv 7 47] [[],[],[],[],[],[],[],[],[],[],[],[],[],[],[],[],[],[],[]] [[],[],[],[],[],[],[],[],[],[],[],[],[],[],[],[],[],[],[]] [0,1,2,3,4,5,6,7,8,9,10,11,12,13,14,15,16,17,18]) (.kill [1,3,4,5,6,7] (.seq (.seq (.reg [⟨some 48,.P (.faddr 0 (.t 1)),none⟩,ql 49 48,qk 50 .eql 49 11]) (.kill [1,3,4,5,6,7,50] (.cond (.t 50) (.reg [⟨some 51,.P (.faddr 2 (.t 1)),none⟩,ql 52 51,qn 53 52,qv 5 53]) .skip))) (.kill [1,3,4,5,6,7] (.seq (.block 1 (.seq (.seq (.reg [⟨some 55,.P (.faddr 2 (.t 1)),none⟩,ql 56 55,qn 57 56,qv 58 3,qo 59 .lss 57 58,qv 60 59,⟨some 61,.P (.faddr 2 (.t 1)),(some (60,false))⟩,⟨some 62,.R (.load 1 false (.t 61)),(some (60,false))⟩,⟨some 63,.P (.len (.t 62)),(some (60,false))⟩,⟨some 64,.P (.mov (.t 4)),(some (60,false))⟩,⟨some 65,.P (.bin .gtr (.t 63) (.t 64)),(some (60,false))⟩,⟨some 66,.P (.pick (.t 60) (.c (.bool true)) (.t 65)),none⟩,qv 54 66]) (.kill [1,5,6,7,54] (.cond (.t 54) .skip (.reg [⟨some 67,.P (.faddr 3 (.t 1)),none⟩,ql 68 67,qn 69 68,qv 70 5,qo 71 .neq 69 70,qv 54 71])))) (.kill [1,6,7,54] (.cond (.t 54) (.seq (.reg [qi 2 14]) .ret) (.seq (.reg [qv 73 6,qv 74 73,⟨some 75,.P (.faddr 4 (.t 1)),(some (74,true))⟩,⟨some 76,.R (.load 1 false (.t 75)),(some (74,true))⟩,⟨some 77,.P (.bin .lss (.t 76) (qz 1)),(some (74,true))⟩,⟨some 78,.P (.mov (.t 77)),(some (74,true))⟩,⟨some 79,.P (.faddr 4 (.t 1)),(some (78,false))⟩,⟨some 80,.R (.load 1 false (.t 79)),(some (78,false))⟩,⟨some 81,.P (.bin .gtr (.t 80) (qz 3)),(some (78,false))⟩,⟨some 82,.P (.pick (.t 78) (.c (.bool true)) (.t 81)),(some (74,true))⟩,⟨some 83,.P (.pick (.t 74) (.t 82) (.c (.bool false))),none⟩,qv 84 83,⟨some 85,.P (.mov (.t 6)),(some (84,false))⟩,⟨some 86,.P (.un .not (.t 85)),(some (84,false))⟩,⟨some 87,.P (.mov (.t 86)),(some (84,false))⟩,⟨some 88,.P (.faddr 4 (.t 1)),(some (87,true))⟩,⟨some 89,.R (.load 1 false (.t 88)),(some (87,true))⟩,⟨some 90,.P (.bin .neq (.t 89) (qz 0)),(some (87,true))⟩,⟨some 91,.P (.pick (.t 87) (.t 90) (.c (.bool false))),(some (84,false))⟩,⟨some 92,.P (.pick (.t 84) (.c (.bool true)) (.t 91)),none⟩,qv 72 92]) (.kill [1,6,7,72] (.cond (.t 72) (.seq (.reg [qi 2 14]) .ret) (.seq (.reg [qv 94 7,qv 95 94,⟨some 96,.P (.faddr 1 (.t 1)),(some (95,true))⟩,⟨some 97,.R (.load 1 false (.t 96)),(some (95,true))⟩,⟨some 98,.P (.bin .lss (.t 97) (.c (.int .i64 (-1)))),(some (95,true))⟩,⟨some 99,.P (.mov (.t 98)),(some (95,true))⟩,⟨some 100,.P (.faddr 1 (.t 1)),(some (99,false))⟩,⟨some 101,.R (.load 1 false (.t 100)),(some (99,false))⟩,⟨some 102,.P (.bin .gtr (.t 101) (qz 1)),(some (99,false))⟩,⟨some 103,.P (.pick (.t 99) (.c (.bool true)) (.t 102)),(some (95,true))⟩,⟨some 104,.P (.pick (.t 95) (.t 103) (.c (.bool false))),none⟩,qv 105 104,⟨some 106,.P (.mov (.t 7)),(some (105,false))⟩,⟨some 107,.P (.un .not (.t 106)),(some (105,false))⟩,⟨some 108,.P (.mov (.t 107)),(some (105,false))⟩,⟨some 109,.P (.faddr 1 (.t 1)),(some (108,true))⟩,⟨some 110,.R (.load 1 false (.t 109)),(some (108,true))⟩,⟨some 111,.P (.bin .neq (.t 110) (qz 0)),(some (108,true))⟩,⟨some 112,.P (.pick (.t 108) (.t 111) (.c (.bool false))),(some (105,false))⟩,⟨some 113,.P (.pick (.t 105) (.c (.bool true)) (.t 112)),none⟩,qv 93 113]) (.kill [1,6,93] (.cond (.t 93) (.seq (.reg [qi 2 14]) .ret) (.seq (.reg [⟨some 115,.P (.faddr 5 (.t 1)),none⟩,ql 116 115,qv 117 116,⟨some 118,.P (.mov (.t 6)),(some (117,true))⟩,⟨some 119,.P (.un .not (.t 118)),(some (117,true))⟩,⟨some 120,.P (.pick (.t 117) (.t 119) (.c (.bool false))),none⟩,qv 114 120]) (.kill [1,114] (.cond (.t 114) (.seq (.reg [qi 2 14]) .ret) (.seq (.reg [⟨some 122,.P (.faddr 2 (.t 1)),none⟩,ql 123 122,qn 124 123,qk 125 .gtr 124 64,qv 121 125]) (.kill [121] (.cond (.t 121) (.seq (.reg [qi 2 3]) .ret) .skip)))))))))))))))) (.kill [] (.seq (.reg [qi 2 0]) .ret)))))))))))))) (E [(.tmp 2)] R .mk) .mk (mat 126 (sArgs 0 args)) m) (hl:Nat.ble args.length 126=true:=by rfl):ACalls Tryz.prog 122 args m R:=walk mix (by kernel_rfl) (Nat.le_of_ble_eq_true hl) h
theorem w123 {args m R} (h:W Tryz.prog (.seq (.reg [qb 3 false]) (.kill [0,1] (.seq (.reg [ql 4 1,qv 5 0,qc 6 124 [(.t 4),(.t 5)],⟨some 7,.P (.un .not (.t 6)),none⟩,qv 3 7]) .ret))) (E [(.tmp 3)] R .mk) .mk (mat 8 (sArgs 0 args)) m) (hl:Nat.ble args.length 8=true:=by rfl):ACalls Tryz.prog 123 args m R:=walk mix (by kernel_rfl) (Nat.le_of_ble_eq_true hl) h
theorem w125 {args m R} (h:W Tryz.prog (.seq (.reg [qb 4 false]) (.kill [0,1] (.seq (.reg [qv 5 0,qv 6 1,qc 7 168 [(.t 5),(.t 6)],qk 8 .geq 7 0,qv 4 8]) .ret))) (E [(.tmp 4)] R .mk) .mk (mat 9 (sArgs 0 args)) m) (hl:Nat.ble args.length 9=true:=by rfl):ACalls Tryz.prog 125 args m R:=walk mix (by kernel_rfl) (Nat.le_of_ble_eq_true hl) h
theorem w126 {args m R} (h:W Tryz.prog (.seq (.reg [qb 2 false]) (.kill [0] (.seq (.reg [qv 3 0,qc 4 127 [(.t 3)],⟨some 5,.P (.un .not (.t 4)),none⟩,qv 2 5]) .ret))) (E [(.tmp 2)] R .mk) .mk (mat 6 (sArgs 0 args)) m) (hl:Nat.ble args.length 6=true:=by rfl):ACalls Tryz.prog 126 args m R:=walk mix (by kernel_rfl) (Nat.le_of_ble_eq_true hl) h
theorem w127 {args m R} (h:W Tryz.prog (.seq (.reg [qb 2 false]) (.kill [0] (.seq (.reg [qv 3 0,qc 4 169 [(.t 3),(.c (.int .u8 97)),(.c (.int .u8 122))],qv 2 4]) .ret))) (E [(.tmp 2)] R .mk) .mk (mat 5 (sArgs 0 args)) m) (hl:Nat.ble args.length 5=true:=by rfl):ACalls Tryz.prog 127 args m R:=walk mix (by kernel_rfl) (Nat.le_of_ble_eq_true hl) h
theorem w128 {args m R} (h:W Tryz.prog (.seq (.reg [qb 4 false]) (.kill [0,1] (.seq (.reg [qv 5 0,qv 6 1,qc 7 170 [(.t 5),(.t 6)],qk 8 .geq 7 0,qv 4 8]) .ret))) (E [(.tmp 4)] R .mk) .mk (mat 9 (sArgs 0 args)) m) (hl:Nat.ble args.length 9=true:=by rfl):ACalls Tryz.prog 128 args m R:=walk mix (by kernel_rfl) (Nat.le_of_ble_eq_true hl) h
theorem w129 {args m R} (h:W Tryz.prog (.seq (.reg [qb 3 false]) (.kill [0,1] (.seq (.reg [ql 4 1,qv 5 0,qa 6 6 4 5,⟨some 7,.P (.faddr 0 (.t 6)),none⟩,ql 8 7,qk 9 .eql 8 0,qv 3 9]) .ret))) (E [(.tmp 3)] R .mk) .mk (mat 10 (sArgs 0 args)) m) (hl:Nat.ble args.length 10=true:=by rfl):ACalls Tryz.prog 129 args m R:=walk mix (by kernel_rfl) (Nat.le_of_ble_eq_true hl) h
theorem w130 {args m R} (h:W Tryz.prog (.seq (.reg [qi 4 0]) (.kill [0,1] (.seq (.seq (.reg [qv 6 0,qn 7 6,qi 8 0]) (.kill [0,1,7,8] (.block 0 (.kill [0,1,7,8] (.loop (.fin [0,1,7,8] (.seq (.reg [qo 9 .lss 8 7]) (.seq (.cond (.t 9) .skip (.exit 0)) (.kill [0,1,7,8] (.seq (.block 1 (.seq (.reg [qv 10 8,qv 5 10]) (.kill [0,1,5,7,8] (.seq (.reg [qv 11 1,qv 12 0,qv 13 5,qa 14 1 12 13,ql 15 14,⟨some 16,.P (.eqB false (.t 11) (.t 15)),none⟩]) (.kill [0,1,5,7,8,16] (.cond (.t 16) (.seq (.reg [qv 17 5,qv 4 17]) .ret) .skip)))))) (.kill [0,1,7,8] (.reg [qk 18 .add 8 1,qv 8 18])))))))))))) (.kill [] (.seq (.reg [⟨some 4,.P (.mov (.c (.int .i64 (-1)))),none⟩]) .ret))))) (E [(.tmp 4)] R .mk) .mk (mat 19 (sArgs 0 args)) m) (hl:Nat.ble args.length 19=true:=by rfl):ACalls Tryz.prog 130 args m R:=walk mix (by kernel_rfl) (Nat.le_of_ble_eq_true hl) h
abbrev h130_0 (t0 t1 t7 t8:AVal):AFrame:=mat 19 [(0,t0),(1,t1),(7,t7),(8,t8)]
theorem w131 {args m R} (h:W Tryz.prog (.seq (.reg [⟨some 1,.A (.box 39 (.t 0)),none⟩,qb 2 false]) (.kill [1] (.seq (.reg [⟨some 3,.P (.faddr 0 (.t 1)),none⟩,ql 4 3,qk 5 .eql 4 9,qv 6 5,⟨some 7,.P (.faddr 0 (.t 1)),(some (6,false))⟩,⟨some 8,.R (.load 1 false (.t 7)),(some (6,false))⟩,⟨some 9,.P (.bin .eql (.t 8) (qz 13)),(some (6,false))⟩,⟨some 10,.P (.pick (.t 6) (.c (.bool true)) (.t 9)),none⟩,qv 2 10]) .ret))) (E [(.tmp 2)] R .mk) .mk (mat 11 (sArgs 0 args)) m) (hl:Nat.ble args.length 11=true:=by rfl):ACalls Tryz.prog 131 args m R:=walk mix (by kernel_rfl) (Nat.le_of_ble_eq_true hl) h
theorem w132 {args m R} (h:W Tryz.prog (.seq (.reg [⟨some 1,.A (.box 39 (.t 0)),none⟩,qb 2 false]) (.kill [1] (.seq (.reg [⟨some 3,.P (.faddr 0 (.t 1)),none⟩,ql 4 3,qk 5 .eql 4 11,qv 6 5,⟨some 7,.P (.faddr 0 (.t 1)),(some (6,false))⟩,⟨some 8,.R (.load 1 false (.t 7)),(some (6,false))⟩,⟨some 9,.P (.bin .eql (.t 8) (qz 13)),(some (6,false))⟩,⟨some 10,.P (.mov (.t 9)),(some (6,false))⟩,⟨some 11,.P (.faddr 2 (.t 1)),(some (10,true))⟩,⟨some 12,.R (.load 1 false (.t 11)),(some (10,true))⟩,⟨some 13,.P (.len (.t 12)),(some (10,true))⟩,⟨some 14,.P (.bin .gtr (.t 13) (qz 1)),(some (10,true))⟩,⟨some 15,.P (.pick (.t 10) (.t 14) (.c (.bool false))),(some (6,false))⟩,⟨some 16,.P (.pick (.t 6) (.c (.bool true)) (.t 15)),none⟩,qv 2 16]) .ret))) (E [(.tmp 2)] R .mk) .mk (mat 17 (sArgs 0 args)) m) (hl:Nat.ble args.length 17=true:=by rfl):ACalls Tryz.prog 132 args m R:=walk mix (by kernel_rfl) (Nat.le_of_ble_eq_true hl) h
theorem w133 {args m R} (h:W Tryz.prog (.seq (.reg [⟨some 6,.P (.mov (.c .nilslice)),none⟩]) (.kill [0,1,2] (.seq (.reg [qv 12 0,qn 13 12,⟨some 14,.A (.mkslice 4 1 [(.bool false)] (.t 13) (.t 13)),none⟩,qv 7 14]) (.kill [0,1,2,7] (.seq (.seq (.reg [qv 15 1,⟨some 16,.A (.bslice 3 1 [(.int .i64 0)] [(0,(1,(.t 15)))]),none⟩,qv 8 16]) (.kill [0,2,7,8] (.block 0 (.kill [0,2,7,8] (.loop (.fin [0,2,7,8] (.seq (.seq (.reg [qv 17 8,qn 18 17,qk 19 .gtr 18 0]) (.kill [0,2,7,8,19] (.cond (.t 19) .skip (.exit 0)))) (.kill [0,2,7,8] (.block 1 (.seq (.reg [qv 20 0,qv 21 8,qv 22 8,qn 23 22,qk 24 .sub 23 1,qa 25 1 21 24,ql 26 25,qa 27 6 20 26,⟨some 28,.R (.load 6 true (.t 27)),none⟩,⟨some 9,.A (.alloc 39 [(.int .i64 0),(.int .i64 0),.nilslice,.nilslice,(.int .i64 0),(.bool false)]),none⟩,⟨none,.W (.store 6 (.t 9) (.t 28)),none⟩]) (.kill [0,2,7,8,9] (.seq (.reg [qv 29 8,qv 30 8,qn 31 30,qk 32 .sub 31 1,⟨some 33,.P (.slice 1 (.t 29) none (some (.t 32)) none),none⟩,qv 8 33]) (.kill [0,2,7,8,9] (.seq (.seq (.reg [qv 34 2,⟨some 35,.R (.load 6 true (.t 9)),none⟩,⟨some 36,.C (.t 34) [(.t 35)],none⟩,⟨some 37,.P (.un .not (.t 36)),none⟩]) (.kill [0,2,7,8,9,37] (.cond (.t 37) (.exit 1) .skip))) (.kill [0,2,7,8,9] (.seq (.reg [⟨some 38,.P (.faddr 2 (.t 9)),none⟩,ql 39 38,qn 40 39,qi 41 0]) (.kill [0,2,7,8,39,40,41] (.block 2 (.kill [0,2,7,8,39,40,41] (.loop (.fin [0,2,7,8,39,40,41] (.seq (.reg [qo 42 .lss 41 40]) (.seq (.cond (.t 42) .skip (.exit 2)) (.kill [0,2,7,8,39,40,41] (.seq (.block 3 (.seq (.reg [qa 43 1 39 41,ql 44 43,qv 11 44]) (.kill [0,2,7,8,11,39,40,41] (.seq (.reg [qv 45 7,qv 46 11,qa 47 1 45 46,ql 48 47,⟨some 49,.P (.un .not (.t 48)),none⟩]) (.kill [0,2,7,8,11,39,40,41,49] (.cond (.t 49) (.seq (.reg [qv 50 7,qv 51 11,qa 52 1 50 51,⟨none,.W (.store 1 (.t 52) (.c (.bool true))),none⟩]) (.kill [0,2,7,8,11,39,40,41] (.reg [qv 53 8,qv 54 11,⟨some 55,.A (.bslice 3 1 [(.int .i64 0)] [(0,(1,(.t 54)))]),none⟩,⟨some 56,.W (.append 1 8 3 false (.t 53) (.t 55)),none⟩,qv 8 56]))) .skip)))))) (.kill [0,2,7,8,39,40,41] (.reg [qk 57 .add 41 1,qv 41 57]))))))))))))))))))))))))))) (.kill [7] (.seq (.reg [qv 58 7,qv 6 58]) .ret))))))) (E [(.tmp 6)] R .mk) .mk (mat 59 (sArgs 0 args)) m) (hl:Nat.ble args.length 59=true:=by rfl):ACalls Tryz.prog 133 args m R:=walk mix (by kernel_rfl) (Nat.le_of_ble_eq_true hl) h
abbrev h133_0 (t0 t2 t7 t8:AVal):AFrame:=mat 59 [(0,t0),(2,t2),(7,t7),(8,t8)]
abbrev h133_1 (t0 t2 t7 t8 t39 t40 t41:AVal):AFrame:=mat 59 [(0,t0),(2,t2),(7,t7),(8,t8),(39,t39),(40,t40),(41,t41)]
theorem w134 {args m R} (h:W Tryz.prog (.seq (.reg [⟨some 2,.A (.box 39 (.t 0)),none⟩,qb 3 false]) (.kill [1,2] (.seq (.reg [ql 4 1,⟨some 5,.R (.load 6 true (.t 2)),none⟩,⟨some 6,.C (.t 4) [(.t 5)],none⟩,⟨some 7,.P (.un .not (.t 6)),none⟩,qv 3 7]) .ret))) (E [(.tmp 3)] R .mk) .mk (mat 8 (sArgs 0 args)) m) (hl:Nat.ble args.length 8=true:=by rfl):ACalls Tryz.prog 134 args m R:=walk mix (by kernel_rfl) (Nat.le_of_ble_eq_true hl) h
theorem w135 {args m R} (h:W Tryz.prog (.seq (.reg [⟨some 1,.A (.box 39 (.t 0)),none⟩,qb 2 false]) (.kill [] (.seq (.reg [qb 2 true]) .ret))) (E [(.tmp 2)] R .mk) .mk (mat 3 (sArgs 0 args)) m) (hl:Nat.ble args.length 3=true:=by rfl):ACalls Tryz.prog 135 args m R:=walk mix (by kernel_rfl) (Nat.le_of_ble_eq_true hl) h
theorem w136 {args m R} (h:W Tryz.prog (.seq (.reg [qb 6 false]) (.kill [0,1,2,3,4] (.seq (.seq (.reg [ql 10 1,qv 11 0,qa 12 6 10 11,⟨some 13,.R (.load 6 true (.t 12)),none⟩,⟨some 7,.A (.alloc 39 [(.int .i64 0),(.int .i64 0),.nilslice,.nilslice,(.int .i64 0),(.bool false)]),none⟩,⟨none,.W (.store 6 (.t 7) (.t 13)),none⟩]) (.kill [0,2,3,4,7] (.seq (.reg [ql 14 2,qv 15 0,qa 16 1 14 15,ql 17 16,⟨some 18,.P (.un .not (.t 17)),none⟩,qv 19 18,⟨some 20,.P (.faddr 0 (.t 7)),(some (19,true))⟩,⟨some 21,.R (.load 1 false (.t 20)),(some (19,true))⟩,⟨some 22,.P (.bin .eql (.t 21) (qz 10)),(some (19,true))⟩,⟨some 23,.P (.mov (.t 22)),(some (19,true))⟩,⟨some 24,.P (.faddr 0 (.t 7)),(some (23,false))⟩,⟨some 25,.R (.load 1 false (.t 24)),(some (23,false))⟩,⟨some 26,.P (.bin .eql (.t 25) (qz 11)),(some (23,false))⟩,⟨some 27,.P (.pick (.t 23) (.c (.bool true)) (.t 26)),(some (19,true))⟩,⟨some 28,.P (.pick (.t 19) (.t 27) (.c (.bool false))),none⟩]) (.kill [0,2,3,4,7,28] (.cond (.t 28) (.seq (.reg [ql 29 2,qv 30 0,qa 31 1 29 30,⟨none,.W (.store 1 (.t 31) (.c (.bool true))),none⟩]) (.kill [0,3,4,7] (.seq (.reg [ql 32 3,qv 33 0,⟨some 34,.P (.faddr 5 (.t 7)),none⟩,ql 35 34,qa 36 1 32 33,⟨none,.W (.store 1 (.t 36) (.t 35)),none⟩]) (.kill [0,3,4,7] (.seq (.reg [⟨some 37,.P (.faddr 2 (.t 7)),none⟩,ql 38 37,qn 39 38,qi 40 0]) (.kill [0,3,4,38,39,40] (.block 0 (.kill [0,3,4,38,39,40] (.loop (.fin [0,3,4,38,39,40] (.seq (.reg [qo 41 .lss 40 39]) (.seq (.cond (.t 41) .skip (.exit 0)) (.kill [0,3,4,38,39,40] (.seq (.block 1 (.seq (.reg [qa 42 1 38 40,ql 43 42,qv 9 43]) (.kill [0,3,4,9,38,39,40] (.draw true [ql 44 3,qv 45 0,ql 46 4,qv 47 9,⟨some 48,.C (.t 46) [(.t 47)],none⟩,qv 49 48,⟨some 50,.R (.load 1 false (.t 3)),(some (49,false))⟩,⟨some 51,.P (.mov (.t 0)),(some (49,false))⟩,⟨some 52,.P (.iaddr 1 (.t 50) (.t 51)),(some (49,false))⟩,⟨some 53,.R (.load 1 false (.t 52)),(some (49,false))⟩,⟨some 54,.P (.pick (.t 49) (.c (.bool true)) (.t 53)),none⟩,qa 55 1 44 45,⟨none,.W (.store 1 (.t 55) (.t 54)),none⟩] [[],[],[],[],[],[4],[4],[4],[4],[4],[4],[4],[4]] [[],[],[],[],[0],[],[],[],[],[],[],[],[]] [0,1,2,3,4,5,6,7,8,9,10,11,12])))) (.kill [0,3,4,38,39,40] (.reg [qk 56 .add 40 1,qv 40 56])))))))))))))))) .skip))))) (.kill [0,3] (.seq (.reg [ql 57 3,qv 58 0,qa 59 1 57 58,ql 60 59,qv 6 60]) .ret))))) (E [(.tmp 6)] R .mk) .mk (mat 61 (sArgs 0 args)) m) (hl:Nat.ble args.length 61=true:=by rfl):ACalls Tryz.prog 136 args m R:=walk mix (by kernel_rfl) (Nat.le_of_ble_eq_true hl) h
abbrev h136_0 (t0 t3 t4 t38 t39 t40:AVal):AFrame:=mat 61 [(0,t0),(3,t3),(4,t4),(38,t38),(39,t39),(40,t40)]
theorem w116 {args m R} (h:W Tryz.prog (.seq (.reg [qi 2 0]) (.kill [0] (.seq (.seq (.reg [qv 3 0]) (.kill [3] (.cond (.t 3) (.seq (.reg [qi 2 1]) .ret) .skip))) (.kill [] (.seq (.reg [qi 2 0]) .ret))))) (E [(.tmp 2)] R .mk) .mk (mat 4 (sArgs 0 args)) m) (hl:Nat.ble args.length 4=true:=by rfl):ACalls Tryz.prog 116 args m R:=walk mix (by kernel_rfl) (Nat.le_of_ble_eq_true hl) h
theorem w117 {args m R} (h:W Tryz.prog (.seq (.reg [qi 4 0]) (.kill [0,1] (.seq (.seq (.reg [qv 9 0,qn 10 9,qi 11 0]) (.block 0 (.kill [0,1,9,10,11] (.loop (.fin [0,1,9,10,11] (.seq (.reg [qo 12 .lss 11 10]) (.seq (.cond (.t 12) .skip (.exit 0)) (.kill [0,1,9,10,11] (.seq (.block 1 (.seq (.reg [qv 13 11,qa 14 1 9 11,ql 15 14,qv 5 13,qv 6 15]) (.kill [0,1,5,6,9,10,11] (.seq (.seq (.reg [qv 16 5,qv 17 1,qn 18 17,qo 19 .geq 16 18]) (.kill [0,1,5,6,9,10,11,19] (.cond (.t 19) (.seq (.reg [qi 4 1]) .ret) .skip))) (.kill [0,1,5,6,9,10,11] (.seq (.reg [qv 20 1,qv 21 5,qa 22 1 20 21,ql 23 22,qv 7 23]) (.kill [0,1,6,7,9,10,11] (.seq (.reg [qv 24 6,qv 25 7,qc 26 156 [(.t 24),(.t 25)],qv 8 26]) (.kill [0,1,8,9,10,11] (.seq (.reg [qv 27 8,qk 28 .neq 27 0]) (.kill [0,1,8,9,10,11,28] (.cond (.t 28) (.seq (.reg [qv 29 8,qv 4 29]) .ret) .skip)))))))))))) (.kill [0,1,9,10,11] (.reg [qk 30 .add 11 1,qv 11 30]))))))))))) (.kill [0,1] (.seq (.seq (.reg [qv 31 0,qn 32 31,qv 33 1,qn 34 33,qo 35 .lss 32 34]) (.kill [35] (.cond (.t 35) (.seq (.reg [⟨some 4,.P (.mov (.c (.int .i64 (-1)))),none⟩]) .ret) .skip))) (.kill [] (.seq (.reg [qi 4 0]) .ret))))))) (E [(.tmp 4)] R .mk) .mk (mat 36 (sArgs 0 args)) m) (hl:Nat.ble args.length 36=true:=by rfl):ACalls Tryz.prog 117 args m R:=walk mix (by kernel_rfl) (Nat.le_of_ble_eq_true hl) h
abbrev h117_0 (t0 t1 t9 t10 t11:AVal):AFrame:=mat 36 [(0,t0),(1,t1),(9,t9),(10,t10),(11,t11)]
end Go.Proofs.YtlniliigcnedmaaGreatDoor
namespace Go.Proofs.YtlniliigcnedmaaGreatDoor
open Go Ax
set_option maxRecDepth 100000
theorem w163 {args m R} (h:W Tryz.prog (.seq (.reg [qb 4 false]) (.kill [0,1] (.seq (.reg [qv 5 0,qc 6 119 [(.t 5)],qv 7 6,⟨some 8,.P (.mov (.t 1)),(some (7,true))⟩,⟨some 9,.C (.c (.func (.func 119) [] [])) [(.t 8)],(some (7,true))⟩,⟨some 10,.P (.un .not (.t 9)),(some (7,true))⟩,⟨some 11,.P (.pick (.t 7) (.t 10) (.c (.bool false))),none⟩,qv 12 11,⟨some 13,.P (.mov (.t 0)),(some (12,false))⟩,⟨some 14,.P (.mov (.t 1)),(some (12,false))⟩,⟨some 15,.P (.bin .lss (.t 13) (.t 14)),(some (12,false))⟩,⟨some 16,.P (.pick (.t 12) (.c (.bool true)) (.t 15)),none⟩,qv 4 16]) .ret))) (E [(.tmp 4)] R .mk) .mk (mat 17 (sArgs 0 args)) m) (hl:Nat.ble args.length 17=true:=by rfl):ACalls Tryz.prog 163 args m R:=walk mix (by kernel_rfl) (Nat.le_of_ble_eq_true hl) h
end Go.Proofs.YtlniliigcnedmaaGreatDoor
namespace Go.Proofs.YtlniliigcnedmaaGreatDoor
open Go Ax
set_option maxRecDepth 100000
def cmpI (a b:Int):Int:=if a<b then-1 else if b<a then 1 else 0
theorem k119 (a:Int) (m:AMem):ACalls Tryz.prog 119 [.int .i64 a] m fun v m'=>v= .bool false∧m'=m:=by
 refine w119 ?_
 simp
theorem k86 (a b:Int) (m:AMem):ACalls Tryz.prog 86 [.int .i64 a,.int .i64 b] m fun v m'=>v= .int .i64 (cmpI a b)∧m'=m:=by
 refine w86 ?_
 simp
 refine C_of (k119 a m) ?_
 rintro _ _ ⟨rfl,rfl⟩
 simp
 refine C_of (k119 b _) ?_
 rintro _ _ ⟨rfl,rfl⟩
 simp
 refine bbind_dec (fun h=>?_) fun h=>?_
 ·simp[cmpI,h]
 ·simp
  refine bbind_dec (fun h'=>?_) fun h'=>?_
  ·have h':b<a:=h'
   simp[cmpI,h,h']
  ·have h': ¬b<a:=h'
   simp[cmpI,h,h']
def firstNZ (xs:List Int):Int:=(xs.find? (· ≠0)).getD 0
theorem firstNZ_cons (x:Int) (xs:List Int):firstNZ (x::xs)=if x≠0 then x else firstNZ xs:=by
 by_cases h:x=0<;>simp[firstNZ,h]
theorem k85 (s:AVal) (xs:List Int) (m:AMem) (hs:RInts m s xs) (hn:xs.length<2^62):ACalls Tryz.prog 85 [s] m fun r m'=>r= .int .i64 (firstNZ xs)∧m'=m:=by
 refine w85 ?_
 simp[hs.len]
 refine W_loop (fun n a m'=> ∃k:Nat,k+n=xs.length∧a=h85_0 (.int .i64 0) s (.int .i64 xs.length) (.int .i64 k)∧m'=m∧firstNZ (xs.drop k)=firstNZ xs) xs.length ⟨0,by simp⟩ ?_
 rintro n a m' ⟨k,hk,rfl,rfl,hi⟩
 simp
 refine bbind_dec (fun h=>?_) fun h=>?_
 ·simp
  have h:k<xs.length:=by omega
  obtain ⟨b,o,h1,h2⟩:=hs.at h
  simp[h1,h2]
  rw[List.drop_eq_getElem_cons h,firstNZ_cons] at hi
  refine bbind_intro (fun he=>?_) fun he=>?_
  ·simp at he
   simp[he] at hi
   simp[hi]
  ·simp at he
   simp[he] at hi
   have:=wrap64 (x:=(k:Int)+1) (by omega) (by omega)
   simp[this]
   exact ⟨n-1,by omega,k+1,by omega,by simp,hi⟩
 ·simp
  have h:xs.length≤k:=by omega
  rw[List.drop_eq_nil_of_le h] at hi
  simp[firstNZ] at hi ⊢
  exact hi
def fidx (p:Nat→Bool):Nat→Nat→Int
 |_,0=> -1
 |i,n+1=>if p i then i else fidx p (i+1) n
theorem fidx_nonneg (p:Nat→Bool): ∀(n i:Nat),0≤fidx p i n↔ ∃j,i≤j∧j<i+n∧p j=true
 |0,i=>by simp[fidx];omega
 |n+1,i=>by
  rw[fidx]
  split
  ·rename_i h
   exact ⟨fun _=>⟨i,by omega,by omega,h⟩,fun _=>by omega⟩
  ·rename_i h
   rw[fidx_nonneg p n (i+1)]
   constructor
   ·rintro ⟨j,h1,h2,h3⟩;exact ⟨j,by omega,by omega,h3⟩
   ·rintro ⟨j,h1,h2,h3⟩
    by_cases hj:j=i
    ·subst hj;exact absurd h3 h
    ·exact ⟨j,by omega,by omega,h3⟩
theorem k57 (s:AVal) (xs:List Int) (v:Int) (m:AMem) (hs:RInts m s xs) (hn:xs.length<2^62):ACalls Tryz.prog 57 [s,.int .i64 v] m fun r m'=>r= .int .i64 (fidx (fun i=>xs[i]? ==some v) 0 xs.length)∧m'=m:=by
 refine w57 ?_
 simp[hs.len]
 refine W_loop (fun n a m'=> ∃k:Nat,k+n=xs.length∧a=h57_0 s (.int .i64 v) (.int .i64 xs.length) (.int .i64 k)∧m'=m∧fidx (fun i=>xs[i]? ==some v) k n=fidx (fun i=>xs[i]? ==some v) 0 xs.length) xs.length ⟨0,by simp⟩ ?_
 rintro n a m' ⟨k,hk,rfl,rfl,hi⟩
 simp
 refine bbind_dec (fun h=>?_) fun h=>?_
 ·simp
  have h:k<xs.length:=by omega
  obtain ⟨b,o,h1,h2⟩:=hs.at h
  simp[h1,h2]
  obtain ⟨n,rfl⟩: ∃n',n=n'+1:=⟨n-1,by omega⟩
  simp only[fidx,List.getElem?_eq_getElem h] at hi
  refine bbind_intro (fun he=>?_) fun he=>?_
  ·have he:v=xs[k]:=by simpa using he
   subst he
   simp at hi
   simp[hi]
  ·have he:v≠xs[k]:=by simpa using he
   have he':xs[k]≠v:=fun h=>he h.symm
   simp[he'] at hi
   have:=wrap64 (x:=(k:Int)+1) (by omega) (by omega)
   simp[this]
   exact ⟨n,by omega,k+1,by omega,by simp,hi⟩
 ·simp
  obtain rfl:n=0:=by omega
  simp only[fidx] at hi
  simp[hi]
end Go.Proofs.YtlniliigcnedmaaGreatDoor
namespace Go.Proofs.YtlniliigcnedmaaGreatDoor
open Go Ax
set_option maxRecDepth 100000
theorem w17 {args m R} (h:W Tryz.prog (.seq (.reg [qb 6 false,qi 7 0]) (.kill [0,1,2] (.seq (.seq (.reg [qv 10 0,qv 11 1,qv 12 2,⟨some 13,.A (.bslice 3 2 [(.int .i64 0)] [(0,(1,(.t 11))),(1,(1,(.t 12)))]),none⟩,qc 14 43 [(.t 10),(.t 13)],qv 8 14]) (.kill [0,1,2,8] (.seq (.reg [qv 15 8,qk 16 .neq 15 0]) (.kill [0,1,2,8,16] (.cond (.t 16) (.seq (.reg [qv 17 8,qb 6 false,qv 7 17]) .ret) .skip))))) (.kill [0,1,2] (.seq (.reg [qv 18 0,qc 19 44 [(.t 18)],qv 9 19]) (.kill [1,2,9] (.seq (.draw true [qv 20 9,qv 21 1,qa 22 1 20 21,ql 23 22,qv 24 9,qv 25 2,qa 26 1 24 25,ql 27 26,qo 28 .eql 23 27,qv 6 28,qi 7 0] [[],[],[],[],[],[],[],[],[],[],[]] [[],[],[],[],[],[],[],[],[],[],[]] [0,1,2,3,4,5,6,7,8,9,10]) .ret))))))) (E [(.tmp 6),(.tmp 7)] R .mk) .mk (mat 29 (sArgs 0 args)) m) (hl:Nat.ble args.length 29=true:=by rfl):ACalls Tryz.prog 17 args m R:=walk mix (by kernel_rfl) (Nat.le_of_ble_eq_true hl) h
theorem w27 {args m R} (h:W Tryz.prog (.seq (.reg [qb 4 false]) (.kill [0,1] (.seq (.seq (.reg [qv 6 0,qn 7 6,qv 8 1,qn 9 8,qo 10 .neq 7 9]) (.kill [0,1,10] (.cond (.t 10) (.seq (.reg [qb 4 false]) .ret) .skip))) (.kill [0,1] (.seq (.seq (.reg [qv 11 0,qn 12 11,qi 13 0]) (.kill [0,1,12,13] (.block 0 (.kill [0,1,12,13] (.loop (.fin [0,1,12,13] (.seq (.reg [qo 14 .lss 13 12]) (.seq (.cond (.t 14) .skip (.exit 0)) (.kill [0,1,12,13] (.seq (.block 1 (.seq (.reg [qv 15 13,qv 5 15]) (.kill [0,1,5,12,13] (.seq (.draw true [qv 16 0,qv 17 5,qa 18 1 16 17,ql 19 18,qv 20 1,qv 21 5,qa 22 1 20 21,ql 23 22,qo 24 .neq 19 23] [[],[],[],[],[],[],[],[],[]] [[],[],[],[],[],[],[],[],[]] [0,1,2,3,4,5,6,7,8]) (.kill [0,1,12,13,24] (.cond (.t 24) (.seq (.reg [qb 4 false]) .ret) .skip)))))) (.kill [0,1,12,13] (.reg [qk 25 .add 13 1,qv 13 25])))))))))))) (.kill [] (.seq (.reg [qb 4 true]) .ret))))))) (E [(.tmp 4)] R .mk) .mk (mat 26 (sArgs 0 args)) m) (hl:Nat.ble args.length 26=true:=by rfl):ACalls Tryz.prog 27 args m R:=walk mix (by kernel_rfl) (Nat.le_of_ble_eq_true hl) h
abbrev h27_0 (t0 t1 t12 t13:AVal):AFrame:=mat 26 [(0,t0),(1,t1),(12,t12),(13,t13)]
end Go.Proofs.YtlniliigcnedmaaGreatDoor
namespace Go.Proofs.YtlniliigcnedmaaGreatDoor
open Go Ax
set_option maxRecDepth 100000
theorem w33 {args m R} (h:W Tryz.prog (.seq (.reg [qb 4 false]) (.kill [0,1] (.seq (.reg [qv 5 0,qv 6 1,qc 7 67 [(.t 5),(.t 6)],qk 8 .geq 7 0,qv 4 8]) .ret))) (E [(.tmp 4)] R .mk) .mk (mat 9 (sArgs 0 args)) m) (hl:Nat.ble args.length 9=true:=by rfl):ACalls Tryz.prog 33 args m R:=walk mix (by kernel_rfl) (Nat.le_of_ble_eq_true hl) h
end Go.Proofs.YtlniliigcnedmaaGreatDoor
namespace Go.Proofs.YtlniliigcnedmaaGreatDoor
open Go Ax
set_option maxRecDepth 100000
theorem w73 {args m R} (h:W Tryz.prog (.seq (.reg [qi 4 0]) (.kill [0,1] (.seq (.seq (.reg [qv 6 0,qn 7 6,qi 8 0]) (.kill [0,1,7,8] (.block 0 (.kill [0,1,7,8] (.loop (.fin [0,1,7,8] (.seq (.reg [qo 9 .lss 8 7]) (.seq (.cond (.t 9) .skip (.exit 0)) (.kill [0,1,7,8] (.seq (.block 1 (.seq (.reg [qv 10 8,qv 5 10]) (.kill [0,1,5,7,8] (.seq (.reg [qv 11 1,qv 12 0,qv 13 5,qa 14 1 12 13,ql 15 14,⟨some 16,.C (.t 11) [(.t 15)],none⟩]) (.kill [0,1,5,7,8,16] (.cond (.t 16) (.seq (.reg [qv 17 5,qv 4 17]) .ret) .skip)))))) (.kill [0,1,7,8] (.reg [qk 18 .add 8 1,qv 8 18])))))))))))) (.kill [] (.seq (.reg [⟨some 4,.P (.mov (.c (.int .i64 (-1)))),none⟩]) .ret))))) (E [(.tmp 4)] R .mk) .mk (mat 19 (sArgs 0 args)) m) (hl:Nat.ble args.length 19=true:=by rfl):ACalls Tryz.prog 73 args m R:=walk mix (by kernel_rfl) (Nat.le_of_ble_eq_true hl) h
abbrev h73_0 (t0 t1 t7 t8:AVal):AFrame:=mat 19 [(0,t0),(1,t1),(7,t7),(8,t8)]
theorem w36 {args m R} (h:W Tryz.prog (.seq (.reg [qb 4 false]) (.kill [0,1] (.seq (.reg [qv 5 0,qv 6 1,qc 7 73 [(.t 5),(.t 6)],qk 8 .geq 7 0,qv 4 8]) .ret))) (E [(.tmp 4)] R .mk) .mk (mat 9 (sArgs 0 args)) m) (hl:Nat.ble args.length 9=true:=by rfl):ACalls Tryz.prog 36 args m R:=walk mix (by kernel_rfl) (Nat.le_of_ble_eq_true hl) h
theorem w52 {args m R} (h:W Tryz.prog (.seq (.reg [qi 2 0]) (.kill [0] (.seq (.seq (.reg [qv 11 0,qn 12 11,qk 13 .gtr 12 512]) (.kill [0,13] (.cond (.t 13) (.seq (.reg [qi 2 3]) .ret) .skip))) (.kill [0] (.seq (.seq (.reg [qv 14 0,qn 15 14,qi 16 0]) (.block 0 (.kill [0,14,15,16] (.loop (.fin [0,14,15,16] (.seq (.reg [qo 17 .lss 16 15]) (.seq (.cond (.t 17) .skip (.exit 0)) (.kill [0,14,15,16] (.seq (.block 1 (.seq (.reg [qa 18 6 14 16,⟨some 19,.R (.load 6 true (.t 18)),none⟩,⟨some 4,.A (.alloc 39 [(.int .i64 0),(.int .i64 0),.nilslice,.nilslice,(.int .i64 0),(.bool false)]),none⟩,⟨none,.W (.store 6 (.t 4) (.t 19)),none⟩]) (.kill [0,4,14,15,16] (.seq (.reg [qv 20 0,⟨some 21,.R (.load 6 true (.t 4)),none⟩,qc 22 97 [(.t 20),(.t 21)],qv 5 22]) (.kill [0,5,14,15,16] (.seq (.reg [qv 23 5,qk 24 .neq 23 0]) (.kill [0,5,14,15,16,24] (.cond (.t 24) (.seq (.reg [qv 25 5,qv 2 25]) .ret) .skip)))))))) (.kill [0,14,15,16] (.reg [qk 26 .add 16 1,qv 16 26]))))))))))) (.kill [0] (.seq (.seq (.reg [qv 27 0,qn 28 27,qi 29 0]) (.block 2 (.kill [0,27,28,29] (.loop (.fin [0,27,28,29] (.seq (.reg [qo 30 .lss 29 28]) (.seq (.cond (.t 30) .skip (.exit 2)) (.kill [0,27,28,29] (.seq (.block 3 (.seq (.reg [qa 31 6 27 29,⟨some 32,.R (.load 6 true (.t 31)),none⟩,⟨some 7,.A (.alloc 39 [(.int .i64 0),(.int .i64 0),.nilslice,.nilslice,(.int .i64 0),(.bool false)]),none⟩,⟨none,.W (.store 6 (.t 7) (.t 32)),none⟩]) (.kill [0,7,27,28,29] (.seq (.reg [qv 33 0,⟨some 34,.R (.load 6 true (.t 7)),none⟩,qc 35 98 [(.t 33),(.t 34)]]) (.kill [0,27,28,29,35] (.cond (.t 35) (.seq (.reg [qi 2 7]) .ret) .skip)))))) (.kill [0,27,28,29] (.reg [qk 36 .add 29 1,qv 29 36]))))))))))) (.kill [0] (.seq (.seq (.reg [qv 37 0,qc 38 100 [(.t 37)],qc 39 99 [(.t 38),(.c (.bool false))]]) (.kill [0,39] (.cond (.t 39) (.seq (.reg [qi 2 10]) .ret) .skip))) (.kill [0] (.seq (.reg [qv 40 0,qc 41 101 [(.t 40)],⟨some 8,.A (.alloc 120 [.nilslice]),none⟩,⟨none,.W (.store 1 (.t 8) (.t 41)),none⟩]) (.kill [0,8] (.seq (.seq (.reg [qv 42 0,qn 43 42,qi 44 0]) (.kill [8,42,43,44] (.block 4 (.kill [8,42,43,44] (.loop (.fin [8,42,43,44] (.seq (.reg [qo 45 .lss 44 43]) (.seq (.cond (.t 45) .skip (.exit 4)) (.kill [8,42,43,44] (.seq (.block 5 (.seq (.reg [qa 46 6 42 44,⟨some 47,.R (.load 6 true (.t 46)),none⟩,⟨some 10,.A (.alloc 39 [(.int .i64 0),(.int .i64 0),.nilslice,.nilslice,(.int .i64 0),(.bool false)]),none⟩,⟨none,.W (.store 6 (.t 10) (.t 47)),none⟩]) (.kill [8,10,42,43,44] (.seq (.reg [⟨some 48,.P (.faddr 0 (.t 10)),none⟩,ql 49 48,qk 50 .eql 49 12,qv 51 50,⟨some 52,.P (.faddr 0 (.t 10)),(some (51,false))⟩,⟨some 53,.R (.load 1 false (.t 52)),(some (51,false))⟩,⟨some 54,.P (.bin .eql (.t 53) (qz 13)),(some (51,false))⟩,⟨some 55,.P (.pick (.t 51) (.c (.bool true)) (.t 54)),none⟩,qv 56 55,⟨some 57,.P (.faddr 2 (.t 10)),(some (56,true))⟩,⟨some 58,.R (.load 1 false (.t 57)),(some (56,true))⟩,⟨some 59,.P (.mkfn (.func 102) [] [(.t 8)]),(some (56,true))⟩,⟨some 60,.C (.c (.func (.func 36) [] [])) [(.t 58),(.t 59)],(some (56,true))⟩,⟨some 61,.P (.pick (.t 56) (.t 60) (.c (.bool false))),none⟩]) (.kill [8,42,43,44,61] (.cond (.t 61) (.seq (.reg [qi 2 7]) .ret) .skip)))))) (.kill [8,42,43,44] (.reg [qk 62 .add 44 1,qv 44 62])))))))))))) (.kill [] (.seq (.reg [qi 2 0]) .ret))))))))))))))) (E [(.tmp 2)] R .mk) .mk (mat 63 (sArgs 0 args)) m) (hl:Nat.ble args.length 63=true:=by rfl):ACalls Tryz.prog 52 args m R:=walk mix (by kernel_rfl) (Nat.le_of_ble_eq_true hl) h
abbrev h52_0 (t0 t14 t15 t16:AVal):AFrame:=mat 63 [(0,t0),(14,t14),(15,t15),(16,t16)]
abbrev h52_1 (t0 t27 t28 t29:AVal):AFrame:=mat 63 [(0,t0),(27,t27),(28,t28),(29,t29)]
abbrev h52_2 (t8 t42 t43 t44:AVal):AFrame:=mat 63 [(8,t8),(42,t42),(43,t43),(44,t44)]
theorem w43 {args m R} (h:W Tryz.prog (.seq (.reg [⟨some 2,.A (.box 22 (.t 0)),none⟩,qi 4 0]) (.kill [1,2] (.seq (.seq (.reg [ql 6 2,qc 7 52 [(.t 6)],qv 5 7]) (.kill [1,2,5] (.seq (.reg [qv 8 5,qk 9 .neq 8 0]) (.kill [1,2,5,9] (.cond (.t 9) (.seq (.reg [qv 10 5,qv 4 10]) .ret) .skip))))) (.kill [1,2] (.seq (.seq (.reg [qv 11 1,⟨some 12,.P (.mkfn (.func 77) [] [(.t 2)]),none⟩,qc 13 36 [(.t 11),(.t 12)]]) (.kill [13] (.cond (.t 13) (.seq (.reg [qi 4 11]) .ret) .skip))) (.kill [] (.seq (.reg [qi 4 0]) .ret))))))) (E [(.tmp 4)] R .mk) .mk (mat 14 (sArgs 0 args)) m) (hl:Nat.ble args.length 14=true:=by rfl):ACalls Tryz.prog 43 args m R:=walk mix (by kernel_rfl) (Nat.le_of_ble_eq_true hl) h
theorem w44 {args m R} (h:W Tryz.prog (.seq (.reg [⟨some 1,.A (.box 22 (.t 0)),none⟩,⟨some 2,.P (.mov (.c .nilslice)),none⟩]) (.kill [1] (.seq (.reg [ql 15 1,qn 16 15,⟨some 17,.A (.mkslice 36 24 [.nilslice] (.t 16) (.t 16)),none⟩,qv 3 17]) (.kill [1,3] (.seq (.seq (.reg [ql 18 1,qn 19 18,qi 20 0]) (.block 0 (.kill [1,3,18,19,20] (.loop (.fin [1,3,18,19,20] (.seq (.reg [qo 21 .lss 20 19]) (.seq (.cond (.t 21) .skip (.exit 0)) (.kill [1,3,18,19,20] (.seq (.block 1 (.seq (.reg [qv 22 20,qa 23 6 18 20,⟨some 24,.R (.load 6 true (.t 23)),none⟩,⟨some 5,.A (.alloc 39 [(.int .i64 0),(.int .i64 0),.nilslice,.nilslice,(.int .i64 0),(.bool false)]),none⟩,qv 4 22,⟨none,.W (.store 6 (.t 5) (.t 24)),none⟩]) (.kill [1,3,4,5,18,19,20] (.seq (.reg [qv 25 3,qv 26 4,⟨some 27,.P (.faddr 2 (.t 5)),none⟩,ql 28 27,qa 29 1 25 26,⟨none,.W (.store 1 (.t 29) (.t 28)),none⟩]) (.kill [1,3,4,5,18,19,20] (.seq (.reg [⟨some 30,.P (.faddr 0 (.t 5)),none⟩,ql 31 30,qk 32 .eql 31 12]) (.kill [1,3,4,18,19,20,32] (.cond (.t 32) (.reg [qv 33 3,qv 34 4,ql 35 1,qv 36 4,qc 37 78 [(.t 35),(.t 36),(.c .nilslice)],qa 38 1 33 34,⟨none,.W (.store 1 (.t 38) (.t 37)),none⟩]) .skip)))))))) (.kill [1,3,18,19,20] (.reg [qk 39 .add 20 1,qv 20 39]))))))))))) (.kill [1,3] (.seq (.reg [ql 41 1,qn 42 41,⟨some 43,.P (.mkfn (.func 80) [] [(.t 1)]),none⟩,qc 44 79 [(.t 42),(.t 43)],qv 40 44,qx 45 40 0,qx 46 40 1,⟨some 6,.A (.alloc 36 [.nilslice]),none⟩,⟨none,.W (.store 1 (.t 6) (.t 45)),none⟩,qv 7 46]) (.kill [1,3,6,7] (.block 2 (.kill [1,3,6,7] (.loop (.fin [1,3,6,7] (.block 3 (.seq (.reg [ql 47 1,qn 48 47,⟨some 49,.A (.mkslice 36 24 [.nilslice] (.t 48) (.t 48)),none⟩,⟨some 8,.A (.alloc 99 [.nilslice]),none⟩,⟨none,.W (.store 1 (.t 8) (.t 49)),none⟩]) (.kill [1,3,6,7,8] (.seq (.seq (.reg [ql 50 1,qn 51 50,qi 52 0]) (.block 4 (.kill [1,3,6,7,8,50,51,52] (.loop (.fin [1,3,6,7,8,50,51,52] (.seq (.reg [qo 53 .lss 52 51]) (.seq (.cond (.t 53) .skip (.exit 4)) (.kill [1,3,6,7,8,50,51,52] (.seq (.block 5 (.seq (.reg [qv 54 52,qa 55 6 50 52,⟨some 56,.R (.load 6 true (.t 55)),none⟩,⟨some 10,.A (.alloc 39 [(.int .i64 0),(.int .i64 0),.nilslice,.nilslice,(.int .i64 0),(.bool false)]),none⟩,qv 9 54,⟨none,.W (.store 6 (.t 10) (.t 56)),none⟩]) (.kill [1,3,6,7,8,9,10,50,51,52] (.seq (.seq (.reg [qv 57 3,qv 58 9,qa 59 1 57 58,ql 60 59,qn 61 60,qi 62 0]) (.kill [1,3,6,7,8,9,10,50,51,52,60,61,62] (.block 6 (.kill [1,3,6,7,8,9,10,50,51,52,60,61,62] (.loop (.fin [1,3,6,7,8,9,10,50,51,52,60,61,62] (.seq (.reg [qo 63 .lss 62 61]) (.seq (.cond (.t 63) .skip (.exit 6)) (.kill [1,3,6,7,8,9,10,50,51,52,60,61,62] (.seq (.block 7 (.seq (.reg [qa 64 1 60 62,ql 65 64,qv 12 65]) (.kill [1,3,6,7,8,9,10,12,50,51,52,60,61,62] (.draw true [ql 66 8,qv 67 9,ql 68 8,qv 69 9,qa 70 1 68 69,ql 71 70,ql 72 6,qv 73 12,qa 74 1 72 73,ql 75 74,⟨some 76,.A (.bslice 3 1 [(.int .i64 0)] [(0,(1,(.t 75)))]),none⟩,⟨some 77,.W (.append 1 8 3 false (.t 71) (.t 76)),none⟩,qa 78 1 66 67,⟨none,.W (.store 1 (.t 78) (.t 77)),none⟩] [[],[],[],[],[],[],[],[],[],[],[],[10],[10],[10]] [[],[],[],[],[],[],[],[],[],[],[],[0],[],[]] [0,1,2,3,4,5,6,7,8,9,10,11,12,13])))) (.kill [1,3,6,7,8,9,10,50,51,52,60,61,62] (.reg [qk 79 .add 62 1,qv 62 79])))))))))))) (.kill [1,3,6,7,8,9,10,50,51,52] (.seq (.reg [⟨some 80,.P (.faddr 0 (.t 10)),none⟩,ql 81 80,qk 82 .eql 81 12]) (.kill [1,3,6,7,8,9,50,51,52,82] (.cond (.t 82) (.seq (.reg [ql 83 8,qv 84 9,qa 85 1 83 84,ql 86 85,qc 87 82 [(.t 86)]]) (.kill [1,3,6,7,8,9,50,51,52] (.draw true [ql 88 8,qv 89 9,ql 90 8,qv 91 9,qa 92 1 90 91,ql 93 92,qc 94 83 [(.t 93)],qa 95 1 88 89,⟨none,.W (.store 1 (.t 95) (.t 94)),none⟩] [[],[],[],[],[],[],[],[6],[6]] [[],[],[],[],[],[],[0],[],[]] [0,1,2,3,4,5,6,7,8]))) .skip)))))))) (.kill [1,3,6,7,8,50,51,52] (.reg [qk 96 .add 52 1,qv 52 96]))))))))))) (.kill [1,3,6,7,8] (.seq (.reg [ql 98 1,qn 99 98,⟨some 100,.P (.mkfn (.func 84) [] [(.t 6),(.t 8)]),none⟩,qc 101 79 [(.t 99),(.t 100)],qv 97 101,qx 102 97 0,qx 103 97 1,qv 13 102,qv 14 103]) (.kill [1,3,6,7,13,14] (.seq (.seq (.reg [qv 104 14,qv 105 7,qo 106 .eql 104 105]) (.kill [1,3,6,13,14,106] (.cond (.t 106) (.seq (.reg [qv 107 13,qv 2 107]) .ret) .skip))) (.kill [1,3,6,13,14] (.reg [qv 108 13,qv 109 14,⟨none,.W (.store 1 (.t 6) (.t 108)),none⟩,qv 7 109])))))))))))))))))))))) (E [(.tmp 2)] R .mk) .mk (mat 110 (sArgs 0 args)) m) (hl:Nat.ble args.length 110=true:=by rfl):ACalls Tryz.prog 44 args m R:=walk mix (by kernel_rfl) (Nat.le_of_ble_eq_true hl) h
abbrev h44_0 (t1 t3 t18 t19 t20:AVal):AFrame:=mat 110 [(1,t1),(3,t3),(18,t18),(19,t19),(20,t20)]
abbrev h44_1 (t1 t3 t6 t7:AVal):AFrame:=mat 110 [(1,t1),(3,t3),(6,t6),(7,t7)]
abbrev h44_2 (t1 t3 t6 t7 t8 t50 t51 t52:AVal):AFrame:=mat 110 [(1,t1),(3,t3),(6,t6),(7,t7),(8,t8),(50,t50),(51,t51),(52,t52)]
abbrev h44_3 (t1 t3 t6 t7 t8 t9 t10 t50 t51 t52 t60 t61 t62:AVal):AFrame:=mat 110 [(1,t1),(3,t3),(6,t6),(7,t7),(8,t8),(9,t9),(10,t10),(50,t50),(51,t51),(52,t52),(60,t60),(61,t61),(62,t62)]
end Go.Proofs.YtlniliigcnedmaaGreatDoor
namespace Go.Proofs.YtlniliigcnedmaaGreatDoor
open Go Ax
set_option maxRecDepth 100000
theorem w54 {args m R} (h:W Tryz.prog (.seq (.reg [⟨some 5,.A (.box 36 (.t 2)),none⟩,⟨some 6,.P (.mov (.c .nilslice)),none⟩]) (.kill [0,1,5] (.seq (.reg [qv 8 0,qv 9 1,qc 10 78 [(.t 8),(.t 9),(.c .nilslice)],qv 7 10]) (.kill [5,7] (.seq (.reg [qv 11 7,⟨some 12,.P (.mkfn (.func 104) [] [(.t 5)]),none⟩,qc 13 103 [(.t 11),(.t 12)]]) (.kill [5,7] (.seq (.reg [qv 14 7,⟨some 15,.P (.mkfn (.func 106) [] [(.t 5)]),none⟩,qc 16 105 [(.t 14),(.t 15)],qv 6 16]) .ret))))))) (E [(.tmp 6)] R .mk) .mk (mat 17 (sArgs 0 args)) m) (hl:Nat.ble args.length 17=true:=by rfl):ACalls Tryz.prog 54 args m R:=walk mix (by kernel_rfl) (Nat.le_of_ble_eq_true hl) h
theorem w64 {args m R} (h:W Tryz.prog (.seq (.reg [qb 4 false]) (.kill [0,1] (.seq (.reg [qv 5 1,qk 6 .geq 5 0,qv 7 6,⟨some 8,.P (.mov (.t 1)),(some (7,true))⟩,⟨some 9,.P (.mov (.t 0)),(some (7,true))⟩,⟨some 10,.P (.len (.t 9)),(some (7,true))⟩,⟨some 11,.P (.bin .lss (.t 8) (.t 10)),(some (7,true))⟩,⟨some 12,.P (.pick (.t 7) (.t 11) (.c (.bool false))),none⟩,qv 4 12]) .ret))) (E [(.tmp 4)] R .mk) .mk (mat 13 (sArgs 0 args)) m) (hl:Nat.ble args.length 13=true:=by rfl):ACalls Tryz.prog 64 args m R:=walk mix (by kernel_rfl) (Nat.le_of_ble_eq_true hl) h
theorem w67 {args m R} (h:W Tryz.prog (.seq (.reg [qi 4 0]) (.kill [0,1] (.seq (.seq (.reg [qv 6 0,qn 7 6,qi 8 0]) (.kill [0,1,7,8] (.block 0 (.kill [0,1,7,8] (.loop (.fin [0,1,7,8] (.seq (.reg [qo 9 .lss 8 7]) (.seq (.cond (.t 9) .skip (.exit 0)) (.kill [0,1,7,8] (.seq (.block 1 (.seq (.reg [qv 10 8,qv 5 10]) (.kill [0,1,5,7,8] (.seq (.reg [qv 11 1,qv 12 0,qv 13 5,qa 14 6 12 13,⟨some 15,.R (.load 6 true (.t 14)),none⟩,⟨some 16,.C (.t 11) [(.t 15)],none⟩]) (.kill [0,1,5,7,8,16] (.cond (.t 16) (.seq (.reg [qv 17 5,qv 4 17]) .ret) .skip)))))) (.kill [0,1,7,8] (.reg [qk 18 .add 8 1,qv 8 18])))))))))))) (.kill [] (.seq (.reg [⟨some 4,.P (.mov (.c (.int .i64 (-1)))),none⟩]) .ret))))) (E [(.tmp 4)] R .mk) .mk (mat 19 (sArgs 0 args)) m) (hl:Nat.ble args.length 19=true:=by rfl):ACalls Tryz.prog 67 args m R:=walk mix (by kernel_rfl) (Nat.le_of_ble_eq_true hl) h
abbrev h67_0 (t0 t1 t7 t8:AVal):AFrame:=mat 19 [(0,t0),(1,t1),(7,t7),(8,t8)]
end Go.Proofs.YtlniliigcnedmaaGreatDoor
namespace Go.Proofs.YtlniliigcnedmaaGreatDoor
open Go Ax
set_option maxRecDepth 100000
theorem w178 {args m R} (h:W Tryz.prog (.seq (.reg [qi 10 0,qb 11 false]) (.kill [0,1,2,3,4] (.seq (.draw true [qv 14 0,qv 15 1,qv 16 0,qv 17 3,qv 18 0,qv 19 3,qa 20 1 18 19,ql 21 20,qv 22 0,qv 23 1,qa 24 1 22 23,ql 25 24,qa 26 1 14 15,⟨none,.W (.store 1 (.t 26) (.t 21)),none⟩,qa 27 1 16 17,⟨none,.W (.store 1 (.t 27) (.t 25)),none⟩] [[],[],[],[],[],[],[],[],[],[],[],[],[],[],[],[]] [[],[],[],[],[],[],[],[],[],[],[],[],[],[],[],[]] [0,1,2,3,4,5,6,7,8,9,10,11,12,13,14,15]) (.kill [0,1,2,4] (.seq (.reg [qv 28 1,qk 29 .add 28 1,qv 30 2,qk 31 .sub 30 1,qv 12 29,qv 13 31]) (.kill [0,1,4,12,13] (.seq (.block 0 (.kill [0,1,4,12,13] (.loop (.fin [0,1,4,12,13] (.seq (.seq (.draw true [qv 32 12,qv 33 13,qo 34 .leq 32 33,qv 35 34,⟨some 36,.P (.mov (.t 4)),(some (35,true))⟩,⟨some 37,.P (.mov (.t 0)),(some (35,true))⟩,⟨some 38,.P (.mov (.t 12)),(some (35,true))⟩,⟨some 39,.P (.iaddr 1 (.t 37) (.t 38)),(some (35,true))⟩,⟨some 40,.R (.load 1 false (.t 39)),(some (35,true))⟩,⟨some 41,.P (.mov (.t 0)),(some (35,true))⟩,⟨some 42,.P (.mov (.t 1)),(some (35,true))⟩,⟨some 43,.P (.iaddr 1 (.t 41) (.t 42)),(some (35,true))⟩,⟨some 44,.R (.load 1 false (.t 43)),(some (35,true))⟩,⟨some 45,.C (.t 36) [(.t 40),(.t 44)],(some (35,true))⟩,⟨some 46,.P (.bin .lss (.t 45) (qz 0)),(some (35,true))⟩,⟨some 47,.P (.pick (.t 35) (.t 46) (.c (.bool false))),none⟩] [[],[],[],[],[],[],[],[],[],[],[],[],[],[],[13],[13]] [[],[],[],[],[],[],[],[],[],[],[],[],[],[],[],[]] [0,1,2,3,4,5,6,7,8,9,10,11,12,13,14,15]) (.kill [0,1,4,12,13,47] (.cond (.t 47) .skip (.exit 0)))) (.kill [0,1,4,12,13] (.block 1 (.reg [qv 48 12,qk 49 .add 48 1,qv 12 49])))))))) (.kill [0,1,4,12,13] (.seq (.block 2 (.kill [0,1,4,12,13] (.loop (.fin [0,1,4,12,13] (.seq (.seq (.draw true [qv 50 12,qv 51 13,qo 52 .leq 50 51,qv 53 52,⟨some 54,.P (.mov (.t 4)),(some (53,true))⟩,⟨some 55,.P (.mov (.t 0)),(some (53,true))⟩,⟨some 56,.P (.mov (.t 13)),(some (53,true))⟩,⟨some 57,.P (.iaddr 1 (.t 55) (.t 56)),(some (53,true))⟩,⟨some 58,.R (.load 1 false (.t 57)),(some (53,true))⟩,⟨some 59,.P (.mov (.t 0)),(some (53,true))⟩,⟨some 60,.P (.mov (.t 1)),(some (53,true))⟩,⟨some 61,.P (.iaddr 1 (.t 59) (.t 60)),(some (53,true))⟩,⟨some 62,.R (.load 1 false (.t 61)),(some (53,true))⟩,⟨some 63,.C (.t 54) [(.t 58),(.t 62)],(some (53,true))⟩,⟨some 64,.P (.bin .lss (.t 63) (qz 0)),(some (53,true))⟩,⟨some 65,.P (.un .not (.t 64)),(some (53,true))⟩,⟨some 66,.P (.pick (.t 53) (.t 65) (.c (.bool false))),none⟩] [[],[],[],[],[],[],[],[],[],[],[],[],[],[],[13],[13],[13]] [[],[],[],[],[],[],[],[],[],[],[],[],[],[],[],[],[]] [0,1,2,3,4,5,6,7,8,9,10,11,12,13,14,15,16]) (.kill [0,1,4,12,13,66] (.cond (.t 66) .skip (.exit 2)))) (.kill [0,1,4,12,13] (.block 3 (.reg [qv 67 13,qk 68 .sub 67 1,qv 13 68])))))))) (.kill [0,1,4,12,13] (.seq (.seq (.reg [qv 69 12,qv 70 13,qo 71 .gtr 69 70]) (.kill [0,1,4,12,13,71] (.cond (.t 71) (.seq (.draw true [qv 72 0,qv 73 13,qv 74 0,qv 75 1,qv 76 0,qv 77 1,qa 78 1 76 77,ql 79 78,qv 80 0,qv 81 13,qa 82 1 80 81,ql 83 82,qa 84 1 72 73,⟨none,.W (.store 1 (.t 84) (.t 79)),none⟩,qa 85 1 74 75,⟨none,.W (.store 1 (.t 85) (.t 83)),none⟩] [[],[],[],[],[],[],[],[],[],[],[],[],[],[],[],[]] [[],[],[],[],[],[],[],[],[],[],[],[],[],[],[],[]] [0,1,2,3,4,5,6,7,8,9,10,11,12,13,14,15]) (.kill [13] (.seq (.reg [qv 86 13,qv 10 86,qb 11 true]) .ret))) .skip))) (.kill [0,1,4,12,13] (.seq (.draw true [qv 87 0,qv 88 12,qv 89 0,qv 90 13,qv 91 0,qv 92 13,qa 93 1 91 92,ql 94 93,qv 95 0,qv 96 12,qa 97 1 95 96,ql 98 97,qa 99 1 87 88,⟨none,.W (.store 1 (.t 99) (.t 94)),none⟩,qa 100 1 89 90,⟨none,.W (.store 1 (.t 100) (.t 98)),none⟩] [[],[],[],[],[],[],[],[],[],[],[],[],[],[],[],[]] [[],[],[],[],[],[],[],[],[],[],[],[],[],[],[],[]] [0,1,2,3,4,5,6,7,8,9,10,11,12,13,14,15]) (.kill [0,1,4,12,13] (.seq (.reg [qv 101 12,qk 102 .add 101 1,qv 12 102]) (.kill [0,1,4,12,13] (.seq (.reg [qv 103 13,qk 104 .sub 103 1,qv 13 104]) (.kill [0,1,4,12,13] (.seq (.block 4 (.kill [0,1,4,12,13] (.loop (.fin [0,1,4,12,13] (.block 5 (.seq (.block 6 (.kill [0,1,4,12,13] (.loop (.fin [0,1,4,12,13] (.seq (.seq (.draw true [qv 105 12,qv 106 13,qo 107 .leq 105 106,qv 108 107,⟨some 109,.P (.mov (.t 4)),(some (108,true))⟩,⟨some 110,.P (.mov (.t 0)),(some (108,true))⟩,⟨some 111,.P (.mov (.t 12)),(some (108,true))⟩,⟨some 112,.P (.iaddr 1 (.t 110) (.t 111)),(some (108,true))⟩,⟨some 113,.R (.load 1 false (.t 112)),(some (108,true))⟩,⟨some 114,.P (.mov (.t 0)),(some (108,true))⟩,⟨some 115,.P (.mov (.t 1)),(some (108,true))⟩,⟨some 116,.P (.iaddr 1 (.t 114) (.t 115)),(some (108,true))⟩,⟨some 117,.R (.load 1 false (.t 116)),(some (108,true))⟩,⟨some 118,.C (.t 109) [(.t 113),(.t 117)],(some (108,true))⟩,⟨some 119,.P (.bin .lss (.t 118) (qz 0)),(some (108,true))⟩,⟨some 120,.P (.pick (.t 108) (.t 119) (.c (.bool false))),none⟩] [[],[],[],[],[],[],[],[],[],[],[],[],[],[],[13],[13]] [[],[],[],[],[],[],[],[],[],[],[],[],[],[],[],[]] [0,1,2,3,4,5,6,7,8,9,10,11,12,13,14,15]) (.kill [0,1,4,12,13,120] (.cond (.t 120) .skip (.exit 6)))) (.kill [0,1,4,12,13] (.block 7 (.reg [qv 121 12,qk 122 .add 121 1,qv 12 122])))))))) (.kill [0,1,4,12,13] (.seq (.block 8 (.kill [0,1,4,12,13] (.loop (.fin [0,1,4,12,13] (.seq (.seq (.draw true [qv 123 12,qv 124 13,qo 125 .leq 123 124,qv 126 125,⟨some 127,.P (.mov (.t 4)),(some (126,true))⟩,⟨some 128,.P (.mov (.t 0)),(some (126,true))⟩,⟨some 129,.P (.mov (.t 13)),(some (126,true))⟩,⟨some 130,.P (.iaddr 1 (.t 128) (.t 129)),(some (126,true))⟩,⟨some 131,.R (.load 1 false (.t 130)),(some (126,true))⟩,⟨some 132,.P (.mov (.t 0)),(some (126,true))⟩,⟨some 133,.P (.mov (.t 1)),(some (126,true))⟩,⟨some 134,.P (.iaddr 1 (.t 132) (.t 133)),(some (126,true))⟩,⟨some 135,.R (.load 1 false (.t 134)),(some (126,true))⟩,⟨some 136,.C (.t 127) [(.t 131),(.t 135)],(some (126,true))⟩,⟨some 137,.P (.bin .lss (.t 136) (qz 0)),(some (126,true))⟩,⟨some 138,.P (.un .not (.t 137)),(some (126,true))⟩,⟨some 139,.P (.pick (.t 126) (.t 138) (.c (.bool false))),none⟩] [[],[],[],[],[],[],[],[],[],[],[],[],[],[],[13],[13],[13]] [[],[],[],[],[],[],[],[],[],[],[],[],[],[],[],[],[]] [0,1,2,3,4,5,6,7,8,9,10,11,12,13,14,15,16]) (.kill [0,1,4,12,13,139] (.cond (.t 139) .skip (.exit 8)))) (.kill [0,1,4,12,13] (.block 9 (.reg [qv 140 13,qk 141 .sub 140 1,qv 13 141])))))))) (.kill [0,1,4,12,13] (.seq (.seq (.reg [qv 142 12,qv 143 13,qo 144 .gtr 142 143]) (.kill [0,1,4,12,13,144] (.cond (.t 144) (.exit 4) .skip))) (.kill [0,1,4,12,13] (.seq (.draw true [qv 145 0,qv 146 12,qv 147 0,qv 148 13,qv 149 0,qv 150 13,qa 151 1 149 150,ql 152 151,qv 153 0,qv 154 12,qa 155 1 153 154,ql 156 155,qa 157 1 145 146,⟨none,.W (.store 1 (.t 157) (.t 152)),none⟩,qa 158 1 147 148,⟨none,.W (.store 1 (.t 158) (.t 156)),none⟩] [[],[],[],[],[],[],[],[],[],[],[],[],[],[],[],[]] [[],[],[],[],[],[],[],[],[],[],[],[],[],[],[],[]] [0,1,2,3,4,5,6,7,8,9,10,11,12,13,14,15]) (.kill [0,1,4,12,13] (.seq (.reg [qv 159 12,qk 160 .add 159 1,qv 12 160]) (.kill [0,1,4,12,13] (.reg [qv 161 13,qk 162 .sub 161 1,qv 13 162])))))))))))))))) (.kill [0,1,13] (.seq (.draw true [qv 163 0,qv 164 13,qv 165 0,qv 166 1,qv 167 0,qv 168 1,qa 169 1 167 168,ql 170 169,qv 171 0,qv 172 13,qa 173 1 171 172,ql 174 173,qa 175 1 163 164,⟨none,.W (.store 1 (.t 175) (.t 170)),none⟩,qa 176 1 165 166,⟨none,.W (.store 1 (.t 176) (.t 174)),none⟩] [[],[],[],[],[],[],[],[],[],[],[],[],[],[],[],[]] [[],[],[],[],[],[],[],[],[],[],[],[],[],[],[],[]] [0,1,2,3,4,5,6,7,8,9,10,11,12,13,14,15]) (.kill [13] (.seq (.reg [qv 177 13,qv 10 177,qb 11 false]) .ret))))))))))))))))))))))) (E [(.tmp 10),(.tmp 11)] R .mk) .mk (mat 178 (sArgs 0 args)) m) (hl:Nat.ble args.length 178=true:=by rfl):ACalls Tryz.prog 178 args m R:=walk mix (by kernel_rfl) (Nat.le_of_ble_eq_true hl) h
abbrev h178_0 (t0 t1 t4 t12 t13:AVal):AFrame:=mat 178 [(0,t0),(1,t1),(4,t4),(12,t12),(13,t13)]
abbrev h178_1 (t0 t1 t4 t12 t13:AVal):AFrame:=mat 178 [(0,t0),(1,t1),(4,t4),(12,t12),(13,t13)]
abbrev h178_2 (t0 t1 t4 t12 t13:AVal):AFrame:=mat 178 [(0,t0),(1,t1),(4,t4),(12,t12),(13,t13)]
abbrev h178_3 (t0 t1 t4 t12 t13:AVal):AFrame:=mat 178 [(0,t0),(1,t1),(4,t4),(12,t12),(13,t13)]
abbrev h178_4 (t0 t1 t4 t12 t13:AVal):AFrame:=mat 178 [(0,t0),(1,t1),(4,t4),(12,t12),(13,t13)]
theorem w155 {args m R} (h:W Tryz.prog (.seq (.reg [qi 2 0]) (.seq (.seq (.reg [qv 3 0,⟨some 4,.P (.bin .geq (.t 3) (.c (.int .u64 4294967296))),none⟩]) (.kill [0,2,4] (.cond (.t 4) (.seq (.reg [qv 5 0,⟨some 6,.P (.bin .shr (.t 5) (.c (.int .u64 32))),none⟩,qv 0 6]) (.kill [0] (.reg [qi 2 32]))) .skip))) (.kill [0,2] (.seq (.seq (.reg [qv 7 0,⟨some 8,.P (.bin .geq (.t 7) (.c (.int .u64 65536))),none⟩]) (.kill [0,2,8] (.cond (.t 8) (.seq (.reg [qv 9 0,⟨some 10,.P (.bin .shr (.t 9) (.c (.int .u64 16))),none⟩,qv 0 10]) (.kill [0,2] (.reg [qv 11 2,qk 12 .add 11 16,qv 2 12]))) .skip))) (.kill [0,2] (.seq (.seq (.reg [qv 13 0,⟨some 14,.P (.bin .geq (.t 13) (.c (.int .u64 256))),none⟩]) (.kill [0,2,14] (.cond (.t 14) (.seq (.reg [qv 15 0,⟨some 16,.P (.bin .shr (.t 15) (.c (.int .u64 8))),none⟩,qv 0 16]) (.kill [0,2] (.reg [qv 17 2,qk 18 .add 17 8,qv 2 18]))) .skip))) (.kill [0,2] (.seq (.reg [qv 19 2,qv 20 0,⟨some 21,.P (.i2i .u8 (.t 20)),none⟩,⟨some 22,.P (.ixs (.c (.str ⟨#[0,1,2,2,3,3,3,3,4,4,4,4,4,4,4,4,5,5,5,5,5,5,5,5,5,5,5,5,5,5,5,5,6,6,6,6,6,6,6,6,6,6,6,6,6,6,6,6,6,6,6,6,6,6,6,6,6,6,6,6,6,6,6,6,7,7,7,7,7,7,7,7,7,7,7,7,7,7,7,7,7,7,7,7,7,7,7,7,7,7,7,7,7,7,7,7,7,7,7,7,7,7,7,7,7,7,7,7,7,7,7,7,7,7,7,7,7,7,7,7,7,7,7,7,7,7,7,7,8,8,8,8,8,8,8,8,8,8,8,8,8,8,8,8,8,8,8,8,8,8,8,8,8,8,8,8,8,8,8,8,8,8,8,8,8,8,8,8,8,8,8,8,8,8,8,8,8,8,8,8,8,8,8,8,8,8,8,8,8,8,8,8,8,8,8,8,8,8,8,8,8,8,8,8,8,8,8,8,8,8,8,8,8,8,8,8,8,8,8,8,8,8,8,8,8,8,8,8,8,8,8,8,8,8,8,8,8,8,8,8,8,8,8,8,8,8,8,8,8,8,8,8,8,8,8,8]⟩)) (.t 21)),none⟩,⟨some 23,.P (.i2i .i64 (.t 22)),none⟩,qo 24 .add 19 23,qv 2 24]) .ret)))))))) (E [(.tmp 2)] R .mk) .mk (mat 25 (sArgs 0 args)) m) (hl:Nat.ble args.length 25=true:=by rfl):ACalls Tryz.prog 155 args m R:=walk mix (by kernel_rfl) (Nat.le_of_ble_eq_true hl) h
theorem w168 {args m R} (h:W Tryz.prog (.seq (.reg [qi 4 0]) (.kill [0,1] (.seq (.seq (.reg [qv 6 0,qn 7 6,qi 8 0]) (.kill [0,1,7,8] (.block 0 (.kill [0,1,7,8] (.loop (.fin [0,1,7,8] (.seq (.reg [qo 9 .lss 8 7]) (.seq (.cond (.t 9) .skip (.exit 0)) (.kill [0,1,7,8] (.seq (.block 1 (.seq (.reg [qv 10 8,qv 5 10]) (.kill [0,1,5,7,8] (.seq (.reg [qv 11 1,qv 12 0,qv 13 5,qa 14 1 12 13,ql 15 14,⟨some 16,.C (.t 11) [(.t 15)],none⟩]) (.kill [0,1,5,7,8,16] (.cond (.t 16) (.seq (.reg [qv 17 5,qv 4 17]) .ret) .skip)))))) (.kill [0,1,7,8] (.reg [qk 18 .add 8 1,qv 8 18])))))))))))) (.kill [] (.seq (.reg [⟨some 4,.P (.mov (.c (.int .i64 (-1)))),none⟩]) .ret))))) (E [(.tmp 4)] R .mk) .mk (mat 19 (sArgs 0 args)) m) (hl:Nat.ble args.length 19=true:=by rfl):ACalls Tryz.prog 168 args m R:=walk mix (by kernel_rfl) (Nat.le_of_ble_eq_true hl) h
abbrev h168_0 (t0 t1 t7 t8:AVal):AFrame:=mat 19 [(0,t0),(1,t1),(7,t7),(8,t8)]
theorem w169 {args m R} (h:W Tryz.prog (.seq (.reg [qb 6 false]) (.kill [0,1,2] (.seq (.seq (.reg [qv 9 0,⟨some 10,.P (.lenS (.t 9)),none⟩,qi 11 0]) (.kill [0,1,2,10,11] (.block 0 (.kill [0,1,2,10,11] (.loop (.fin [0,1,2,10,11] (.seq (.reg [qo 12 .lss 11 10]) (.seq (.cond (.t 12) .skip (.exit 0)) (.kill [0,1,2,10,11] (.seq (.block 1 (.seq (.reg [qv 13 11,qv 7 13]) (.kill [0,1,2,7,10,11] (.seq (.reg [qv 14 0,qv 15 7,⟨some 16,.P (.ixs (.t 14) (.t 15)),none⟩,qv 17 1,qo 18 .geq 16 17,qv 19 18,⟨some 20,.P (.mov (.t 0)),(some (19,true))⟩,⟨some 21,.P (.mov (.t 7)),(some (19,true))⟩,⟨some 22,.P (.ixs (.t 20) (.t 21)),(some (19,true))⟩,⟨some 23,.P (.mov (.t 2)),(some (19,true))⟩,⟨some 24,.P (.bin .leq (.t 22) (.t 23)),(some (19,true))⟩,⟨some 25,.P (.pick (.t 19) (.t 24) (.c (.bool false))),none⟩,qv 8 25]) (.kill [0,1,2,7,8,10,11] (.seq (.reg [qv 26 8,⟨some 27,.P (.un .not (.t 26)),none⟩,qv 28 27,⟨some 29,.P (.mov (.t 7)),(some (28,true))⟩,⟨some 30,.P (.bin .eql (.t 29) (qz 0)),(some (28,true))⟩,⟨some 31,.P (.mov (.t 30)),(some (28,true))⟩,⟨some 32,.P (.mov (.t 0)),(some (31,false))⟩,⟨some 33,.P (.mov (.t 7)),(some (31,false))⟩,⟨some 34,.P (.ixs (.t 32) (.t 33)),(some (31,false))⟩,⟨some 35,.P (.bin .lss (.t 34) (.c (.int .u8 48))),(some (31,false))⟩,⟨some 36,.P (.pick (.t 31) (.c (.bool true)) (.t 35)),(some (28,true))⟩,⟨some 37,.P (.mov (.t 36)),(some (28,true))⟩,⟨some 38,.P (.mov (.t 0)),(some (37,false))⟩,⟨some 39,.P (.mov (.t 7)),(some (37,false))⟩,⟨some 40,.P (.ixs (.t 38) (.t 39)),(some (37,false))⟩,⟨some 41,.P (.bin .gtr (.t 40) (.c (.int .u8 57))),(some (37,false))⟩,⟨some 42,.P (.pick (.t 37) (.c (.bool true)) (.t 41)),(some (28,true))⟩,⟨some 43,.P (.pick (.t 28) (.t 42) (.c (.bool false))),none⟩]) (.kill [0,1,2,10,11,43] (.cond (.t 43) (.seq (.reg [qb 6 false]) .ret) .skip)))))))) (.kill [0,1,2,10,11] (.reg [qk 44 .add 11 1,qv 11 44])))))))))))) (.kill [0] (.seq (.reg [qv 45 0,⟨some 46,.P (.lenS (.t 45)),none⟩,qk 47 .geq 46 1,qv 48 47,⟨some 49,.P (.mov (.t 0)),(some (48,true))⟩,⟨some 50,.P (.lenS (.t 49)),(some (48,true))⟩,⟨some 51,.P (.bin .leq (.t 50) (qz 40)),(some (48,true))⟩,⟨some 52,.P (.pick (.t 48) (.t 51) (.c (.bool false))),none⟩,qv 6 52]) .ret))))) (E [(.tmp 6)] R .mk) .mk (mat 53 (sArgs 0 args)) m) (hl:Nat.ble args.length 53=true:=by rfl):ACalls Tryz.prog 169 args m R:=walk mix (by kernel_rfl) (Nat.le_of_ble_eq_true hl) h
abbrev h169_0 (t0 t1 t2 t10 t11:AVal):AFrame:=mat 53 [(0,t0),(1,t1),(2,t2),(10,t10),(11,t11)]
theorem w170 {args m R} (h:W Tryz.prog (.seq (.reg [qi 4 0]) (.kill [0,1] (.seq (.seq (.reg [qv 6 0,qn 7 6,qi 8 0]) (.kill [0,1,7,8] (.block 0 (.kill [0,1,7,8] (.loop (.fin [0,1,7,8] (.seq (.reg [qo 9 .lss 8 7]) (.seq (.cond (.t 9) .skip (.exit 0)) (.kill [0,1,7,8] (.seq (.block 1 (.seq (.reg [qv 10 8,qv 5 10]) (.kill [0,1,5,7,8] (.seq (.reg [qv 11 1,qv 12 0,qv 13 5,qa 14 1 12 13,ql 15 14,qo 16 .eql 11 15]) (.kill [0,1,5,7,8,16] (.cond (.t 16) (.seq (.reg [qv 17 5,qv 4 17]) .ret) .skip)))))) (.kill [0,1,7,8] (.reg [qk 18 .add 8 1,qv 8 18])))))))))))) (.kill [] (.seq (.reg [⟨some 4,.P (.mov (.c (.int .i64 (-1)))),none⟩]) .ret))))) (E [(.tmp 4)] R .mk) .mk (mat 19 (sArgs 0 args)) m) (hl:Nat.ble args.length 19=true:=by rfl):ACalls Tryz.prog 170 args m R:=walk mix (by kernel_rfl) (Nat.le_of_ble_eq_true hl) h
abbrev h170_0 (t0 t1 t7 t8:AVal):AFrame:=mat 19 [(0,t0),(1,t1),(7,t7),(8,t8)]
theorem w156 {args m R} (h:W Tryz.prog (.seq (.reg [qi 4 0]) (.kill [0,1] (.seq (.reg [qv 7 0,qc 8 186 [(.t 7)],qv 5 8]) (.kill [0,1,5] (.seq (.reg [qv 9 1,qc 10 186 [(.t 9)],qv 6 10]) (.kill [0,1,5,6] (.seq (.seq (.reg [qv 11 5]) (.kill [0,1,6,11] (.cond (.t 11) (.seq (.seq (.reg [qv 12 6]) (.kill [12] (.cond (.t 12) (.seq (.reg [qi 4 0]) .ret) .skip))) (.kill [] (.seq (.reg [⟨some 4,.P (.mov (.c (.int .i64 (-1)))),none⟩]) .ret))) .skip))) (.kill [0,1,6] (.seq (.seq (.reg [qv 13 6]) (.kill [0,1,13] (.cond (.t 13) (.seq (.reg [qi 4 1]) .ret) .skip))) (.kill [0,1] (.seq (.seq (.reg [qv 14 0,qv 15 1,qo 16 .lss 14 15]) (.kill [0,1,16] (.cond (.t 16) (.seq (.reg [⟨some 4,.P (.mov (.c (.int .i64 (-1)))),none⟩]) .ret) .skip))) (.kill [0,1] (.seq (.seq (.reg [qv 17 0,qv 18 1,qo 19 .gtr 17 18]) (.kill [19] (.cond (.t 19) (.seq (.reg [qi 4 1]) .ret) .skip))) (.kill [] (.seq (.reg [qi 4 0]) .ret))))))))))))))) (E [(.tmp 4)] R .mk) .mk (mat 20 (sArgs 0 args)) m) (hl:Nat.ble args.length 20=true:=by rfl):ACalls Tryz.prog 156 args m R:=walk mix (by kernel_rfl) (Nat.le_of_ble_eq_true hl) h
theorem w157 {args m R} (h:W Tryz.prog (.seq (.reg [qv 8 1,qk 9 .add 8 1,qv 6 9]) (.kill [0,1,2,6] (.block 0 (.kill [0,1,2,6] (.loop (.fin [0,1,2,6] (.seq (.seq (.reg [qv 10 6,qv 11 2,qo 12 .lss 10 11]) (.kill [0,1,2,6,12] (.cond (.t 12) .skip (.exit 0)))) (.kill [0,1,2,6] (.seq (.block 1 (.seq (.reg [qv 15 6,qv 7 15]) (.kill [0,1,2,6,7] (.block 2 (.kill [0,1,2,6,7] (.loop (.fin [0,1,2,6,7] (.seq (.seq (.draw true [qv 16 7,qv 17 1,qo 18 .gtr 16 17,qv 19 18,⟨some 20,.P (.mov (.t 0)),(some (19,true))⟩,⟨some 21,.P (.mov (.t 7)),(some (19,true))⟩,⟨some 22,.P (.iaddr 1 (.t 20) (.t 21)),(some (19,true))⟩,⟨some 23,.R (.load 1 false (.t 22)),(some (19,true))⟩,⟨some 24,.P (.mov (.t 0)),(some (19,true))⟩,⟨some 25,.P (.mov (.t 7)),(some (19,true))⟩,⟨some 26,.P (.bin .sub (.t 25) (qz 1)),(some (19,true))⟩,⟨some 27,.P (.iaddr 1 (.t 24) (.t 26)),(some (19,true))⟩,⟨some 28,.R (.load 1 false (.t 27)),(some (19,true))⟩,⟨some 29,.C (.c (.func (.func 163) [] [])) [(.t 23),(.t 28)],(some (19,true))⟩,⟨some 30,.P (.pick (.t 19) (.t 29) (.c (.bool false))),none⟩] [[],[],[],[],[],[],[],[],[],[],[],[],[],[],[13]] [[],[],[],[],[],[],[],[],[],[],[],[],[],[],[]] [0,1,2,3,4,5,6,7,8,9,10,11,12,13,14]) (.kill [0,1,2,6,7,30] (.cond (.t 30) .skip (.exit 2)))) (.kill [0,1,2,6,7] (.seq (.block 3 (.draw true [qv 33 0,qv 34 7,qv 35 0,qv 36 7,qk 37 .sub 36 1,qv 38 0,qv 39 7,qk 40 .sub 39 1,qa 41 1 38 40,ql 42 41,qv 43 0,qv 44 7,qa 45 1 43 44,ql 46 45,qa 47 1 33 34,⟨none,.W (.store 1 (.t 47) (.t 42)),none⟩,qa 48 1 35 37,⟨none,.W (.store 1 (.t 48) (.t 46)),none⟩] [[],[],[],[],[],[],[],[],[],[],[],[],[],[],[],[],[],[]] [[],[],[],[],[],[],[],[],[],[],[],[],[],[],[],[],[],[]] [0,1,2,3,4,5,6,7,8,9,10,11,12,13,14,15,16,17])) (.kill [0,1,2,6,7] (.reg [qv 31 7,qk 32 .sub 31 1,qv 7 32])))))))))))) (.kill [0,1,2,6] (.reg [qv 13 6,qk 14 .add 13 1,qv 6 14]))))))))))) (E [] R .mk) .mk (mat 49 (sArgs 0 args)) m) (hl:Nat.ble args.length 49=true:=by rfl):ACalls Tryz.prog 157 args m R:=walk mix (by kernel_rfl) (Nat.le_of_ble_eq_true hl) h
abbrev h157_0 (t0 t1 t2 t6:AVal):AFrame:=mat 49 [(0,t0),(1,t1),(2,t2),(6,t6)]
abbrev h157_1 (t0 t1 t2 t6 t7:AVal):AFrame:=mat 49 [(0,t0),(1,t1),(2,t2),(6,t6),(7,t7)]
end Go.Proofs.YtlniliigcnedmaaGreatDoor
namespace Go.Proofs.YtlniliigcnedmaaGreatDoor
open Go Ax
set_option maxRecDepth 100000
@[simp] theorem loadE_new (m:AMem) (cs:List AVal) (ty:TypeId) (g:Option Nat) (o n:Nat):loadE (m++ [.own cs ty g]) n false (.ptr m.length o)=cs[o]? :=by
 simp[loadE,readB,ABlk.cells]
@[simp] theorem loadE_new' (m:AMem) (cs:List AVal) (ty:TypeId) (g:Option Nat) (o n:Nat):loadE (m++ [.own cs ty g]) n true (.ptr m.length o)=(readN cs o n).map .agg:=by
 simp[loadE,readB,ABlk.cells]
theorem Ax.Sl.one {m:AMem} {esz:Nat} {s:AVal} {n:Nat} {cs:List AVal} (h:Sl m esz s n cs):s.one=true:=by
 rcases h with ⟨rfl,_⟩|⟨b,o,cap,gr,rfl,_⟩<;>rfl
theorem Ax.RTab.mode {m:AMem} {s:AVal} {l:List Md} (h:RTab m s l) {i:Nat} (hi:i<l.length): ∃b o cs,(∀k,iaddrE 6 s (.int k i)=some (.ptr b o))∧loadE m 6 true (.ptr b o)=some (.agg cs)∧RMode m cs l[i]:=by
 obtain ⟨b,o,e,nm,h1,h2,_,_,_,_,_,_,h3,h4⟩:=h.at hi
 exact ⟨b,o,_,h1,h2,e,nm,rfl,h3,h4⟩
theorem step64 {k n:Nat} (h:k<n) (hn:n<2^62):IntKind.i64.wrap ((k:Int)+1)=(k:Int)+1:=wrap64 (by omega) (by omega)
theorem k67 (s:AVal) (l:List Md) (p:Md→Bool) (m:AMem) (hs:RTab m s l) (hn:l.length<2^62) (g:FuncId) (fs cs:List AVal)
  (hf: ∀x∈l,∀m' c,m<+:m'→RMode m' c x→ACalls Tryz.prog g (fs++ [.agg c]++cs) m' fun v m''=>v= .bool (p x)∧m'<+:m''):
  ACalls Tryz.prog 67 [s,.func (.func g) fs cs] m fun r m'=>r= .int .i64 (fidx (fun i=>(l[i]?).any p) 0 l.length)∧m<+:m':=by
 refine w67 ?_
 simp[hs.len]
 refine W_loop (fun n a m'=> ∃k:Nat,k+n=l.length∧a=h67_0 s (.func (.func g) fs cs) (.int .i64 l.length) (.int .i64 k)∧m<+:m'∧fidx (fun i=>(l[i]?).any p) k n=fidx (fun i=>(l[i]?).any p) 0 l.length) l.length ⟨0,by simp,by simp,List.prefix_refl _,by simp⟩ ?_
 rintro n a m' ⟨k,hk,rfl,hm,hi⟩
 simp
 refine bbind_dec (fun h=>?_) fun h=>?_
 ·simp
  have h:k<l.length:=by omega
  obtain ⟨b,o,c,h1,h2,h3⟩:=(hs.mono hm).mode h
  simp[h1,h2]
  obtain ⟨n,rfl⟩: ∃n',n=n'+1:=⟨n-1,by omega⟩
  have:=hf l[k] (List.getElem_mem h) m' c hm h3
  simp only[List.append_assoc,List.singleton_append] at this
  refine C_of this ?_
  rintro _ m'' ⟨rfl,hm'⟩
  simp only[fidx,List.getElem?_eq_getElem h,Option.any_some] at hi
  simp
  refine bbind_intro (fun he=>?_) fun he=>?_
  ·simp[he] at hi
   simp[hi,hm.trans hm']
  ·simp[he] at hi
   simp[step64 h hn]
   exact ⟨n,by omega,k+1,by omega,by simp,hm.trans hm',hi⟩
 ·simp
  obtain rfl:n=0:=by omega
  simp only[fidx] at hi
  simp[hi,hm]
theorem k33 (s:AVal) (l:List Md) (p:Md→Bool) (m:AMem) (hs:RTab m s l) (hn:l.length<2^62) (g:FuncId) (fs cs:List AVal)
  (hf: ∀x∈l,∀m' c,m<+:m'→RMode m' c x→ACalls Tryz.prog g (fs++ [.agg c]++cs) m' fun v m''=>v= .bool (p x)∧m'<+:m''):
  ACalls Tryz.prog 33 [s,.func (.func g) fs cs] m fun r m'=>r= .bool (l.any p)∧m<+:m':=by
 refine w33 ?_
 simp
 refine C_of (k67 s l p m hs hn g fs cs hf) ?_
 rintro _ m' ⟨rfl,hm⟩
 simp[hm]
 rw[Bool.eq_iff_iff,decide_eq_true_iff,fidx_nonneg,List.any_eq_true]
 constructor
 ·rintro ⟨j,_,h2,h3⟩
  have h2:j<l.length:=by omega
  rw[List.getElem?_eq_getElem h2] at h3
  exact ⟨_,List.getElem_mem h2,by simpa using h3⟩
 ·rintro ⟨x,hx,hp⟩
  obtain ⟨j,hj,rfl⟩:=List.getElem_of_mem hx
  exact ⟨j,by omega,by omega,by simp[hj,hp]⟩
theorem k73 (s:AVal) (l:List Int) (p:Int→Bool) (m:AMem) (hs:RInts m s l) (hn:l.length<2^62) (g:FuncId) (fs cs:List AVal)
  (hf: ∀x∈l,∀m',m<+:m'→ACalls Tryz.prog g (fs++ [.int .i64 x]++cs) m' fun v m''=>v= .bool (p x)∧m'<+:m''):
  ACalls Tryz.prog 73 [s,.func (.func g) fs cs] m fun r m'=>r= .int .i64 (fidx (fun i=>(l[i]?).any p) 0 l.length)∧m<+:m':=by
 refine w73 ?_
 simp[hs.len]
 refine W_loop (fun n a m'=> ∃k:Nat,k+n=l.length∧a=h73_0 s (.func (.func g) fs cs) (.int .i64 l.length) (.int .i64 k)∧m<+:m'∧fidx (fun i=>(l[i]?).any p) k n=fidx (fun i=>(l[i]?).any p) 0 l.length) l.length ⟨0,by simp,by simp,List.prefix_refl _,by simp⟩ ?_
 rintro n a m' ⟨k,hk,rfl,hm,hi⟩
 simp
 refine bbind_dec (fun h=>?_) fun h=>?_
 ·simp
  have h:k<l.length:=by omega
  obtain ⟨b,o,h1,h2⟩:=(hs.mono hm).at h
  simp[h1,h2]
  obtain ⟨n,rfl⟩: ∃n',n=n'+1:=⟨n-1,by omega⟩
  have:=hf l[k] (List.getElem_mem h) m' hm
  simp only[List.append_assoc,List.singleton_append] at this
  refine C_of this ?_
  rintro _ m'' ⟨rfl,hm'⟩
  simp only[fidx,List.getElem?_eq_getElem h,Option.any_some] at hi
  simp
  refine bbind_intro (fun he=>?_) fun he=>?_
  ·simp[he] at hi
   simp[hi,hm.trans hm']
  ·simp[he] at hi
   simp[step64 h hn]
   exact ⟨n,by omega,k+1,by omega,by simp,hm.trans hm',hi⟩
 ·simp
  obtain rfl:n=0:=by omega
  simp only[fidx] at hi
  simp[hi,hm]
theorem fidx_any {α:Type} (l:List α) (p:α→Bool):decide (0≤fidx (fun i=>(l[i]?).any p) 0 l.length)=l.any p:=by
 rw[Bool.eq_iff_iff,decide_eq_true_iff,fidx_nonneg,List.any_eq_true]
 constructor
 ·rintro ⟨j,_,h2,h3⟩
  have h2:j<l.length:=by omega
  rw[List.getElem?_eq_getElem h2] at h3
  exact ⟨_,List.getElem_mem h2,by simpa using h3⟩
 ·rintro ⟨x,hx,hp⟩
  obtain ⟨j,hj,rfl⟩:=List.getElem_of_mem hx
  exact ⟨j,by omega,by omega,by simp[hj,hp]⟩
theorem k36 (s:AVal) (l:List Int) (p:Int→Bool) (m:AMem) (hs:RInts m s l) (hn:l.length<2^62) (g:FuncId) (fs cs:List AVal)
  (hf: ∀x∈l,∀m',m<+:m'→ACalls Tryz.prog g (fs++ [.int .i64 x]++cs) m' fun v m''=>v= .bool (p x)∧m'<+:m''):
  ACalls Tryz.prog 36 [s,.func (.func g) fs cs] m fun r m'=>r= .bool (l.any p)∧m<+:m':=by
 refine w36 ?_
 simp
 refine C_of (k73 s l p m hs hn g fs cs hf) ?_
 rintro _ m' ⟨rfl,hm⟩
 simp[hm,fidx_any]
end Go.Proofs.YtlniliigcnedmaaGreatDoor
namespace Go.Proofs.YtlniliigcnedmaaGreatDoor
open Go Ax
set_option maxRecDepth 100000
theorem w118 {args m R} (h:W Tryz.prog (.seq (.reg [qb 8 true]) (.seq (.reg [qb 9 true]) (.block 0 (.kill [0,1,2,3,8,9] (.loop (.fin [0,1,2,3,8,9] (.block 1 (.seq (.reg [qv 19 2,qv 20 1,qo 21 .sub 19 20,qv 10 21]) (.kill [0,1,2,3,8,9,10] (.seq (.seq (.reg [qv 22 10,qk 23 .leq 22 12]) (.kill [0,1,2,3,8,9,10,23] (.cond (.t 23) (.seq (.reg [qv 24 0,qv 25 1,qv 26 2,qc 27 157 [(.t 24),(.t 25),(.t 26)]]) .ret) .skip))) (.kill [0,1,2,3,8,9,10] (.seq (.seq (.reg [qv 28 3,qk 29 .eql 28 0]) (.kill [0,1,2,3,8,9,10,29] (.cond (.t 29) (.seq (.reg [qv 30 0,qv 31 1,qv 32 2,qc 33 158 [(.t 30),(.t 31),(.t 32)]]) .ret) .skip))) (.kill [0,1,2,3,8,9,10] (.seq (.seq (.reg [qv 34 8,⟨some 35,.P (.un .not (.t 34)),none⟩]) (.kill [0,1,2,3,8,9,10,35] (.cond (.t 35) (.seq (.reg [qv 36 0,qv 37 1,qv 38 2,qc 39 159 [(.t 36),(.t 37),(.t 38)]]) (.kill [0,1,2,3,8,9,10] (.reg [qv 40 3,qk 41 .sub 40 1,qv 3 41]))) .skip))) (.kill [0,1,2,3,8,9,10] (.seq (.reg [qv 43 0,qv 44 1,qv 45 2,qc 46 160 [(.t 43),(.t 44),(.t 45)],qv 42 46,qx 47 42 0,qx 48 42 1,qv 11 47,qv 12 48]) (.kill [0,1,2,3,8,9,10,11,12] (.seq (.seq (.reg [qv 49 12,qk 50 .eql 49 2]) (.kill [0,1,2,3,8,9,10,11,12,50] (.cond (.t 50) (.seq (.reg [qv 51 0,qv 52 1,qv 53 2,qc 54 161 [(.t 51),(.t 52),(.t 53)]]) (.kill [0,1,2,3,8,9,10,11] (.seq (.reg [qv 55 2,qk 56 .sub 55 1,qv 57 11,qv 58 1,qo 59 .sub 57 58,qo 60 .sub 56 59,qv 11 60]) (.kill [0,1,2,3,8,9,10,11] (.reg [qi 12 1]))))) .skip))) (.kill [0,1,2,3,8,9,10,11,12] (.seq (.seq (.reg [qv 61 8,qv 62 61,⟨some 63,.P (.mov (.t 9)),(some (62,true))⟩,⟨some 64,.P (.pick (.t 62) (.t 63) (.c (.bool false))),none⟩,qv 65 64,⟨some 66,.P (.mov (.t 12)),(some (65,true))⟩,⟨some 67,.P (.bin .eql (.t 66) (qz 1)),(some (65,true))⟩,⟨some 68,.P (.pick (.t 65) (.t 67) (.c (.bool false))),none⟩]) (.kill [0,1,2,3,8,9,10,11,68] (.cond (.t 68) (.seq (.reg [qv 69 0,qv 70 1,qv 71 2,qc 72 162 [(.t 69),(.t 70),(.t 71)]]) (.kill [0,1,2,3,8,9,10,11,72] (.cond (.t 72) .ret .skip))) .skip))) (.kill [0,1,2,3,8,9,10,11] (.seq (.seq (.draw true [qv 73 1,qk 74 .gtr 73 0,qv 75 74,⟨some 76,.P (.mov (.t 0)),(some (75,true))⟩,⟨some 77,.P (.mov (.t 1)),(some (75,true))⟩,⟨some 78,.P (.bin .sub (.t 77) (qz 1)),(some (75,true))⟩,⟨some 79,.P (.iaddr 1 (.t 76) (.t 78)),(some (75,true))⟩,⟨some 80,.R (.load 1 false (.t 79)),(some (75,true))⟩,⟨some 81,.P (.mov (.t 0)),(some (75,true))⟩,⟨some 82,.P (.mov (.t 11)),(some (75,true))⟩,⟨some 83,.P (.iaddr 1 (.t 81) (.t 82)),(some (75,true))⟩,⟨some 84,.R (.load 1 false (.t 83)),(some (75,true))⟩,⟨some 85,.C (.c (.func (.func 163) [] [])) [(.t 80),(.t 84)],(some (75,true))⟩,⟨some 86,.P (.un .not (.t 85)),(some (75,true))⟩,⟨some 87,.P (.pick (.t 75) (.t 86) (.c (.bool false))),none⟩] [[],[],[],[],[],[],[],[],[],[],[],[],[],[12],[12]] [[],[],[],[],[],[],[],[],[],[],[],[],[],[],[]] [0,1,2,3,4,5,6,7,8,9,10,11,12,13,14]) (.kill [0,1,2,3,8,9,10,11,87] (.cond (.t 87) (.seq (.reg [qv 88 0,qv 89 1,qv 90 2,qv 91 11,qc 92 164 [(.t 88),(.t 89),(.t 90),(.t 91)],qv 13 92]) (.kill [0,2,3,8,9,13] (.seq (.reg [qv 93 13,qv 1 93]) (.exit 1)))) .skip))) (.kill [0,1,2,3,10,11] (.seq (.reg [qv 95 0,qv 96 1,qv 97 2,qv 98 11,qc 99 165 [(.t 95),(.t 96),(.t 97),(.t 98)],qv 94 99,qx 100 94 0,qx 101 94 1,qv 14 100,qv 15 101]) (.kill [0,1,2,3,10,14,15] (.seq (.reg [qv 102 15,qv 9 102]) (.kill [0,1,2,3,9,10,14] (.seq (.reg [qv 103 14,qv 104 1,qo 105 .sub 103 104,qv 106 2,qv 107 14,qo 108 .sub 106 107,qv 16 105,qv 17 108]) (.kill [0,1,2,3,9,10,14,16,17] (.seq (.reg [qv 109 10,qk 110 .quo 109 8,qv 18 110]) (.kill [0,1,2,3,9,14,16,17,18] (.seq (.reg [qv 111 16,qv 112 17,qo 113 .lss 111 112]) (.kill [0,1,2,3,9,14,16,17,18,113] (.cond (.t 113) (.seq (.reg [qv 114 16,qv 115 18,qo 116 .geq 114 115,qv 8 116]) (.kill [0,1,2,3,8,9,14] (.seq (.reg [qv 117 0,qv 118 1,qv 119 14,qv 120 3,qc 121 118 [(.t 117),(.t 118),(.t 119),(.t 120)]]) (.kill [0,2,3,8,9,14] (.reg [qv 122 14,qk 123 .add 122 1,qv 1 123]))))) (.seq (.reg [qv 124 17,qv 125 18,qo 126 .geq 124 125,qv 8 126]) (.kill [0,1,2,3,8,9,14] (.seq (.reg [qv 127 0,qv 128 14,qk 129 .add 128 1,qv 130 2,qv 131 3,qc 132 118 [(.t 127),(.t 129),(.t 130),(.t 131)]]) (.kill [0,1,3,8,9,14] (.reg [qv 133 14,qv 2 133]))))))))))))))))))))))))))))))))))))))) (E [] R .mk) .mk (mat 134 (sArgs 0 args)) m) (hl:Nat.ble args.length 134=true:=by rfl):ACalls Tryz.prog 118 args m R:=walk mix (by kernel_rfl) (Nat.le_of_ble_eq_true hl) h
abbrev h118_0 (t0 t1 t2 t3 t8 t9:AVal):AFrame:=mat 134 [(0,t0),(1,t1),(2,t2),(3,t3),(8,t8),(9,t9)]
theorem w58 {args m R} (h:W Tryz.prog (.seq (.reg [⟨some 2,.P (.mov (.c .nilslice)),none⟩]) (.kill [0] (.seq (.seq (.reg [qv 3 0,⟨some 4,.P (.eqN .slice false (.t 3)),none⟩]) (.kill [0,4] (.cond (.t 4) (.seq (.reg [⟨some 2,.P (.mov (.c .nilslice)),none⟩]) .ret) .skip))) (.kill [0] (.seq (.reg [⟨some 5,.A (.bslice 9 0 [(.str ⟨#[]⟩)] []),none⟩,qv 6 0,⟨some 7,.W (.append 1 16 9 false (.t 5) (.t 6)),none⟩,qv 2 7]) .ret))))) (E [(.tmp 2)] R .mk) .mk (mat 8 (sArgs 0 args)) m) (hl:Nat.ble args.length 8=true:=by rfl):ACalls Tryz.prog 58 args m R:=walk mix (by kernel_rfl) (Nat.le_of_ble_eq_true hl) h
end Go.Proofs.YtlniliigcnedmaaGreatDoor
namespace Go.Proofs.YtlniliigcnedmaaGreatDoor
open Go Ax
set_option maxRecDepth 100000
theorem w194 {args m R} (h:W Tryz.prog (.seq (.reg [qv 12 1,qv 10 12]) (.kill [0,2,3,4,10] (.block 0 (.kill [0,2,3,4,10] (.loop (.fin [0,2,3,4,10] (.block 1 (.seq (.reg [qv 13 10,⟨some 14,.P (.bin .mul (qz 2) (.t 13)),none⟩,qk 15 .add 14 1,qv 11 15]) (.kill [0,2,3,4,10,11] (.seq (.seq (.reg [qv 16 11,qv 17 2,qo 18 .geq 16 17]) (.kill [0,2,3,4,10,11,18] (.cond (.t 18) (.exit 0) .skip))) (.kill [0,2,3,4,10,11] (.seq (.seq (.draw true [qv 19 11,qk 20 .add 19 1,qv 21 2,qo 22 .lss 20 21,qv 23 22,⟨some 24,.P (.mov (.t 4)),(some (23,true))⟩,⟨some 25,.P (.mov (.t 0)),(some (23,true))⟩,⟨some 26,.P (.mov (.t 3)),(some (23,true))⟩,⟨some 27,.P (.mov (.t 11)),(some (23,true))⟩,⟨some 28,.P (.bin .add (.t 26) (.t 27)),(some (23,true))⟩,⟨some 29,.P (.iaddr 1 (.t 25) (.t 28)),(some (23,true))⟩,⟨some 30,.R (.load 1 false (.t 29)),(some (23,true))⟩,⟨some 31,.P (.mov (.t 0)),(some (23,true))⟩,⟨some 32,.P (.mov (.t 3)),(some (23,true))⟩,⟨some 33,.P (.mov (.t 11)),(some (23,true))⟩,⟨some 34,.P (.bin .add (.t 32) (.t 33)),(some (23,true))⟩,⟨some 35,.P (.bin .add (.t 34) (qz 1)),(some (23,true))⟩,⟨some 36,.P (.iaddr 1 (.t 31) (.t 35)),(some (23,true))⟩,⟨some 37,.R (.load 1 false (.t 36)),(some (23,true))⟩,⟨some 38,.C (.t 24) [(.t 30),(.t 37)],(some (23,true))⟩,⟨some 39,.P (.bin .lss (.t 38) (qz 0)),(some (23,true))⟩,⟨some 40,.P (.pick (.t 23) (.t 39) (.c (.bool false))),none⟩] [[],[],[],[],[],[],[],[],[],[],[],[],[],[],[],[],[],[],[],[],[19],[19]] [[],[],[],[],[],[],[],[],[],[],[],[],[],[],[],[],[],[],[],[],[],[]] [0,1,2,3,4,5,6,7,8,9,10,11,12,13,14,15,16,17,18,19,20,21]) (.kill [0,2,3,4,10,11,40] (.cond (.t 40) (.reg [qv 41 11,qk 42 .add 41 1,qv 11 42]) .skip))) (.kill [0,2,3,4,10,11] (.seq (.seq (.draw true [qv 43 4,qv 44 0,qv 45 3,qv 46 10,qo 47 .add 45 46,qa 48 1 44 47,ql 49 48,qv 50 0,qv 51 3,qv 52 11,qo 53 .add 51 52,qa 54 1 50 53,ql 55 54,⟨some 56,.C (.t 43) [(.t 49),(.t 55)],none⟩,qk 57 .lss 56 0,⟨some 58,.P (.un .not (.t 57)),none⟩] [[],[],[],[],[],[],[],[],[],[],[],[],[],[],[13],[13]] [[],[],[],[],[],[],[],[],[],[],[],[],[],[],[],[]] [0,1,2,3,4,5,6,7,8,9,10,11,12,13,14,15]) (.kill [0,2,3,4,10,11,58] (.cond (.t 58) .ret .skip))) (.kill [0,2,3,4,10,11] (.seq (.draw true [qv 59 0,qv 60 3,qv 61 10,qo 62 .add 60 61,qv 63 0,qv 64 3,qv 65 11,qo 66 .add 64 65,qv 67 0,qv 68 3,qv 69 11,qo 70 .add 68 69,qa 71 1 67 70,ql 72 71,qv 73 0,qv 74 3,qv 75 10,qo 76 .add 74 75,qa 77 1 73 76,ql 78 77,qa 79 1 59 62,⟨none,.W (.store 1 (.t 79) (.t 72)),none⟩,qa 80 1 63 66,⟨none,.W (.store 1 (.t 80) (.t 78)),none⟩] [[],[],[],[],[],[],[],[],[],[],[],[],[],[],[],[],[],[],[],[],[],[],[],[]] [[],[],[],[],[],[],[],[],[],[],[],[],[],[],[],[],[],[],[],[],[],[],[],[]] [0,1,2,3,4,5,6,7,8,9,10,11,12,13,14,15,16,17,18,19,20,21,22,23]) (.kill [0,2,3,4,11] (.reg [qv 81 11,qv 10 81])))))))))))))))))) (E [] R .mk) .mk (mat 82 (sArgs 0 args)) m) (hl:Nat.ble args.length 82=true:=by rfl):ACalls Tryz.prog 194 args m R:=walk mix (by kernel_rfl) (Nat.le_of_ble_eq_true hl) h
abbrev h194_0 (t0 t2 t3 t4 t10:AVal):AFrame:=mat 82 [(0,t0),(2,t2),(3,t3),(4,t4),(10,t10)]
theorem w182 {args m R} (h:W Tryz.prog (.seq (.reg [⟨some 2,.P (.mov (.c (.int .u64 0))),none⟩]) (.kill [0] (.seq (.reg [qv 3 0,⟨some 4,.P (.i2i .u64 (.t 3)),none⟩,qc 5 115 [(.t 4)],⟨some 6,.P (.bin .shl (.c (.int .u64 1)) (.t 5)),none⟩,qv 2 6]) .ret))) (E [(.tmp 2)] R .mk) .mk (mat 7 (sArgs 0 args)) m) (hl:Nat.ble args.length 7=true:=by rfl):ACalls Tryz.prog 182 args m R:=walk mix (by kernel_rfl) (Nat.le_of_ble_eq_true hl) h
theorem w183 {args m R} (h:W Tryz.prog (.seq (.reg [⟨some 2,.P (.mov (.c (.int .u64 0))),none⟩]) (.kill [0] (.seq (.draw true [qv 3 0,⟨some 4,.P (.nilck (.t 3)),none⟩,ql 5 4,qv 6 0,⟨some 7,.P (.nilck (.t 6)),none⟩,ql 8 7,⟨some 9,.P (.bin .shl (.t 8) (.c (.int .u64 13))),none⟩,qo 10 .xor 5 9,⟨some 11,.P (.nilck (.t 3)),none⟩,⟨none,.W (.store 1 (.t 11) (.t 10)),none⟩] [[],[],[],[],[],[],[],[],[],[]] [[],[],[],[],[],[],[],[],[],[]] [0,1,2,3,4,5,6,7,8,9]) (.kill [0] (.seq (.draw true [qv 12 0,⟨some 13,.P (.nilck (.t 12)),none⟩,ql 14 13,qv 15 0,⟨some 16,.P (.nilck (.t 15)),none⟩,ql 17 16,⟨some 18,.P (.bin .shr (.t 17) (.c (.int .u64 7))),none⟩,qo 19 .xor 14 18,⟨some 20,.P (.nilck (.t 12)),none⟩,⟨none,.W (.store 1 (.t 20) (.t 19)),none⟩] [[],[],[],[],[],[],[],[],[],[]] [[],[],[],[],[],[],[],[],[],[]] [0,1,2,3,4,5,6,7,8,9]) (.kill [0] (.seq (.draw true [qv 21 0,⟨some 22,.P (.nilck (.t 21)),none⟩,ql 23 22,qv 24 0,⟨some 25,.P (.nilck (.t 24)),none⟩,ql 26 25,⟨some 27,.P (.bin .shl (.t 26) (.c (.int .u64 17))),none⟩,qo 28 .xor 23 27,⟨some 29,.P (.nilck (.t 21)),none⟩,⟨none,.W (.store 1 (.t 29) (.t 28)),none⟩] [[],[],[],[],[],[],[],[],[],[]] [[],[],[],[],[],[],[],[],[],[]] [0,1,2,3,4,5,6,7,8,9]) (.kill [0] (.seq (.reg [qv 30 0,⟨some 31,.P (.nilck (.t 30)),none⟩,ql 32 31,qv 2 32]) .ret))))))))) (E [(.tmp 2)] R .mk) .mk (mat 33 (sArgs 0 args)) m) (hl:Nat.ble args.length 33=true:=by rfl):ACalls Tryz.prog 183 args m R:=walk mix (by kernel_rfl) (Nat.le_of_ble_eq_true hl) h
theorem w195 {args m R} (h:W Tryz.prog (.seq (.reg [qi 8 0]) (.kill [0,1,2,3] (.seq (.reg [qv 9 0,qv 10 1,qk 11 .sub 10 1,qv 12 1,qv 13 1,qk 14 .add 13 1,qv 15 2,qv 16 3,qc 17 196 [(.t 9),(.t 11),(.t 12),(.t 14),(.t 15),(.t 16)],qv 8 17]) .ret))) (E [(.tmp 8)] R .mk) .mk (mat 18 (sArgs 0 args)) m) (hl:Nat.ble args.length 18=true:=by rfl):ACalls Tryz.prog 195 args m R:=walk mix (by kernel_rfl) (Nat.le_of_ble_eq_true hl) h
theorem w196 {args m R} (h:W Tryz.prog (.seq (.reg [qi 12 0]) (.kill [0,1,2,3,4,5] (.seq (.reg [qv 14 0,qv 15 1,qv 16 2,qv 17 4,qv 18 5,qc 19 203 [(.t 14),(.t 15),(.t 16),(.t 17),(.t 18)],qv 13 19,qx 20 13 0,qx 21 13 1,qv 1 20,qv 2 21]) (.kill [0,1,2,3,4,5] (.seq (.reg [qv 23 0,qv 24 2,qv 25 3,qv 26 4,qv 27 5,qc 28 203 [(.t 23),(.t 24),(.t 25),(.t 26),(.t 27)],qv 22 28,qx 29 22 0,qx 30 22 1,qv 2 29,qv 3 30]) (.kill [0,1,2,4,5] (.seq (.reg [qv 32 0,qv 33 1,qv 34 2,qv 35 4,qv 36 5,qc 37 203 [(.t 32),(.t 33),(.t 34),(.t 35),(.t 36)],qv 31 37,qx 38 31 0,qx 39 31 1,qv 1 38,qv 2 39]) (.kill [2] (.seq (.reg [qv 40 2,qv 12 40]) .ret))))))))) (E [(.tmp 12)] R .mk) .mk (mat 41 (sArgs 0 args)) m) (hl:Nat.ble args.length 41=true:=by rfl):ACalls Tryz.prog 196 args m R:=walk mix (by kernel_rfl) (Nat.le_of_ble_eq_true hl) h
theorem w186 {args m R} (h:W Tryz.prog (.seq (.reg [qb 2 false]) (.kill [0] (.seq (.reg [qv 3 0,qv 4 0,qo 5 .neq 3 4,qv 2 5]) .ret))) (E [(.tmp 2)] R .mk) .mk (mat 6 (sArgs 0 args)) m) (hl:Nat.ble args.length 6=true:=by rfl):ACalls Tryz.prog 186 args m R:=walk mix (by kernel_rfl) (Nat.le_of_ble_eq_true hl) h
end Go.Proofs.YtlniliigcnedmaaGreatDoor
namespace Go.Proofs.YtlniliigcnedmaaGreatDoor
open Go Ax
set_option maxRecDepth 100000
def rall (p:Nat→Bool):Nat→Nat→Bool
 |_,0=>true
 |i,n+1=>p i&&rall p (i+1) n
theorem rall_iff (p:Nat→Bool): ∀(n i:Nat),rall p i n=true↔ ∀j,i≤j→j<i+n→p j=true
 |0,i=>by simp[rall];omega
 |n+1,i=>by
  rw[rall,Bool.and_eq_true,rall_iff p n (i+1)]
  constructor
  ·rintro ⟨h1,h2⟩ j h3 h4
   by_cases hj:j=i
   ·subst hj;exact h1
   ·exact h2 j (by omega) (by omega)
  ·intro h
   exact ⟨h i (by omega) (by omega),fun j h1 h2=>h j (by omega) (by omega)⟩
def chOf (s:ByteArray) (i:Nat):Int:=((s[i]?).getD 0).toNat
theorem ixs_at {s:ByteArray} {i:Nat} (h:i<s.size) (k:IntKind):ixsE (.str s) (.int k i)=some (.int .u8 (chOf s i)):=by
 simp[ixsE,chOf,h]
def okCh (f t:Int) (i:Nat) (c:Int):Bool:=(decide (f≤c)&&decide (c≤t))||(decide (i≠0)&&decide (48≤c)&&decide (c≤57))
def wordB (f t:Int) (s:ByteArray):Bool:=rall (fun i=>okCh f t i (chOf s i)) 0 s.size&&(decide (1≤s.size)&&decide (s.size≤40))
theorem okCh_eq (f t:Int) (k:Nat) (c:Int):okCh f t k c=((decide (f≤c)&&decide (c≤t))||(!((k:Int)==0)&&(!decide (c<48)&& !decide (57<c)))):=by
 unfold okCh
 rw[Bool.eq_iff_iff]
 simp
 omega
set_option maxHeartbeats 2000000 in
theorem k169 (s:ByteArray) (f t:Int) (m:AMem) (hn:s.size<2^62):ACalls Tryz.prog 169 [.str s,.int .u8 f,.int .u8 t] m fun v m'=>v= .bool (wordB f t s)∧m'=m:=by
 refine w169 ?_
 simp
 refine W_loop (fun n a m'=> ∃k:Nat,k+n=s.size∧a=h169_0 (.str s) (.int .u8 f) (.int .u8 t) (.int .i64 s.size) (.int .i64 k)∧m'=m∧rall (fun i=>okCh f t i (chOf s i)) k n=rall (fun i=>okCh f t i (chOf s i)) 0 s.size) s.size ⟨0,by simp⟩ ?_
 rintro n a m' ⟨k,hk,rfl,rfl,hi⟩
 simp
 refine bbind_dec (fun h=>?_) fun h=>?_
 ·have h:k<s.size:=by omega
  have hx:=ixs_at h .i64
  obtain ⟨n,rfl⟩: ∃n',n=n'+1:=⟨n-1,by omega⟩
  simp only[rall,okCh_eq f t k] at hi
  have hw:=step64 h hn
  have rest: ¬(f≤chOf s k∧chOf s k≤t)→((!((k:Int)==0)&&(!decide (chOf s k<48)&& !decide (57<chOf s k)))&&rall (fun i=>okCh f t i (chOf s i)) (k+1) n)=rall (fun i=>okCh f t i (chOf s i)) 0 s.size:=by
   intro hn
   rw[←hi]
   have:(decide (f≤chOf s k)&&decide (chOf s k≤t))=false:=by simpa using hn
   rw[this,Bool.false_or]
  by_cases hl:f≤chOf s k∧chOf s k≤t
  ·obtain ⟨c1,c2⟩:=hl
   simp[c1,c2] at hi
   simp[hx,c1,c2,hw]
   exact ⟨n,by omega,k+1,by omega,by simp,hi⟩
  ·have hi:=rest hl
   cases c3:((k:Int)==0)
   ·by_cases c4:chOf s k<48
    ·simp[c3,c4] at hi
     by_cases c1:f≤chOf s k
     ·have c2: ¬chOf s k≤t:=fun h=>hl ⟨c1,h⟩
      simp[hx,c1,c2,c3,c4,wordB,hi]
     ·simp[hx,c1,c3,c4,wordB,hi]
    ·by_cases c5:57<chOf s k
     ·simp[c3,c4,c5] at hi
      by_cases c1:f≤chOf s k
      ·have c2: ¬chOf s k≤t:=fun h=>hl ⟨c1,h⟩
       simp[hx,c1,c2,c3,c4,c5,wordB,hi]
      ·simp[hx,c1,c3,c4,c5,wordB,hi]
     ·simp[c3,c4,c5] at hi
      by_cases c1:f≤chOf s k
      ·have c2: ¬chOf s k≤t:=fun h=>hl ⟨c1,h⟩
       simp[hx,c1,c2,c3,c4,c5,hw]
       exact ⟨n,by omega,k+1,by omega,by simp,hi⟩
      ·simp[hx,c1,c3,c4,c5,hw]
       exact ⟨n,by omega,k+1,by omega,by simp,hi⟩
   ·simp[c3] at hi
    by_cases c1:f≤chOf s k
    ·have c2: ¬chOf s k≤t:=fun h=>hl ⟨c1,h⟩
     simp[hx,c1,c2,c3,wordB,hi]
    ·simp[hx,c1,c3,wordB,hi]
 ·obtain rfl:n=0:=by omega
  simp only[rall] at hi
  have fin:wordB f t s=(decide (1≤s.size)&&decide (s.size≤40)):=by rw[wordB,←hi,Bool.true_and]
  by_cases h1:(1:Int)≤s.size
  ·have h1':1≤s.size:=by omega
   simp[fin,h1,h1']
   omega
  ·have h1':s.size=0:=by omega
   simp[fin,h1']
theorem k127 (s:ByteArray) (m:AMem) (hn:s.size<2^62):ACalls Tryz.prog 127 [.str s] m fun v m'=>v= .bool (wordB 97 122 s)∧m'=m:=by
 refine w127 ?_
 simp
 refine C_of (k169 s 97 122 m hn) ?_
 rintro _ _ ⟨rfl,rfl⟩
 simp
theorem k126 (s:ByteArray) (m:AMem) (hn:s.size<2^62):ACalls Tryz.prog 126 [.str s] m fun v m'=>v= .bool (!wordB 97 122 s)∧m'=m:=by
 refine w126 ?_
 simp
 refine C_of (k127 s m hn) ?_
 rintro _ _ ⟨rfl,rfl⟩
 simp
def sEq (x y:ByteArray):Bool:=x.toList==y.toList
theorem k168 (s:AVal) (l:List ByteArray) (p:ByteArray→Bool) (m:AMem) (hs:RStrs m s l) (hn:l.length<2^62) (g:FuncId) (fs cs:List AVal)
  (hf: ∀x∈l,∀m',m<+:m'→ACalls Tryz.prog g (fs++ [.str x]++cs) m' fun v m''=>v= .bool (p x)∧m'<+:m''):
  ACalls Tryz.prog 168 [s,.func (.func g) fs cs] m fun r m'=>r= .int .i64 (fidx (fun i=>(l[i]?).any p) 0 l.length)∧m<+:m':=by
 refine w168 ?_
 simp[hs.len]
 refine W_loop (fun n a m'=> ∃k:Nat,k+n=l.length∧a=h168_0 s (.func (.func g) fs cs) (.int .i64 l.length) (.int .i64 k)∧m<+:m'∧fidx (fun i=>(l[i]?).any p) k n=fidx (fun i=>(l[i]?).any p) 0 l.length) l.length ⟨0,by simp,by simp,List.prefix_refl _,by simp⟩ ?_
 rintro n a m' ⟨k,hk,rfl,hm,hi⟩
 simp
 refine bbind_dec (fun h=>?_) fun h=>?_
 ·simp
  have h:k<l.length:=by omega
  obtain ⟨b,o,h1,h2⟩:=(hs.mono hm).at h
  simp[h1,h2]
  obtain ⟨n,rfl⟩: ∃n',n=n'+1:=⟨n-1,by omega⟩
  have:=hf l[k] (List.getElem_mem h) m' hm
  simp only[List.append_assoc,List.singleton_append] at this
  refine C_of this ?_
  rintro _ m'' ⟨rfl,hm'⟩
  simp only[fidx,List.getElem?_eq_getElem h,Option.any_some] at hi
  simp
  refine bbind_intro (fun he=>?_) fun he=>?_
  ·simp[he] at hi
   simp[hi,hm.trans hm']
  ·simp[he] at hi
   simp[step64 h hn]
   exact ⟨n,by omega,k+1,by omega,by simp,hm.trans hm',hi⟩
 ·simp
  obtain rfl:n=0:=by omega
  simp only[fidx] at hi
  simp[hi,hm]
theorem k125 (s:AVal) (l:List ByteArray) (p:ByteArray→Bool) (m:AMem) (hs:RStrs m s l) (hn:l.length<2^62) (g:FuncId) (fs cs:List AVal)
  (hf: ∀x∈l,∀m',m<+:m'→ACalls Tryz.prog g (fs++ [.str x]++cs) m' fun v m''=>v= .bool (p x)∧m'<+:m''):
  ACalls Tryz.prog 125 [s,.func (.func g) fs cs] m fun r m'=>r= .bool (l.any p)∧m<+:m':=by
 refine w125 ?_
 simp
 refine C_of (k168 s l p m hs hn g fs cs hf) ?_
 rintro _ m' ⟨rfl,hm⟩
 simp[hm,fidx_any]
theorem k170 (s:AVal) (l:List ByteArray) (v:ByteArray) (m:AMem) (hs:RStrs m s l) (hn:l.length<2^62):ACalls Tryz.prog 170 [s,.str v] m fun r m'=>r= .int .i64 (fidx (fun i=>(l[i]?).any (sEq v)) 0 l.length)∧m'=m:=by
 refine w170 ?_
 simp[hs.len]
 refine W_loop (fun n a m'=> ∃k:Nat,k+n=l.length∧a=h170_0 s (.str v) (.int .i64 l.length) (.int .i64 k)∧m'=m∧fidx (fun i=>(l[i]?).any (sEq v)) k n=fidx (fun i=>(l[i]?).any (sEq v)) 0 l.length) l.length ⟨0,by simp⟩ ?_
 rintro n a m' ⟨k,hk,rfl,rfl,hi⟩
 simp
 refine bbind_dec (fun h=>?_) fun h=>?_
 ·simp
  have h:k<l.length:=by omega
  obtain ⟨b,o,h1,h2⟩:=hs.at h
  simp[h1,h2,binStr]
  obtain ⟨n,rfl⟩: ∃n',n=n'+1:=⟨n-1,by omega⟩
  simp only[fidx,List.getElem?_eq_getElem h,Option.any_some] at hi
  refine bbind_intro (fun he=>?_) fun he=>?_
  ·have he:sEq v l[k]=true:=he
   simp[he] at hi
   simp[hi]
  ·have he:sEq v l[k]=false:=he
   simp[he] at hi
   simp[step64 h hn]
   exact ⟨n,by omega,k+1,by omega,by simp,hi⟩
 ·simp
  obtain rfl:n=0:=by omega
  simp only[fidx] at hi
  simp[hi]
theorem k128 (s:AVal) (l:List ByteArray) (v:ByteArray) (m:AMem) (hs:RStrs m s l) (hn:l.length<2^62):ACalls Tryz.prog 128 [s,.str v] m fun r m'=>r= .bool (l.any (sEq v))∧m'=m:=by
 refine w128 ?_
 simp
 refine C_of (k170 s l v m hs hn) ?_
 rintro _ _ ⟨rfl,rfl⟩
 simp[fidx_any]
end Go.Proofs.YtlniliigcnedmaaGreatDoor
namespace Go.Proofs.YtlniliigcnedmaaGreatDoor
open Go Ax
set_option maxRecDepth 100000
@[simp] theorem loadE_push (m:AMem) (x:ABlk) (b o n:Nat) (g:Bool) (h:b<m.length):loadE (m++ [x]) n g (.ptr b o)=loadE m n g (.ptr b o):=by
 simp[loadE,readB,List.getElem?_append_left h]
theorem k124 (s:AVal) (l:List Md) (i:Int) (m:AMem) (hs:RTab m s l):ACalls Tryz.prog 124 [s,.int .i64 i] m fun v m'=>v= .bool (decide (0≤i)&&decide (i<l.length))∧m'=m:=by
 refine w124 ?_
 by_cases h:0≤i<;>simp[h,hs.len]
theorem k64 (s:AVal) (l:List Md) (i:Int) (m:AMem) (hs:RTab m s l):ACalls Tryz.prog 64 [s,.int .i64 i] m fun v m'=>v= .bool (decide (0≤i)&&decide (i<l.length))∧m'=m:=by
 refine w64 ?_
 by_cases h:0≤i<;>simp[h,hs.len]
def yinB (x:Md):Bool:=x.kind==9||x.kind==13
def yangB (x:Md):Bool:=x.kind==11||(x.kind==13&&decide (1<x.elems.length))
theorem k131 (c:List AVal) (x:Md) (m:AMem) (hx:RMode m c x):ACalls Tryz.prog 131 [.agg c] m fun v m'=>v= .bool (yinB x)∧m<+:m':=by
 obtain ⟨e,nm,rfl,he,hn⟩:=hx
 refine w131 ?_
 have h1:=Sl.one he
 have h2:=Sl.one hn
 cases h:x.kind==9<;>simp[h1,h2,h,yinB]
theorem k132 (c:List AVal) (x:Md) (m:AMem) (hx:RMode m c x):ACalls Tryz.prog 132 [.agg c] m fun v m'=>v= .bool (yangB x)∧m<+:m':=by
 obtain ⟨e,nm,rfl,he,hn⟩:=hx
 refine w132 ?_
 have h1:=Sl.one he
 have h2:=Sl.one hn
 cases h:x.kind==11
 ·cases h':x.kind==13
  ·simp[h1,h2,h,h',yangB]
  ·simp[h1,h2,h,h',he.len,yangB]
   omega
 ·simp[h1,h2,h,yangB]
theorem k135 (c:List AVal) (x:Md) (m:AMem) (hx:RMode m c x):ACalls Tryz.prog 135 [.agg c] m fun v m'=>v= .bool true∧m<+:m':=by
 obtain ⟨e,nm,rfl,he,hn⟩:=hx
 refine w135 ?_
 have h1:=Sl.one he
 have h2:=Sl.one hn
 simp[h1,h2]
theorem k123 (s:AVal) (l:List Md) (i:Int) (b:Nat) (m:AMem) (hb:loadE m 1 false (.ptr b 0)=some s) (hs:RTab m s l):ACalls Tryz.prog 123 [.int .i64 i,.ptr b 0] m fun v m'=>v= .bool (!(decide (0≤i)&&decide (i<l.length)))∧m'=m:=by
 refine w123 ?_
 simp[hb]
 refine C_of (k124 s l i m hs) ?_
 rintro _ _ ⟨rfl,rfl⟩
 simp
theorem k129 (s:AVal) (l:List Md) (i:Nat) (b:Nat) (m:AMem) (hb:loadE m 1 false (.ptr b 0)=some s) (hs:RTab m s l) (hi:i<l.length):ACalls Tryz.prog 129 [.int .i64 i,.ptr b 0] m fun v m'=>v= .bool (l[i].kind==0)∧m'=m:=by
 refine w129 ?_
 obtain ⟨b',o,e,nm,h1,_,h2,_⟩:=hs.at hi
 simp[hb,h1,h2]
end Go.Proofs.YtlniliigcnedmaaGreatDoor
namespace Go.Proofs.YtlniliigcnedmaaGreatDoor
open Go Ax
set_option maxRecDepth 100000
def least (x:Md):Int:=if x.kind=9∨x.kind=10∨x.kind=11∨x.kind=13 then 1 else if x.kind=12 then 2 else 0
def most (x:Md):Int:=if x.kind=9∨x.kind=10 then 1 else if x.kind=11∨x.kind=12∨x.kind=13 then x.elems.length else 0
def nNames (x:Md):Int:=if x.kind=11 then x.elems.length else 0
def dimsOk (x:Md):Prop:=if x.kind=10 then 1≤x.dims∧x.dims≤3 else x.dims=0
def sizeOk (x:Md):Prop:=if x.kind=3∨x.kind=4∨x.kind=5 then-1≤x.size∧x.size≤1 else x.size=0
instance (x:Md):Decidable (dimsOk x):=by unfold dimsOk;infer_instance
instance (x:Md):Decidable (sizeOk x):=by unfold sizeOk;infer_instance
def shaped (x:Md):Prop:=least x≤x.elems.length∧(x.elems.length:Int)≤most x∧(x.names.length:Int)=nNames x∧dimsOk x∧sizeOk x∧(x.flex=true→x.kind=10)
instance (x:Md):Decidable (shaped x):=by unfold shaped;infer_instance
def shapeI (x:Md):Int:=
 if x.kind<0∨14≤x.kind then 13
 else if shaped x then (if 64<x.elems.length then 3 else 0) else 14
set_option maxHeartbeats 4000000 in
theorem k122 (c:List AVal) (x:Md) (m:AMem) (hx:RMode m c x):ACalls Tryz.prog 122 [.agg c] m fun v m'=>v= .int .i64 (shapeI x)∧m<+:m':=by
 obtain ⟨e,nm,rfl,he,hn⟩:=hx
 refine w122 ?_
 have h1:=Sl.one he
 have h2:=Sl.one hn
 have hel:=he.len
 have hnl:=hn.len
 simp[h1,h2]
 have hb:readB (m++ [.own [.int .i64 x.kind,.int .i64 x.size,e,nm,.int .i64 x.dims,.bool x.flex] 39 none]) m.length=some [.int .i64 x.kind,.int .i64 x.size,e,nm,.int .i64 x.dims,.bool x.flex]:=by simp[readB,ABlk.cells]
 have hm:m<+:m++ [.own [.int .i64 x.kind,.int .i64 x.size,e,nm,.int .i64 x.dims,.bool x.flex] 39 none]:=List.prefix_append _ _
 revert hb hm
 generalize (m++ [.own [.int .i64 x.kind,.int .i64 x.size,e,nm,.int .i64 x.dims,.bool x.flex] 39 none])=m1
 intro hb hm
 generalize m.length=b at*
 by_cases hk:x.kind<0
 ·simp[hk,shapeI,hm]
 by_cases hk':14≤x.kind
 ·simp[hk,hk',shapeI,loadE,hb,hm]
 simp[hk,hk',loadE,hb]
 generalize hS:shapeI x=S
 replace hS:S=if shaped x then (if 64<x.elems.length then 3 else 0) else 14:=by rw[←hS,shapeI,if_neg (by omega)]
 refine bbind_J (fun a m'=>a.forget [1,3,4,17,18]=mat 126 [(1,.ptr b 0),(3,.int .i64 0),(4,.int .i64 0),(17,.int .i64 x.kind),(18,.bool (x.kind==9||x.kind==10))]∧m'=m1) ?_ ?_
 ·by_cases c:x.kind=9
  ·simp[c]
  ·simp[c,beqF c]
 rintro a m1 ⟨ha,rfl⟩
 simp[ha,-Bool.or_eq_true]
 refine bbind_JB (fun a m'=>a.forget [1,3,4]=mat 126 [(1,.ptr b 0),(3,.int .i64 (least x)),(4,.int .i64 (most x))]∧m1<+:m') ?_ ?_
 ·by_cases c:x.kind=9∨x.kind=10
  ·have c':(x.kind==9||x.kind==10)=true:=by simpa using c
   have:least x=1∧most x=1:=by unfold least most;omega
   simp[c',this]
  ·have c':(x.kind==9||x.kind==10)=false:=by simpa using c
   simp[c']
   by_cases c2:x.kind=11∨x.kind=13
   ·have:least x=1∧most x=x.elems.length:=by unfold least most;omega
    refine bbind_J (fun a m'=>a.forget [1,3,4,17,21]=mat 126 [(1,.ptr b 0),(3,.int .i64 0),(4,.int .i64 0),(17,.int .i64 x.kind),(21,.bool true)]∧m'=m1) ?_ ?_
    ·by_cases c:x.kind=11
     ·simp[c]
     simp[c,beqF c]
     simp[c2.resolve_left c]
    rintro a m1 ⟨ha,rfl⟩
    simp[ha]
    refine W_drawPR (by simp[maxDst]) rfl rfl ?_
    simp[ha,loadE,hb,hel,this]
   ·have c3: ¬x.kind=11:=by omega
    have c4: ¬x.kind=13:=by omega
    simp[beqF c3,beqF c4]
    by_cases c5:x.kind=12
    ·have:least x=2∧most x=x.elems.length:=by unfold least most;omega
     simp[c5]
     refine W_drawPR (by simp[maxDst]) rfl rfl ?_
     simp[ha,loadE,hb,hel,this]
    ·have:least x=0∧most x=0:=by unfold least most;omega
     simp[beqF c5,this]
 rintro a m2 ⟨ha,hm2⟩
 simp[ha]
 replace hb:=readB_mono hm2 hb
 replace hm:=hm.trans hm2
 have hbad:(¬(least x≤x.elems.length)∨ ¬((x.elems.length:Int)≤most x)∨ ¬((x.names.length:Int)=nNames x)∨ ¬dimsOk x∨ ¬sizeOk x∨ ¬(x.flex=true→x.kind=10))→S=14:=fun h=>by
  rw[hS,if_neg]
  rintro ⟨k1,k2,k3,k4,k5,k6⟩
  rcases h with h|h|h|h|h|h
  ·exact h k1
  ·exact h k2
  ·exact h k3
  ·exact h k4
  ·exact h k5
  ·exact h k6
 refine W_J (fun a m'=>a.forget [1,3,4,5,6,7]=mat 126 [(1,.ptr b 0),(3,.int .i64 (least x)),(4,.int .i64 (most x)),(5,.int .i64 0),(6,.bool (x.kind==10)),(7,.bool (x.kind==3||(x.kind==4||x.kind==5)))]∧m2<+:m') ?_ ?_
 ·refine W_drawPR (by simp[maxDst]) rfl rfl ?_
  by_cases c3:x.kind=3
  ·simp[loadE,hb,c3]
  by_cases c4:x.kind=4
  ·simp[loadE,hb,c4]
  ·simp[loadE,hb,beqF c3,beqF c4]
 rintro a m3 ⟨ha,hm3⟩
 replace hb:=readB_mono hm3 hb
 replace hm:=hm.trans hm3
 simp[ha,loadE,hb]
 refine bbind_J (fun a m'=>a.forget [1,3,4,5,6,7]=mat 126 [(1,.ptr b 0),(3,.int .i64 (least x)),(4,.int .i64 (most x)),(5,.int .i64 (nNames x)),(6,.bool (x.kind==10)),(7,.bool (x.kind==3||(x.kind==4||x.kind==5)))]∧m'=m3) ?_ ?_
 ·by_cases c:x.kind=11
  ·simp[c,loadE,hb,hel,nNames]
  ·simp[c,beqF c,nNames]
 rintro a m3 ⟨ha,rfl⟩
 generalize hd:(x.kind==10)=d at*
 generalize hz:(x.kind==3||(x.kind==4||x.kind==5))=z at*
 by_cases b1:(x.elems.length:Int)<least x
 ·simp[ha,loadE,hb,hel,b1,hm]
  exact (hbad (.inl (by omega))).symm
 by_cases b2:most x<(x.elems.length:Int)
 ·simp[ha,loadE,hb,hel,b1,b2,hm]
  exact (hbad (.inr (.inl (by omega)))).symm
 by_cases b3:(x.names.length:Int)=nNames x
 rotate_left
 ·simp[ha,loadE,hb,hel,hnl,b1,b2,bneT b3,hm]
  exact (hbad (.inr (.inr (.inl b3)))).symm
 have bad3: ¬dimsOk x→S=14:=fun h=>hbad (.inr (.inr (.inr (.inl h))))
 have bad4: ¬sizeOk x→S=14:=fun h=>hbad (.inr (.inr (.inr (.inr (.inl h)))))
 have bad5: ¬(x.flex=true→x.kind=10)→S=14:=fun h=>hbad (.inr (.inr (.inr (.inr (.inr h)))))
 have fin:dimsOk x→sizeOk x→(x.flex=true→x.kind=10)→S=if 64<x.elems.length then 3 else 0:=fun h1 h2 h3=>by
  rw[hS,if_pos ⟨by omega,by omega,b3,h1,h2,h3⟩]
 have last: ∀{a:AFrame},dimsOk x→sizeOk x→(x.flex=true→x.kind=10)→(if (64:Int)<x.elems.length then (3:Int) else 0)=S:=fun {_} h1 h2 h3=>by
  rw[fin h1 h2 h3]
  by_cases c:64<x.elems.length
  ·rw[if_pos c,if_pos (by omega)]
  ·rw[if_neg c,if_neg (by omega)]
 clear hbad
 cases d
 ·by_cases c:x.dims=0
  rotate_left
  ·simp[ha,loadE,hb,hel,hnl,b1,b2,b3,bneT c,hm]
   refine (bad3 ?_).symm
   unfold dimsOk
   rw[if_neg (by simpa using hd)]
   exact c
  have h3:dimsOk x:=by
   unfold dimsOk
   rw[if_neg (by simpa using hd)]
   exact c
  clear bad3
  cases z
  ·by_cases c':x.size=0
   rotate_left
   ·simp[ha,loadE,hb,hel,hnl,b1,b2,b3,c,bneT c',hm]
    refine (bad4 ?_).symm
    unfold sizeOk
    rw[if_neg (by simpa using hz)]
    exact c'
   have h4:sizeOk x:=by
    unfold sizeOk
    rw[if_neg (by simpa using hz)]
    exact c'
   cases hf:x.flex
   ·by_cases c6:(64:Int)<x.elems.length
    ·simp[ha,loadE,hb,hel,hnl,b1,b2,b3,c,c',hf,hm,c6]
     rw[←last (a:=a) h3 h4 (by simp[hf]),if_pos c6]
    ·simp[ha,loadE,hb,hel,hnl,b1,b2,b3,c,c',hf,hm,c6]
     rw[←last (a:=a) h3 h4 (by simp[hf]),if_neg c6]
   ·simp[ha,loadE,hb,hel,hnl,b1,b2,b3,c,c',hf,hm]
    exact (bad5 fun h=>by rw[h hf] at hd;cases hd).symm
  ·by_cases c':x.size< -1
   ·simp[ha,loadE,hb,hel,hnl,b1,b2,b3,c,c',hm]
    refine (bad4 ?_).symm
    unfold sizeOk
    rw[if_pos (by simpa using hz)]
    omega
   by_cases c'':1<x.size
   ·simp[ha,loadE,hb,hel,hnl,b1,b2,b3,c,c',c'',hm]
    refine (bad4 ?_).symm
    unfold sizeOk
    rw[if_pos (by simpa using hz)]
    omega
   have h4:sizeOk x:=by
    unfold sizeOk
    rw[if_pos (by simpa using hz)]
    omega
   cases hf:x.flex
   ·by_cases c6:(64:Int)<x.elems.length
    ·simp[ha,loadE,hb,hel,hnl,b1,b2,b3,c,c',c'',hf,hm,c6]
     rw[←last (a:=a) h3 h4 (by simp[hf]),if_pos c6]
    ·simp[ha,loadE,hb,hel,hnl,b1,b2,b3,c,c',c'',hf,hm,c6]
     rw[←last (a:=a) h3 h4 (by simp[hf]),if_neg c6]
   ·simp[ha,loadE,hb,hel,hnl,b1,b2,b3,c,c',c'',hf,hm]
    exact (bad5 fun h=>by rw[h hf] at hd;cases hd).symm
 ·have hk10:x.kind=10:=by simpa using hd
  by_cases c:x.dims<1
  ·simp[ha,loadE,hb,hel,hnl,b1,b2,b3,c,hm]
   refine (bad3 ?_).symm
   unfold dimsOk
   rw[if_pos hk10]
   omega
  by_cases cc:3<x.dims
  ·simp[ha,loadE,hb,hel,hnl,b1,b2,b3,c,cc,hm]
   refine (bad3 ?_).symm
   unfold dimsOk
   rw[if_pos hk10]
   omega
  have h3:dimsOk x:=by
   unfold dimsOk
   rw[if_pos hk10]
   omega
  clear bad3
  obtain rfl:z=false:=by rw[←hz,hk10];rfl
  by_cases c':x.size=0
  rotate_left
  ·simp[ha,loadE,hb,hel,hnl,b1,b2,b3,c,cc,bneT c',hm]
   refine (bad4 ?_).symm
   unfold sizeOk
   rw[if_neg (by omega)]
   exact c'
  have h4:sizeOk x:=by
   unfold sizeOk
   rw[if_neg (by omega)]
   exact c'
  have h5:(x.flex=true→x.kind=10):=fun _=>hk10
  cases hf:x.flex<;>by_cases c6:(64:Int)<x.elems.length
  ·simp[ha,loadE,hb,hel,hnl,b1,b2,b3,c,cc,c',hf,hm,c6]
   rw[←last (a:=a) h3 h4 h5,if_pos c6]
  ·simp[ha,loadE,hb,hel,hnl,b1,b2,b3,c,cc,c',hf,hm,c6]
   rw[←last (a:=a) h3 h4 h5,if_neg c6]
  ·simp[ha,loadE,hb,hel,hnl,b1,b2,b3,c,cc,c',hf,hm,c6]
   rw[←last (a:=a) h3 h4 h5,if_pos c6]
  ·simp[ha,loadE,hb,hel,hnl,b1,b2,b3,c,cc,c',hf,hm,c6]
   rw[←last (a:=a) h3 h4 h5,if_neg c6]
end Go.Proofs.YtlniliigcnedmaaGreatDoor
namespace Go.Proofs.YtlniliigcnedmaaGreatDoor
open Go Ax
set_option maxRecDepth 100000
theorem w28 {args m R} (h:W Tryz.prog (.seq (.reg [⟨some 2,.P (.mov (.c .nilslice)),none⟩,⟨some 3,.P (.mov (.c .nilslice)),none⟩,qi 4 0]) (.kill [0] (.seq (.seq (.reg [qv 17 0,qc 18 52 [(.t 17)],qv 5 18]) (.kill [0,5] (.seq (.reg [qv 19 5,qk 20 .neq 19 0]) (.kill [0,5,20] (.cond (.t 20) (.seq (.reg [qv 21 5,⟨some 2,.P (.mov (.c .nilslice)),none⟩,⟨some 3,.P (.mov (.c .nilslice)),none⟩,qv 4 21]) .ret) .skip))))) (.kill [0] (.seq (.reg [qv 22 0,qc 23 44 [(.t 22)],qv 6 23]) (.kill [0,6] (.seq (.reg [qi 7 0]) (.seq (.seq (.reg [qv 24 6,qn 25 24,qi 26 0]) (.block 0 (.kill [0,6,7,24,25,26] (.loop (.fin [0,6,7,24,25,26] (.seq (.reg [qo 27 .lss 26 25]) (.seq (.cond (.t 27) .skip (.exit 0)) (.kill [0,6,7,24,25,26] (.seq (.block 1 (.seq (.reg [qa 28 1 24 26,ql 29 28,qv 9 29]) (.kill [0,6,7,9,24,25,26] (.reg [qv 30 7,qv 31 9,qk 32 .add 31 1,⟨some 33,.P (.max (.t 30) (.t 32)),none⟩,qv 7 33])))) (.kill [0,6,7,24,25,26] (.reg [qk 34 .add 26 1,qv 26 34]))))))))))) (.kill [0,6,7] (.seq (.reg [qv 35 7,⟨some 36,.A (.mkslice 39 80 [(.int .i64 0),(.int .i64 0),.nilslice,.nilslice,(.int .i64 0),(.bool false)] (.t 35) (.t 35)),none⟩,qv 10 36]) (.kill [0,6,10] (.seq (.seq (.reg [qv 37 10,qn 38 37,qi 39 0]) (.kill [0,6,10,38,39] (.block 2 (.kill [0,6,10,38,39] (.loop (.fin [0,6,10,38,39] (.seq (.reg [qo 40 .lss 39 38]) (.seq (.cond (.t 40) .skip (.exit 2)) (.kill [0,6,10,38,39] (.seq (.block 3 (.seq (.reg [qv 41 39,qv 11 41]) (.kill [0,6,10,11,38,39] (.seq (.reg [qv 42 6,qv 43 11,qc 44 57 [(.t 42),(.t 43)],qv 12 44]) (.kill [0,6,10,11,12,38,39] (.seq (.reg [qv 45 0,qv 46 12,qa 47 6 45 46,⟨some 48,.R (.load 6 true (.t 47)),none⟩,⟨some 13,.A (.alloc 39 [(.int .i64 0),(.int .i64 0),.nilslice,.nilslice,(.int .i64 0),(.bool false)]),none⟩,⟨none,.W (.store 6 (.t 13) (.t 48)),none⟩]) (.kill [0,6,10,11,12,13,38,39] (.seq (.reg [⟨some 49,.P (.faddr 3 (.t 13)),none⟩,ql 50 49,qc 51 58 [(.t 50)],⟨some 52,.P (.faddr 3 (.t 13)),none⟩,⟨none,.W (.store 1 (.t 52) (.t 51)),none⟩]) (.kill [0,6,10,11,12,13,38,39] (.seq (.reg [⟨some 53,.P (.faddr 2 (.t 13)),none⟩,ql 54 53,qv 14 54]) (.kill [0,6,10,11,12,13,14,38,39] (.seq (.seq (.reg [⟨some 55,.P (.faddr 0 (.t 13)),none⟩,ql 56 55,qk 57 .eql 56 12]) (.kill [0,6,10,11,12,13,14,38,39,57] (.cond (.t 57) (.seq (.reg [qv 58 0,qv 59 12,qv 60 6,qc 61 54 [(.t 58),(.t 59),(.t 60)],qv 14 61]) (.kill [0,6,10,11,13,14,38,39] (.seq (.reg [qv 62 14,qn 63 62,qk 64 .lss 63 2]) (.kill [0,6,10,11,13,14,38,39,64] (.cond (.t 64) (.seq (.reg [⟨some 2,.P (.mov (.c .nilslice)),none⟩,⟨some 3,.P (.mov (.c .nilslice)),none⟩,qi 4 14]) .ret) .skip))))) .skip))) (.kill [0,6,10,11,13,14,38,39] (.seq (.reg [⟨some 65,.P (.faddr 2 (.t 13)),none⟩,⟨none,.W (.store 1 (.t 65) (.c .nilslice)),none⟩]) (.kill [0,6,10,11,13,14,38,39] (.seq (.seq (.reg [qv 66 14,qn 67 66,qi 68 0]) (.kill [0,6,10,11,13,38,39,66,67,68] (.block 4 (.kill [0,6,10,11,13,38,39,66,67,68] (.loop (.fin [0,6,10,11,13,38,39,66,67,68] (.seq (.reg [qo 69 .lss 68 67]) (.seq (.cond (.t 69) .skip (.exit 4)) (.kill [0,6,10,11,13,38,39,66,67,68] (.seq (.block 5 (.seq (.reg [qa 70 1 66 68,ql 71 70,qv 16 71]) (.kill [0,6,10,11,13,16,38,39,66,67,68] (.draw true [⟨some 72,.P (.faddr 2 (.t 13)),none⟩,ql 73 72,qv 74 6,qv 75 16,qa 76 1 74 75,ql 77 76,⟨some 78,.A (.bslice 3 1 [(.int .i64 0)] [(0,(1,(.t 77)))]),none⟩,⟨some 79,.W (.append 1 8 3 false (.t 73) (.t 78)),none⟩,⟨some 80,.P (.faddr 2 (.t 13)),none⟩,⟨none,.W (.store 1 (.t 80) (.t 79)),none⟩] [[],[],[],[],[],[],[],[6],[6],[6]] [[],[],[],[],[],[],[],[],[],[]] [0,1,2,3,4,5,6,7,8,9])))) (.kill [0,6,10,11,13,38,39,66,67,68] (.reg [qk 81 .add 68 1,qv 68 81])))))))))))) (.kill [0,6,10,11,13,38,39] (.reg [qv 82 10,qv 83 11,⟨some 84,.R (.load 6 true (.t 13)),none⟩,qa 85 6 82 83,⟨none,.W (.store 6 (.t 85) (.t 84)),none⟩])))))))))))))))))) (.kill [0,6,10,38,39] (.reg [qk 86 .add 39 1,qv 39 86])))))))))))) (.kill [6,10] (.seq (.reg [qv 87 10,qv 88 6,qv 2 87,qv 3 88,qi 4 0]) .ret)))))))))))))) (E [(.tmp 2),(.tmp 3),(.tmp 4)] R .mk) .mk (mat 89 (sArgs 0 args)) m) (hl:Nat.ble args.length 89=true:=by rfl):ACalls Tryz.prog 28 args m R:=walk mix (by kernel_rfl) (Nat.le_of_ble_eq_true hl) h
abbrev h28_0 (t0 t6 t7 t24 t25 t26:AVal):AFrame:=mat 89 [(0,t0),(6,t6),(7,t7),(24,t24),(25,t25),(26,t26)]
abbrev h28_1 (t0 t6 t10 t38 t39:AVal):AFrame:=mat 89 [(0,t0),(6,t6),(10,t10),(38,t38),(39,t39)]
abbrev h28_2 (t0 t6 t10 t11 t13 t38 t39 t66 t67 t68:AVal):AFrame:=mat 89 [(0,t0),(6,t6),(10,t10),(11,t11),(13,t13),(38,t38),(39,t39),(66,t66),(67,t67),(68,t68)]
end Go.Proofs.YtlniliigcnedmaaGreatDoor
namespace Go.Proofs.YtlniliigcnedmaaGreatDoor
open Go Ax
set_option maxRecDepth 100000
def twiceB (l:List ByteArray):Bool:=(List.range l.length).any fun i=>(List.range i).any fun j=>sEq (l.getD i .empty) (l.getD j .empty)
theorem twiceB_true {l:List ByteArray} {i j:Nat} (hi:i<l.length) (hj:j<i) (h:sEq l[i] l[j]=true):twiceB l=true:=by
 unfold twiceB
 rw[List.any_eq_true]
 refine ⟨i,by simpa using hi,?_⟩
 rw[List.any_eq_true]
 refine ⟨j,by simpa using hj,?_⟩
 have hj':j<l.length:=by omega
 simpa[List.getD,hi,hj'] using h
theorem twiceB_false {l:List ByteArray} (h: ∀i (hi:i<l.length),∀j (hj:j<i),sEq l[i] l[j]=false):twiceB l=false:=by
 rw[←Bool.not_eq_true]
 intro hc
 unfold twiceB at hc
 rw[List.any_eq_true] at hc
 obtain ⟨i,h1,h2⟩:=hc
 rw[List.any_eq_true] at h2
 obtain ⟨j,h3,h4⟩:=h2
 simp only[List.mem_range] at h1 h3
 have h3':j<l.length:=by omega
 simp[List.getD,h1,h3',h i h1 j h3] at h4
def outB (n:Nat) (i:Int):Bool:= !(decide (0≤i)&&decide (i<n))
def oneI (x:Md) (n:Nat):Int:=
 if shapeI x≠0 then shapeI x
 else if x.elems.any (outB n) then 11
 else if x.names.any (fun s=> !wordB 97 122 s) then 8
 else if twiceB x.names then 5 else 0
def smallN (x:Md):Prop:=x.elems.length<2^62∧x.names.length<2^62∧ ∀s∈x.names,s.size<2^62
theorem any_true {α:Type} {l:List α} {p:α→Bool} {i:Nat} (hi:i<l.length) (h:p l[i]=true):l.any p=true:=List.any_eq_true.2 ⟨_,List.getElem_mem hi,h⟩
theorem any_false {α:Type} {l:List α} {p:α→Bool} (h: ∀i (hi:i<l.length),p l[i]=false):l.any p=false:=by
 rw[List.any_eq_false]
 intro x hx
 obtain ⟨i,hi,rfl⟩:=List.mem_iff_getElem.1 hx
 rw[h i hi]
 simp
end Go.Proofs.YtlniliigcnedmaaGreatDoor
namespace Go.Proofs.YtlniliigcnedmaaGreatDoor
open Go Ax
open Relation
set_option maxRecDepth 100000
set_option maxHeartbeats 4000000 in
theorem k133 (s:AVal) (l:List Md) (i:Nat) (hi:i<l.length) (m:AMem) (hs:RTab m s l) (hg:goodT l) (hn:l.length≤512) (hsz: ∀x∈l,smallN x) (g:FuncId) (fs cs:List AVal) (p:Md→Bool)
  (hf: ∀c x m',m<+:m'→x∈l→RMode m' c x→ACalls Tryz.prog g (fs++ [.agg c]++cs) m' fun v m''=>v= .bool (p x)∧m'<+:m''):
  ACalls Tryz.prog 133 [s,.int .i64 i,.func (.func g) fs cs] m fun v m'=>m<+:m'∧ ∃S,OwL AVal.bool m.length m' 4 v S∧S.length=l.length∧ ∀j,S[j]? =some true↔TransGen (stepR l p) i j:=by
 refine w133 ?_
 have hc1:(l.length:Int)≤281474976710656:=by omega
 have hc2:(l.length:Int)≤9223372036854775807:=by omega
 simp[hs.len,hc1,hc2]
 have hS0:=OwL.rep (f:=AVal.bool) m 4 l.length false
 have hm1:m<+:m++ [.own (List.replicate l.length (.bool false)) 4 none]:=List.prefix_append _ _
 have ha:(AVal.slice m.length 0 l.length l.length none).blk=some m.length:=rfl
 revert hS0 hm1 ha
 generalize AVal.slice m.length 0 l.length l.length none=t7
 generalize hm1':m++ [.own (List.replicate l.length (.bool false)) 4 none]=m1
 intro hS0 hm1 ha
 have hl1:m1.length=m.length+1:=by rw[←hm1'];simp
 have hQ0:=OwL.new (f:=natI) m1 3 [i]
 simp[setN,fillA] at hQ0 ⊢
 obtain ⟨I,hI⟩: ∃I:Nat→AFrame→AMem→Prop,∀n a m',I n a m'↔(∃S Q t7 t8,cntF S+Q.length=n∧a=h133_0 s (.func (.func g) fs cs) t7 t8∧m<+:m'∧OwL AVal.bool m.length m' 4 t7 S∧OwL natI m.length m' 3 t8 Q∧(∀b,t7.blk=some b→t8.blk≠some b)∧RInv l p i S Q∧n≤l.length+1):=⟨_,fun _ _ _=>Iff.rfl⟩
 refine W_loop I (l.length+1) ((hI _ _ _).2 ⟨List.replicate l.length false,[i],t7,_,?_,rfl,hm1.trans (List.prefix_append _ _),hS0.mono (List.prefix_append _ _),OwL.lo' hQ0 (by omega),?_,RInv.init hi,by omega⟩) ?_
 ·simp[cntF]
 ·intro b hb
  rw[ha] at hb
  cases hb
  simp[AVal.blk,hl1]
 rintro n a m2 hIn
 obtain ⟨S,Q,t7,t8,hcnt,rfl,hm2,hS,hQ,hap,hinv,hnn⟩:=(hI _ _ _).1 hIn
 clear hIn
 simp[hQ.len]
 refine bbind_dec (fun h=>?_) fun h=>?_
 ·have hq0:Q≠ []:=by rintro rfl;simp at h
  have hql:Q.length-1<Q.length:=by have:=List.length_pos_iff.2 hq0;omega
  have hx:=hinv.q Q[Q.length-1] (List.getElem_mem hql)
  obtain ⟨b8,o8,_,h2,h3,_⟩:=hQ.at hql
  have hp:=pred64 (n:=Q.length) (by omega) (by omega)
  obtain ⟨bx',ox,c,h4,h5,_,_,h6⟩:=hs.atC hx.1
  replace h5:=loadE_mono hm2 h5
  obtain ⟨t8',h7,h8,h9⟩:=hQ.take (i:=Q.length-1) (by omega)
  simp[hp,h2,h3,h4,h5,h7,hQ.len]
  have hcl:=h6.all
  rw[store_new _ _ c _ _ 6 hcl.1 rfl hcl.2]
  have hb:=readB_new m2 c 39 none
  have hm3:m2<+:m2++ [.own c 39 none]:=List.prefix_append _ _
  revert hb hm3
  generalize m2++ [.own c 39 none]=m3
  generalize m2.length=b9
  intro hb hm3
  obtain ⟨e,nm,c0,c1,c2,c3,c4,c5,he,hnm,rfl⟩:=h6.get
  generalize hq:Q[Q.length-1]=x at*
  have hQ': ∀z,z∈Q↔z∈Q.take (Q.length-1)∨z=x:=by
   intro z
   have:Q=Q.take (Q.length-1)++ [x]:=by
    rw[←hq]
    refine List.ext_getElem? fun j=>?_
    by_cases hj:j<Q.length-1
    ·rw[List.getElem?_append_left (by simp;omega),List.getElem?_take,if_pos hj]
    ·by_cases hj2:j=Q.length-1
     ·subst hj2
      rw[List.getElem?_append_right (by simp),List.getElem?_eq_getElem hql]
      simp
     ·rw[List.getElem?_eq_none (by omega),List.getElem?_eq_none (by simp;omega)]
   conv=>lhs;rw[this]
   simp
  have hlx:l[x]? =some l[x]:=List.getElem?_eq_getElem hx.1
  have hxm:l[x]∈l:=List.getElem_mem hx.1
  simp[hp,h7,hQ.len,bxW hb]
  have hcall:=hf _ _ m3 (hm2.trans hm3) hxm (h6.mono (hm2.trans hm3))
  simp at hcall
  refine C_of hcall ?_
  rintro _ m4 ⟨rfl,hm4⟩
  simp
  replace hb:=readB_mono hm4 hb
  have hm24:m2<+:m4:=hm3.trans hm4
  have hS4:=hS.mono hm24
  have hQ4:=OwL.mono h8 hm24
  have hmu:cntF S+(Q.take (Q.length-1)).length+1=n:=by rw[List.length_take];omega
  refine bbind_intro (fun hpx=>?_) fun hpx=>?_
  ·simp
   exact ⟨cntF S+(Q.take (Q.length-1)).length,by omega,(hI _ _ _).2 ⟨S,Q.take (Q.length-1),t7,t8',rfl,rfl,hm2.trans hm24,hS4,hQ4,by rw[h9];exact hap,hinv.skip hQ' hlx (by simpa using hpx),by omega⟩⟩
  simp[bx hb,he.len]
  have hin:=hinv.enter hQ' hlx (by simpa using hpx)
  have hap': ∀b,t7.blk=some b→t8'.blk≠some b:=by rw[h9];exact hap
  have hms:=hm2.trans hm24
  generalize hQQ:Q.take (Q.length-1)=Q1 at*
  obtain ⟨I2,hI2⟩: ∃I:Nat→AFrame→AMem→Prop,∀q a m',I q a m'↔(∃k S Q t7 t8,k+q=l[x].elems.length∧a=h133_1 s (.func (.func g) fs cs) t7 t8 e (.int .i64 l[x].elems.length) (.int .i64 (k:Nat))∧m<+:m'∧OwL AVal.bool m.length m' 4 t7 S∧OwL natI m.length m' 3 t8 Q∧(∀b,t7.blk=some b→t8.blk≠some b)∧RIn l p i S Q x k∧cntF S+Q.length+1=n):=⟨_,fun _ _ _=>Iff.rfl⟩
  refine W_loop I2 l[x].elems.length ((hI2 _ _ _).2 ⟨0,S,Q1,t7,t8',by simp,rfl,hms,hS4,hQ4,hap',hin,hmu⟩) ?_
  clear hin hmu hQ4 hS4 hms hap' hQQ hQ' hinv hQ hS h8 h9 h7 hap hb
  rintro q a m5 hIn
  obtain ⟨k,S,Q,t7,t8,hk,rfl,hm5,hS,hQ,hap,hin,hmu⟩:=(hI2 _ _ _).1 hIn
  clear hIn
  simp
  refine bbind_dec (fun h=>?_) fun h=>?_
  ·obtain ⟨b1,o1,hp1,hl1⟩:=(he.mono hm5).at h
   have hgx:=hg _ hxm _ (List.getElem_mem h)
   have hee:l[x].elems[k]? =some l[x].elems[k]:=List.getElem?_eq_getElem h
   have hw:=step64 h (hsz _ hxm).1
   obtain ⟨q,rfl⟩: ∃q',q=q'+1:=⟨q-1,by omega⟩
   revert hl1 hgx hee
   generalize l[x].elems[k]=ek
   intro hl1 hgx hee
   obtain ⟨j,rfl⟩: ∃j:Nat,ek=j:=⟨ek.toNat,by omega⟩
   have hj:j<S.length:=by rw[hin.len];omega
   obtain ⟨b7,o7,hb7,hp7,hl7,hst7⟩:=hS.at hj
   simp[hp1,hl1,hp7,hl7]
   refine bbind_intro (fun hsj=>?_) fun hsj=>?_
   ·have hsj:S[j]? =some false:=by rw[List.getElem?_eq_getElem hj];simpa using hsj
    obtain ⟨m6,hst,hch6,hS6⟩:=hst7 true
    have hb7':=hS.blk_lo hb7
    have hm6:m<+:m6:=hch6.pre hm5 (fun b hb=>by omega)
    have hQ6:=hQ.ch hch6 (fun b hb hbb=>hap b7 hb7 (by rw[←hbb];exact hb))
    have hcf:=cntF_set hsj
    simp[hp7,hst,fillA,setN]
    have hm7:m6<+:m6++ [.own [.int .i64 (j:Int)] 3 none]:=List.prefix_append _ _
    obtain ⟨t8'',m8,happ,hch8,hQ8,hbl⟩:=(hQ6.mono hm7).push (by simp;have:=hm6.length_le;omega) (by_:=8) (by decide) j (by omega)
    simp only[natI] at happ
    simp[happ,hw]
    have hlo8: ∀b,t8.blk=some b→ ¬b<m.length:=fun b hb hlt=>by have:=(hQ.blk_lo hb).1;omega
    refine ⟨q,by omega,(hI2 _ _ _).2 ⟨k+1,S.set j true,Q++ [j],t7,t8'',by omega,by simp,?_,?_,hQ8,?_,?_,?_⟩⟩
    ·exact hch8.pre (hm6.trans hm7) (fun b hb hbb=>hlo8 b hbb hb)
    ·exact (hS6.mono hm7).ch hch8 (fun b hb hbb=>hap b hb hbb)
    ·intro b hb hbb
     rcases hbl b hbb with h1|h1
     ·exact hap b hb h1
     ·have:=(hS6.blk_lo hb).2
      simp at h1
      omega
    ·have:=hin.unseen hg hlx hee
     simpa using this
    ·simp;omega
   ·simp[hw]
    refine ⟨q,by omega,(hI2 _ _ _).2 ⟨k+1,S,Q,t7,t8,by omega,by simp,hm5,hS,hQ,hap,?_,hmu⟩⟩
    refine hin.seen hlx hee ?_
    rw[Int.toNat_natCast,List.getElem?_eq_getElem hj]
    simpa using hsj
  ·simp
   refine ⟨n-1,by omega,(hI _ _ _).2 ⟨S,Q,t7,t8,by omega,by simp,hm5,hS,hQ,hap,hin.leave fun y hy=>?_,by omega⟩⟩
   rw[hlx] at hy;cases hy
   omega
 ·obtain rfl:Q= []:=by
   cases Q with
   |nil=>rfl
   |cons _ _=>simp at h
  simp
  exact ⟨hm2,S,hS,hinv.len,hinv.done⟩
end Go.Proofs.YtlniliigcnedmaaGreatDoor
namespace Go.Proofs.YtlniliigcnedmaaGreatDoor
open Go Ax
open Relation
set_option maxRecDepth 100000
theorem k130 (s:AVal) (l:List Bool) (b:Bool) (m:AMem) (hs:RBools m s l) (hn:l.length<2^62):ACalls Tryz.prog 130 [s,.bool b] m fun r m'=>r= .int .i64 (fidx (fun i=>(l[i]?).any (fun x=>b==x)) 0 l.length)∧m'=m:=by
 refine w130 ?_
 simp[hs.len]
 refine W_loop (fun n a m'=> ∃k:Nat,k+n=l.length∧a=h130_0 s (.bool b) (.int .i64 l.length) (.int .i64 k)∧m'=m∧fidx (fun i=>(l[i]?).any (fun x=>b==x)) k n=fidx (fun i=>(l[i]?).any (fun x=>b==x)) 0 l.length) l.length ⟨0,by simp⟩ ?_
 rintro n a m1 ⟨k,hk,rfl,rfl,hi⟩
 simp
 refine bbind_dec (fun h=>?_) fun h=>?_
 ·have h:k<l.length:=by omega
  obtain ⟨b',o,h1,h2⟩:=hs.at h
  obtain ⟨n,rfl⟩: ∃n',n=n'+1:=⟨n-1,by omega⟩
  simp only[fidx,List.getElem?_eq_getElem h,Option.any_some] at hi
  simp[h1,h2]
  refine bbind_intro (fun he=>?_) fun he=>?_
  ·simp[he] at hi
   simp[hi]
  ·simp[he] at hi
   simp[step64 h hn]
   exact ⟨n,by omega,k+1,by omega,by simp,hi⟩
 ·simp
  obtain rfl:n=0:=by omega
  simp only[fidx] at hi
  simp[hi]
theorem k99 (s:AVal) (l:List Bool) (b:Bool) (m:AMem) (hs:RBools m s l) (hn:l.length<2^62):ACalls Tryz.prog 99 [s,.bool b] m fun r m'=>r= .bool (l.any (fun x=>b==x))∧m'=m:=by
 refine w99 ?_
 simp
 refine C_of (k130 s l b m hs hn) ?_
 rintro _ _ ⟨rfl,rfl⟩
 simp[fidx_any]
theorem Ax.Sl.self {m:AMem} {esz:Nat} {s:AVal} {n:Nat} {cs:List AVal} (h:Sl m esz s n cs):s.one=true∧s.cells= [s]:=by
 rcases h with ⟨rfl,_⟩|⟨_,_,_,_,rfl,_⟩<;>exact ⟨rfl,rfl⟩
theorem Ax.RTab.self {m:AMem} {s:AVal} {l:List Md} (h:RTab m s l):s.one=true∧s.cells= [s]:=by
 obtain ⟨_,h,_⟩:=h
 exact h.self
def voidE (l:List Md) (e:Int):Bool:=(l[e.toNat]?).any (fun x=>x.kind==0)
def voidsB (l:List Md) (x:Md):Bool:=if x.kind=12 then false else if x.kind=13 then x.elems.dropLast.any (voidE l) else x.elems.any (voidE l)
theorem voidE_call (s:AVal) (l:List Md) (x:Md) (m1 m:AMem) (b:Nat) (hs:RTab m s l) (hm:m<+:m1) (hg: ∀e∈x.elems,0≤e∧e<l.length) (hb:readB m1 b=some [s]):
  ∀e∈x.elems,∀m',m1<+:m'→ACalls Tryz.prog 129 ([]++ [.int .i64 e]++ [.ptr b 0]) m' fun v m''=>v= .bool (voidE l e)∧m'<+:m'':=by
 intro e he m' hm'
 obtain ⟨j,rfl⟩: ∃j:Nat,e=j:=⟨e.toNat,by have:=hg e he;omega⟩
 have hj:j<l.length:=by have:=hg _ he;omega
 refine (k129 s l j b m' (by rw[bx (readB_mono hm' hb)];rfl) (hs.mono (hm.trans hm')) hj).mono ?_
 rintro _ _ ⟨rfl,rfl⟩
 simp[voidE,hj]
set_option maxHeartbeats 4000000 in
theorem k98 (s:AVal) (l:List Md) (c:List AVal) (x:Md) (m:AMem) (hs:RTab m s l) (hx:RMode m c x) (hg: ∀e∈x.elems,0≤e∧e<l.length) (h13:x.kind=13→1≤x.elems.length) (hsz:smallN x):ACalls Tryz.prog 98 [s,.agg c] m fun v m'=>v= .bool (voidsB l x)∧m<+:m':=by
 obtain ⟨hsl,hsc⟩:=hs.self
 have hx0:=hx
 obtain ⟨e,nm,rfl,he,hn⟩:=hx
 refine w98 ?_
 have h1:=Sl.one he
 have h2:=Sl.one hn
 simp[hsl,hsc,h1,h2]
 have hb1:=readB_new m [s] 22 none
 have hm1:m<+:m++ [.own [s] 22 none]:=List.prefix_append _ _
 have hlen:(m++ [ABlk.own [s] 22 none]).length=m.length+1:=by simp
 have hb2:=readB_new (m++ [.own [s] 22 none]) [.int .i64 x.kind,.int .i64 x.size,e,nm,.int .i64 x.dims,.bool x.flex] 39 none
 have hm2:m++ [.own [s] 22 none]<+:m++ [.own [s] 22 none]++ [.own [.int .i64 x.kind,.int .i64 x.size,e,nm,.int .i64 x.dims,.bool x.flex] 39 none]:=List.prefix_append _ _
 replace hb1:=readB_mono hm2 hb1
 replace hm1:=hm1.trans hm2
 rw[hlen] at hb2
 simp only[List.append_assoc,List.singleton_append] at hb1 hb2 hm1
 generalize m++ [.own [s] 22 none,.own [.int .i64 x.kind,.int .i64 x.size,e,nm,.int .i64 x.dims,.bool x.flex] 39 none]=m1 at hb1 hb2 hm1 ⊢
 clear hlen hm2
 have hel:=he.len
 by_cases c12:x.kind=12
 ·simp[bx hb2,c12,voidsB,hm1]
 by_cases c13:x.kind=13
 ·have hp:=pred64 (n:=x.elems.length) (by have:=h13 c13;omega) hsz.1
  obtain ⟨e',h3,h4⟩:=he.take (i:=x.elems.length-1) (by omega)
  simp[bx hb2,c13,hel,hp,h3]
  refine C_of (k36 e' _ (voidE l) m1 (h4 m1 (he.mono hm1)) (by rw[List.length_take];have:=hsz.1;omega) _ [] [.ptr m.length 0] fun y hy=>voidE_call s l x m1 m m.length hs hm1 hg hb1 y (List.mem_of_mem_take hy)) ?_
  rintro _ m' ⟨rfl,hm'⟩
  simp[voidsB,c13,List.dropLast_eq_take,hm1.trans hm']
 ·simp[bx hb2,beqF c12,beqF c13]
  refine C_of (k36 e _ (voidE l) m1 (he.mono hm1) hsz.1 _ [] [.ptr m.length 0] fun y hy=>voidE_call s l x m1 m m.length hs hm1 hg hb1 y hy) ?_
  rintro _ m' ⟨rfl,hm'⟩
  simp[voidsB,c12,c13,hm1.trans hm']
theorem twice_take (l:List ByteArray) (k:Nat) (hk:k<l.length):((l.take k).any (sEq l[k]))=true↔ ∃j,∃hj:j<k,sEq l[k] (l[j]'(by omega))=true:=by
 rw[List.any_eq_true]
 constructor
 ·rintro ⟨y,hy,h⟩
  obtain ⟨j,hj,rfl⟩:=List.mem_iff_getElem.1 hy
  rw[List.length_take] at hj
  refine ⟨j,by omega,?_⟩
  simpa using h
 ·rintro ⟨j,hj,h⟩
  exact ⟨l[j],List.mem_iff_getElem.2 ⟨j,by rw[List.length_take];omega,by simp⟩,h⟩
set_option maxHeartbeats 4000000 in
theorem k97 (s:AVal) (l:List Md) (c:List AVal) (x:Md) (m:AMem) (hs:RTab m s l) (hx:RMode m c x) (hsz:smallN x):ACalls Tryz.prog 97 [s,.agg c] m fun v m'=>v= .int .i64 (oneI x l.length)∧m<+:m':=by
 obtain ⟨hsl,hsc⟩:=hs.self
 have hx0:=hx
 obtain ⟨e,nm,rfl,he,hn⟩:=hx
 refine w97 ?_
 have h1:=Sl.one he
 have h2:=Sl.one hn
 simp[hsl,hsc,h1,h2]
 have hb1:=readB_new m [s] 22 none
 have hm1:m<+:m++ [.own [s] 22 none]:=List.prefix_append _ _
 have hlen:(m++ [ABlk.own [s] 22 none]).length=m.length+1:=by simp
 have hb2:=readB_new (m++ [.own [s] 22 none]) [.int .i64 x.kind,.int .i64 x.size,e,nm,.int .i64 x.dims,.bool x.flex] 39 none
 have hm2:m++ [.own [s] 22 none]<+:m++ [.own [s] 22 none]++ [.own [.int .i64 x.kind,.int .i64 x.size,e,nm,.int .i64 x.dims,.bool x.flex] 39 none]:=List.prefix_append _ _
 replace hb1:=readB_mono hm2 hb1
 replace hm1:=hm1.trans hm2
 rw[hlen] at hb2
 simp only[List.append_assoc,List.singleton_append] at hb1 hb2 hm1
 generalize m++ [.own [s] 22 none,.own [.int .i64 x.kind,.int .i64 x.size,e,nm,.int .i64 x.dims,.bool x.flex] 39 none]=m1 at hb1 hb2 hm1 ⊢
 clear hlen hm2
 have hnl:=hn.len
 simp[bxW hb2]
 refine C_of (k122 _ x m1 (hx0.mono hm1)) ?_
 rintro _ m2 ⟨rfl,hm2⟩
 replace hb1:=readB_mono hm2 hb1
 replace hb2:=readB_mono hm2 hb2
 replace hm1:=hm1.trans hm2
 clear hm2
 simp
 refine bbind_intro (fun h=>?_) fun h=>?_
 ·have h:shapeI x≠0:=by simpa using h
  simp[oneI,h,hm1]
 have hsh:shapeI x=0:=by simpa using h
 generalize hO:oneI x l.length=O
 replace hO:O=if x.elems.any (outB l.length) then 11 else if x.names.any (fun s=> !wordB 97 122 s) then 8 else if twiceB x.names then 5 else 0:=by rw[←hO,oneI,hsh];rfl
 simp[bx hb2]
 refine C_of (k36 e _ (outB l.length) m2 (he.mono hm1) hsz.1 _ [] [.ptr m.length 0] fun y hy m' hm'=>?_) ?_
 ·refine (k123 s l y m.length m' (by rw[bx (readB_mono hm' hb1)];rfl) (hs.mono (hm1.trans hm'))).mono ?_
  rintro _ _ ⟨rfl,rfl⟩
  exact ⟨rfl,List.prefix_refl _⟩
 rintro _ m3 ⟨rfl,hm3⟩
 replace hb2:=readB_mono hm3 hb2
 replace hm1:=hm1.trans hm3
 simp
 refine bbind_intro (fun h=>?_) fun h=>?_
 ·simp[hm1]
  rw[hO,if_pos h]
 replace hO:O=if x.names.any (fun s=> !wordB 97 122 s) then 8 else if twiceB x.names then 5 else 0:=by rw[hO,h];rfl
 simp[bx hb2]
 refine C_of (k125 nm _ (fun s=> !wordB 97 122 s) m3 (hn.mono hm1) hsz.2.1 _ [] [] fun y hy m' hm'=>?_) ?_
 ·refine (k126 y m' (hsz.2.2 y hy)).mono ?_
  rintro _ _ ⟨rfl,rfl⟩
  exact ⟨rfl,List.prefix_refl _⟩
 rintro _ m4 ⟨rfl,hm4⟩
 replace hb2:=readB_mono hm4 hb2
 replace hm1:=hm1.trans hm4
 simp
 refine bbind_intro (fun h=>?_) fun h=>?_
 ·simp[hm1]
  rw[hO,if_pos h]
 replace hO:O=if twiceB x.names then 5 else 0:=by rw[hO,h];rfl
 simp[bx hb2,hnl]
 obtain ⟨I,hI⟩: ∃I:Nat→AFrame→AMem→Prop,∀q a m',I q a m'↔(∃k:Nat,k+q=x.names.length∧a=h97_0 (.ptr (m.length+1) 0) nm (.int .i64 x.names.length) (.int .i64 k)∧m4<+:m'∧ ∀i (hi:i<x.names.length),i<k→ ∀j (hj:j<i),sEq x.names[i] x.names[j]=false):=⟨_,fun _ _ _=>Iff.rfl⟩
 refine W_loop I x.names.length ((hI _ _ _).2 ⟨0,by simp,rfl,List.prefix_refl _,by simp⟩) ?_
 rintro q a m5 hIn
 obtain ⟨k,hk,rfl,hm5,hinv⟩:=(hI _ _ _).1 hIn
 simp
 refine bbind_dec (fun h=>?_) fun h=>?_
 ·have hw:=step64 h hsz.2.1
  obtain ⟨q,rfl⟩: ∃q',q=q'+1:=⟨q-1,by omega⟩
  obtain ⟨b1,o1,hp,hl⟩:=(hn.mono (hm1.trans hm5)).at h
  obtain ⟨nm',h3,h4⟩:=hn.take (i:=k) (by omega)
  have hb5:=readB_mono hm5 hb2
  simp[hp,hl,bx hb5,h3]
  refine C_of (k128 nm' _ x.names[k] m5 (h4 m5 (hn.mono (hm1.trans hm5))) (by rw[List.length_take];have:=hsz.2.1;omega)) ?_
  rintro _ _ ⟨rfl,rfl⟩
  simp
  refine bbind_intro (fun h'=>?_) fun h'=>?_
  ·obtain ⟨j,hj,h'⟩:=(twice_take _ k h).1 h'
   simp[hm1.trans hm5]
   rw[hO,twiceB_true h hj h'];rfl
  ·simp[hw]
   refine ⟨q,by omega,(hI _ _ _).2 ⟨k+1,by omega,by simp,hm5,fun i hi hik j hj=>?_⟩⟩
   by_cases hik':i=k
   ·subst hik'
    rw[←Bool.not_eq_true]
    intro hc
    have:=(twice_take _ i h).2 ⟨j,hj,hc⟩
    rw[this] at h'
    cases h'
   ·exact hinv i hi (by omega) j hj
 ·simp[hm1.trans hm5]
  rw[hO,twiceB_false fun i hi j hj=>hinv i hi (by omega) j hj]
  rfl
end Go.Proofs.YtlniliigcnedmaaGreatDoor
namespace Go.Proofs.YtlniliigcnedmaaGreatDoor
open Go Ax
open Relation
set_option maxRecDepth 100000
theorem k134 (c:List AVal) (x:Md) (b:Nat) (g:FuncId) (p:Md→Bool) (m:AMem) (hx:RMode m c x) (hb:readB m b=some [.func (.func g) [] []])
  (hf: ∀m',m<+:m'→RMode m' c x→ACalls Tryz.prog g [.agg c] m' fun v m''=>v= .bool (p x)∧m'<+:m''):
  ACalls Tryz.prog 134 [.agg c,.ptr b 0] m fun v m'=>v= .bool (!p x)∧m<+:m':=by
 have hx0:=hx
 obtain ⟨e,nm,rfl,he,hn⟩:=hx
 refine w134 ?_
 have h1:=Sl.one he
 have h2:=Sl.one hn
 simp[h1,h2]
 have hb1:=readB_new m [.int .i64 x.kind,.int .i64 x.size,e,nm,.int .i64 x.dims,.bool x.flex] 39 none
 have hm:m<+:m++ [.own [.int .i64 x.kind,.int .i64 x.size,e,nm,.int .i64 x.dims,.bool x.flex] 39 none]:=List.prefix_append _ _
 generalize (m++ [.own [.int .i64 x.kind,.int .i64 x.size,e,nm,.int .i64 x.dims,.bool x.flex] 39 none])=m1 at*
 have hb':=readB_mono hm hb
 simp[bx hb',bxW hb1]
 refine C_of (hf m1 hm (hx0.mono hm)) ?_
 rintro _ m2 ⟨rfl,hm2⟩
 simp[hm.trans hm2]
def badY (l:List Md) (i:Nat):Prop:=TransGen (stepR l (fun x=> !yinB x)) i i
def badG (l:List Md) (i:Nat):Prop:=TransGen (stepR l (fun x=> !yangB x)) i i
def badM (l:List Md) (i:Nat):Prop:=badY l i∨badG l i
def shP (k:Nat):Md→Bool:=if k=0 then yinB else yangB
def shF (k:Nat):Nat:=if k=0 then 131 else 132
def badK (l:List Md) (k i:Nat):Prop:=TransGen (stepR l (fun x=> !shP k x)) i i
theorem sh_call (k:Nat) (c:List AVal) (x:Md) (m:AMem) (hx:RMode m c x):ACalls Tryz.prog (shF k) [.agg c] m fun v m'=>v= .bool (shP k x)∧m<+:m':=by
 unfold shF shP
 split
 ·exact k131 c x m hx
 ·exact k132 c x m hx
def okM (l:List Md) (i:Nat):Prop:= ¬badM l i∧ ∀j,TransGen (stepR l (fun _=>true)) i j→ ¬badM l j
set_option maxHeartbeats 4000000 in
theorem k100 (s:AVal) (l:List Md) (m:AMem) (hs:RTab m s l) (hg:goodT l) (hn:l.length≤512) (hsz: ∀x∈l,smallN x):
  ACalls Tryz.prog 100 [s] m fun v m'=>m<+:m'∧ ∃T,OwL AVal.bool m.length m' 4 v T∧T.length=l.length∧ ∀j,T[j]? =some true↔j<l.length∧okM l j:=by
 refine w100 ?_
 have hc1:(l.length:Int)≤281474976710656:=by omega
 have hc2:(l.length:Int)≤9223372036854775807:=by omega
 simp[hs.len,hc1,hc2]
 have hS0:=OwL.rep (f:=AVal.bool) m 4 l.length false
 have hm1:m<+:m++ [.own (List.replicate l.length (.bool false)) 4 none]:=List.prefix_append _ _
 generalize AVal.slice m.length 0 l.length l.length none=t3 at*
 generalize m++ [.own (List.replicate l.length (.bool false)) 4 none]=m1 at*
 obtain ⟨I,hI⟩: ∃I:Nat→AFrame→AMem→Prop,∀q a m',I q a m'↔(∃(k:Nat) (S:List Bool),k+q=l.length∧a=h100_0 s t3 (.int .i64 l.length) (.int .i64 k)∧m<+:m'∧OwL AVal.bool m.length m' 4 t3 S∧S.length=l.length∧ ∀j,S[j]? =some true↔j<k∧badM l j):=⟨_,fun _ _ _=>Iff.rfl⟩
 refine W_loop I l.length ((hI _ _ _).2 ⟨0,_,by simp,rfl,hm1,hS0,by simp,fun j=>by rw[List.getElem?_replicate];split<;>simp⟩) ?_
 rintro q a m2 hIn
 obtain ⟨i,S,hk,rfl,hm2,hS,hSl,hSj⟩:=(hI _ _ _).1 hIn
 clear hIn hS0
 simp
 refine bbind_dec (fun h=>?_) fun h=>?_
 ·have hw:=step64 h (by omega)
  obtain ⟨q,rfl⟩: ∃q',q=q'+1:=⟨q-1,by omega⟩
  simp[fillA,setN]
  have hb19:=readB_new m2 [.func (.func 131) [] [],.func (.func 132) [] []] 53 none
  have hm3:m2<+:m2++ [.own [.func (.func 131) [] [],.func (.func 132) [] []] 53 none]:=List.prefix_append _ _
  generalize m2++ [.own [.func (.func 131) [] [],.func (.func 132) [] []] 53 none]=m3 at*
  have hb19lo:m.length≤m2.length:=hm2.length_le
  have hS3:=hS.mono hm3
  have h19:t3.blk≠some m2.length:=fun hb=>by have:=(hS.blk_lo hb).2;omega
  generalize m2.length=b19 at*
  obtain ⟨I2,hI2⟩: ∃I:Nat→AFrame→AMem→Prop,∀q a m',I q a m'↔(∃(k:Nat) (S:List Bool),k+q=2∧a=h100_1 s t3 (.int .i64 i) (.int .i64 l.length) (.int .i64 i) (.slice b19 0 2 2 none) (.int .i64 (2:Nat)) (.int .i64 k)∧m<+:m'∧readB m' b19=some [.func (.func 131) [] [],.func (.func 132) [] []]∧OwL AVal.bool m.length m' 4 t3 S∧S.length=l.length∧ ∀j,S[j]? =some true↔(j<i∧badM l j)∨(j=i∧((0<k∧badY l i)∨(1<k∧badG l i)))):=⟨_,fun _ _ _=>Iff.rfl⟩
  refine W_loop I2 2 ((hI2 _ _ _).2 ⟨0,S,by simp,rfl,hm2.trans hm3,hb19,hS3,hSl,fun j=>by rw[hSj];simp⟩) ?_
  clear hS hSl hSj hS3
  rintro p a m4 hIn
  obtain ⟨k,S,hk2,rfl,hm4,hb4,hS,hSl,hSj⟩:=(hI2 _ _ _).1 hIn
  clear hIn
  simp
  refine bbind_dec (fun h2=>?_) fun h2=>?_
  ·have hk2':k<2:=by omega
   obtain ⟨p,rfl⟩: ∃p',p=p'+1:=⟨p-1,by omega⟩
   have hw2:=step64 (k:=k) (n:=2) hk2' (by omega)
   have hia:iaddrE 1 (.slice b19 0 2 2 none) (.int .i64 (k:Nat))=some (.ptr b19 k):=by simp[iaddrE];omega
   have hld:([.func (.func 131) [] [],.func (.func 132) [] []]:List AVal)[k]? =some (.func (.func (shF k)) [] []):=by
    have:k=0∨k=1:=by omega
    rcases this with rfl|rfl<;>rfl
   simp[hia,bx hb4,hld]
   rw[store_new1 _ _ _ _ _ rfl rfl]
   have hb6:=readB_new m4 [.func (.func (shF k)) [] []] 53 none
   have hm5:m4<+:m4++ [.own [.func (.func (shF k)) [] []] 53 none]:=List.prefix_append _ _
   generalize m4++ [.own [.func (.func (shF k)) [] []] 53 none]=m5 at*
   generalize m4.length=b6 at*
   simp
   refine C_of (k133 s l i h m5 (hs.mono (hm4.trans hm5)) hg hn hsz 134 [] [.ptr b6 0] (fun x=> !shP k x) fun c x m' hm' hx hc=>?_) ?_
   ·refine (k134 c x b6 (shF k) (shP k) m' hc (readB_mono hm' hb6) fun m'' hm'' hc'=>sh_call k c x m'' hc').mono fun v m'' h=>?_
    exact h
   rintro v m6 ⟨hm6,R,hR,hRl,hRj⟩
   have hiR:i<R.length:=by omega
   obtain ⟨bR,oR,hpR,hlR⟩:=hR.bools.at hiR
   have hSm:=hS.mono (hm5.trans hm6)
   have hm46:=hm4.trans (hm5.trans hm6)
   have hb46:=readB_mono (hm5.trans hm6) hb4
   simp[hpR,hlR]
   have hbad:R[i]=true↔badK l k i:=by
    have:=hRj i
    rw[List.getElem?_eq_getElem hiR,Option.some.injEq] at this
    exact this
   refine bbind_intro (fun hr=>?_) fun hr=>?_
   ·have hr':=hbad.1 hr
    obtain ⟨b3,o3,hb3,hp3,_,hst3⟩:=hSm.at (i:=i) (by omega)
    obtain ⟨m7,hst,hch,hS7⟩:=hst3 true
    simp[hp3,hst,hw2]
    refine ⟨p,by omega,(hI2 _ _ _).2 ⟨k+1,S.set i true,by omega,by simp,hch.pre hm46 fun b hb=>?_,?_,hS7,by simpa using hSl,fun j=>?_⟩⟩
    ·have:=(hSm.blk_lo hb3).1;omega
    ·exact hch.read (fun hb=>h19 (by rw[hb3,←hb])) hb46
    ·rw[List.getElem?_set]
     by_cases hj:i=j
     ·subst hj
      rw[if_pos rfl,if_pos (by omega)]
      simp only[true_iff]
      refine .inr ⟨by simp,?_⟩
      have:k=0∨k=1:=by omega
      rcases this with rfl|rfl
      ·exact .inl ⟨by omega,hr'⟩
      ·exact .inr ⟨by omega,hr'⟩
     ·rw[if_neg hj,hSj]
      have: ¬j=i:=fun h=>hj h.symm
      simp[this]
   ·have hr': ¬badK l k i:=fun h=>by rw[hbad.2 h] at hr;cases hr
    simp[hw2]
    refine ⟨p,by omega,(hI2 _ _ _).2 ⟨k+1,S,by omega,by simp,hm46,hb46,hSm,hSl,fun j=>?_⟩⟩
    rw[hSj]
    have:k=0∨k=1:=by omega
    rcases this with rfl|rfl
    ·have hr': ¬badY l i:=hr'
     simp[hr']
    ·have hr': ¬badG l i:=hr'
     simp[hr']
  ·have:k=2:=by omega
   subst this
   simp[hw]
   refine ⟨q,by omega,(hI _ _ _).2 ⟨i+1,S,by omega,by simp,hm4,hS,hSl,fun j=>?_⟩⟩
   rw[hSj]
   unfold badM
   constructor
   ·rintro (⟨h1,h2⟩|⟨rfl,⟨_,h2⟩|⟨_,h2⟩⟩)
    ·exact ⟨by omega,h2⟩
    ·exact ⟨by omega,.inl h2⟩
    ·exact ⟨by omega,.inr h2⟩
   ·rintro ⟨h1,h2⟩
    by_cases hj:j=i
    ·subst hj
     exact .inr ⟨rfl,h2.imp (fun h=>⟨by omega,h⟩) fun h=>⟨by omega,h⟩⟩
    ·exact .inl ⟨by omega,h2⟩
 ·have hkl:i=l.length:=by omega
  subst hkl
  simp[hs.len,hc1,hc2]
  have hT0:=OwL.rep (f:=AVal.bool) m2 4 l.length false
  have hm3:m2<+:m2++ [.own (List.replicate l.length (.bool false)) 4 none]:=List.prefix_append _ _
  have h7: ∀b,t3.blk=some b→(AVal.slice m2.length 0 l.length l.length none).blk≠some b:=fun b hb hbb=>by
   have:=(hS.blk_lo hb).2
   simp[AVal.blk] at hbb
   omega
  generalize AVal.slice m2.length 0 l.length l.length none=t7 at*
  generalize m2++ [.own (List.replicate l.length (.bool false)) 4 none]=m3 at*
  have hS3:=hS.mono hm3
  replace hT0:=hT0.lo' hm2.length_le
  clear hI I
  obtain ⟨I,hI⟩: ∃I:Nat→AFrame→AMem→Prop,∀q a m',I q a m'↔(∃(k:Nat) (T:List Bool),k+q=l.length∧a=h100_2 s t3 t7 (.int .i64 l.length) (.int .i64 k)∧m<+:m'∧OwL AVal.bool m.length m' 4 t3 S∧OwL AVal.bool m.length m' 4 t7 T∧T.length=l.length∧ ∀j,T[j]? =some true↔j<k∧okM l j):=⟨_,fun _ _ _=>Iff.rfl⟩
  refine W_loop I l.length ((hI _ _ _).2 ⟨0,_,by simp,rfl,hm2.trans hm3,hS3,hT0,by simp,fun j=>by rw[List.getElem?_replicate];split<;>simp⟩) ?_
  clear hS hS3 hT0 hk h
  rintro q a m4 hIn
  obtain ⟨i,T,hk,rfl,hm4,hS,hT,hTl,hTj⟩:=(hI _ _ _).1 hIn
  clear hIn
  simp
  refine bbind_dec (fun h=>?_) fun h=>?_
  ·have hw:=step64 h (by omega)
   obtain ⟨q,rfl⟩: ∃q',q=q'+1:=⟨q-1,by omega⟩
   have hiS:i<S.length:=by omega
   obtain ⟨b3,o3,hb3,hp3,hl3,_⟩:=hS.at hiS
   obtain ⟨b7,o7,hb7,hp7,_,hst7⟩:=hT.at (i:=i) (by omega)
   obtain ⟨m5,hst,hch,hT5⟩:=hst7 (!S[i])
   have hm5:m<+:m5:=hch.pre hm4 fun b hb=>by have:=(hT.blk_lo hb7).1;omega
   have hS5:=hS.ch hch fun b hb hbb=>h7 b hb (by rw[hb7,hbb])
   simp[hp3,hl3,hp7,hst]
   refine C_of (k133 s l i h m5 (hs.mono hm5) hg hn hsz 135 [] [] (fun _=>true) fun c x m' hm' hx hc=>k135 c x m' hc) ?_
   rintro v m6 ⟨hm6,R,hR,hRl,hRj⟩
   simp[hR.len]
   have hbad:S[i]=true↔badM l i:=by
    have:=hSj i
    rw[List.getElem?_eq_getElem hiS,Option.some.injEq] at this
    rw[this]
    exact ⟨And.right,fun h'=>⟨h,h'⟩⟩
   have hTi: ∀j,(T.set i (!S[i]))[j]? =some true↔(j<i∧okM l j)∨(j=i∧ ¬badM l i):=by
    intro j
    rw[List.getElem?_set]
    by_cases hj:i=j
    ·subst hj
     rw[if_pos rfl,if_pos (by omega),Option.some.injEq,←hbad]
     simp
    ·rw[if_neg hj,hTj]
     have: ¬j=i:=fun h=>hj h.symm
     simp[this]
   generalize hT':T.set i (!S[i])=T' at*
   have hTl':T'.length=l.length:=by rw[←hT'];simpa using hTl
   obtain ⟨I2,hI2⟩: ∃I:Nat→AFrame→AMem→Prop,∀q a m',I q a m'↔(∃(k:Nat) (T:List Bool),k+q=R.length∧a=h100_3 s t3 t7 (.int .i64 i) (.int .i64 l.length) (.int .i64 i) v (.int .i64 R.length) (.int .i64 k)∧m<+:m'∧OwL AVal.bool m5.length m' 4 v R∧OwL AVal.bool m.length m' 4 t3 S∧OwL AVal.bool m.length m' 4 t7 T∧T.length=l.length∧ ∀j,T[j]? =some true↔(j<i∧okM l j)∨(j=i∧ ¬badM l i∧ ∀z,z<k→TransGen (stepR l (fun _=>true)) i z→ ¬badM l z)):=⟨_,fun _ _ _=>Iff.rfl⟩
   have hm56:=hm5.trans hm6
   refine W_loop I2 R.length ((hI2 _ _ _).2 ⟨0,T',by simp,rfl,hm56,hR,hS5.mono hm6,hT5.mono hm6,hTl',fun j=>by rw[hTi];simp⟩) ?_
   have hb7lt:b7<m5.length:=by have:=(hT5.blk_lo hb7).2;exact this
   rintro p a m7 hIn
   obtain ⟨k,T,hk2,rfl,hm7,hR,hS,hT,hTl,hTj⟩:=(hI2 _ _ _).1 hIn
   clear hIn
   simp
   refine bbind_dec (fun hkR=>?_) fun hkR=>?_
   ·have hw2:=step64 hkR (by omega)
    obtain ⟨p,rfl⟩: ∃p',p=p'+1:=⟨p-1,by omega⟩
    obtain ⟨bR,oR,_,hpR,hlR,_⟩:=hR.at hkR
    obtain ⟨b3,o3,_,hp3,hl3,_⟩:=hS.at (i:=k) (by omega)
    have hRk:R[k]=true↔TransGen (stepR l (fun _=>true)) i k:=by
     have:=hRj k
     rw[List.getElem?_eq_getElem hkR,Option.some.injEq] at this
     exact this
    have hSk:S[k]=true↔badM l k:=by
     have:=hSj k
     rw[List.getElem?_eq_getElem (by omega),Option.some.injEq] at this
     rw[this]
     exact ⟨And.right,fun h'=>⟨by omega,h'⟩⟩
    have same:(R[k]=false∨S[k]=false)→ ∀j,T[j]? =some true↔(j<i∧okM l j)∨(j=i∧ ¬badM l i∧ ∀z,z<k+1→TransGen (stepR l (fun _=>true)) i z→ ¬badM l z):=by
     intro hc j
     rw[hTj]
     have:(∀z,z<k→TransGen (stepR l (fun _=>true)) i z→ ¬badM l z)↔(∀z,z<k+1→TransGen (stepR l (fun _=>true)) i z→ ¬badM l z):=by
      constructor
      ·intro h1 z hz h2 h3
       by_cases hzk:z=k
       ·subst hzk
        rcases hc with hc|hc
        ·rw[hRk.2 h2] at hc;cases hc
        ·rw[hSk.2 h3] at hc;cases hc
       ·exact h1 z (by omega) h2 h3
      ·intro h1 z hz
       exact h1 z (by omega)
     rw[this]
    cases cR:R[k]
    ·simp[hpR,hlR,cR,hw2]
     exact ⟨p,by omega,(hI2 _ _ _).2 ⟨k+1,T,by omega,by simp,hm7,hR,hS,hT,hTl,same (.inl cR)⟩⟩
    ·cases cS:S[k]
     ·simp[hpR,hlR,cR,hp3,hl3,cS,hw2]
      exact ⟨p,by omega,(hI2 _ _ _).2 ⟨k+1,T,by omega,by simp,hm7,hR,hS,hT,hTl,same (.inr cS)⟩⟩
     ·obtain ⟨b7',o7',hb7',hp7',_,hst7'⟩:=hT.at (i:=i) (by omega)
      obtain ⟨m8,hst',hch',hT8⟩:=hst7' false
      simp[hpR,hlR,cR,hp3,hl3,cS,hw2,hp7',hst']
      have hbb:b7'=b7:=by rw[hb7] at hb7';simpa using hb7'.symm
      refine ⟨p,by omega,(hI2 _ _ _).2 ⟨k+1,T.set i false,by omega,by simp,hch'.pre hm7 fun b hb=>?_,hR.ch hch' fun b hb hb2=>?_,hS.ch hch' fun b hb hb2=>?_,hT8,by simpa using hTl,fun j=>?_⟩⟩
      ·have:=(hT.blk_lo hb7').1;omega
      ·have:=(hR.blk_lo hb).1;omega
      ·exact h7 b hb (by rw[hb7',hb2])
      ·rw[List.getElem?_set]
       by_cases hj:i=j
       ·subst hj
        rw[if_pos rfl,if_pos (by omega)]
        simp only[Option.some.injEq,Bool.false_eq_true,false_iff]
        rintro (⟨h1,_⟩|⟨_,_,h2⟩)
        ·omega
        ·exact h2 k (by omega) (hRk.1 cR) (hSk.1 cS)
       ·rw[if_neg hj,hTj]
        have: ¬j=i:=fun h=>hj h.symm
        simp[this]
   ·simp[hw]
    refine ⟨q,by omega,(hI _ _ _).2 ⟨i+1,T,by omega,by simp,hm7,hS,hT,hTl,fun j=>?_⟩⟩
    rw[hTj]
    have hlt: ∀z,TransGen (stepR l (fun _=>true)) i z→z<k:=fun z hz=>by
     have:=(hRj z).2 hz
     have:=(List.getElem?_eq_some_iff.1 this).1
     omega
    constructor
    ·rintro (⟨h1,h2⟩|⟨rfl,h2,h3⟩)
     ·exact ⟨by omega,h2⟩
     ·exact ⟨by omega,h2,fun z hz=>h3 z (hlt z hz) hz⟩
    ·rintro ⟨h1,h2⟩
     by_cases hj:j=i
     ·subst hj
      exact .inr ⟨rfl,h2.1,fun z _ hz=>h2.2 z hz⟩
     ·exact .inl ⟨by omega,h2⟩
  ·simp
   have:i=l.length:=by omega
   subst this
   exact ⟨hm4,T,hT,hTl,hTj⟩
end Go.Proofs.YtlniliigcnedmaaGreatDoor
namespace Go.Proofs.YtlniliigcnedmaaGreatDoor
open Go Ax
open Relation
def rowStruct (x:Md):Bool:=x.kind==10||x.kind==11
def stepF (l:List Md):Nat→Nat→Prop:=stepR l rowStruct
inductive FlexP (l:List Md):Nat→Prop
 |flex {m:Nat} {x:Md}:l[m]? =some x→rowStruct x=true→x.flex=true→FlexP l m
 |step {m k:Nat}:stepF l m k→FlexP l k→FlexP l m
def acyc (l:List Md):Prop:= ∀r,¬TransGen (stepR l (fun x=> !yinB x)) r r
theorem TransGen.mono' {α:Type} {r s:α→α→Prop} (h: ∀a b,r a b→s a b) {a b:α} (ht:TransGen r a b):TransGen s a b:=by
 induction ht with
 |single h1=>exact .single (h _ _ h1)
 |tail _ h1 ih=>exact .tail ih (h _ _ h1)
theorem TransGen.head' {α:Type} {r:α→α→Prop} {a b c:α} (h:r a b) (ht:TransGen r b c):TransGen r a c:=by
 induction ht with
 |single h1=>exact .tail (.single h) h1
 |tail _ h1 ih=>exact .tail ih h1
theorem stepF_yin {l:List Md} {a b:Nat} (h:stepF l a b):stepR l (fun x=> !yinB x) a b:=by
 obtain ⟨x,h1,h2,h3⟩:=h
 refine ⟨x,h1,?_,h3⟩
 simp only[rowStruct,Bool.or_eq_true,beq_iff_eq] at h2
 simp only[yinB]
 rcases h2 with h2|h2<;>rw[h2]<;>rfl
theorem acycF {l:List Md} (h:acyc l) (r:Nat): ¬TransGen (stepF l) r r:=fun ht=>h r (TransGen.mono' (fun _ _=>stepF_yin) ht)
open Classical in
noncomputable def hgt (l:List Md) (a:Nat):Nat:=(List.range l.length).countP fun j=>decide (TransGen (stepF l) a j)
theorem countP_lt {α:Type} {p q:α→Bool} {x:α}: ∀{l:List α},(∀y∈l,p y=true→q y=true)→x∈l→p x=false→q x=true→l.countP p<l.countP q
 | [],_,h,_,_=>by cases h
 |y::l,h,hx,hp,hq=>by
  have hle:l.countP p≤l.countP q:=List.countP_mono_left fun z hz=>h z (List.mem_cons_of_mem _ hz)
  rw[List.countP_cons,List.countP_cons]
  rcases List.mem_cons.1 hx with rfl|hx
  ·rw[hp,hq];simp;omega
  ·have:=countP_lt (fun z hz=>h z (List.mem_cons_of_mem _ hz)) hx hp hq
   have h1:=h y List.mem_cons_self
   cases hpy:p y
   ·simp;split<;>omega
   ·rw[h1 hpy];simp;omega
theorem hgt_lt {l:List Md} (hg:goodT l) (ha:acyc l) {a b:Nat} (h:stepF l a b):hgt l b<hgt l a:=by
 have hb:b<l.length:=by
  obtain ⟨x,h1,_,h3⟩:=h
  have:=hg x (List.mem_of_getElem? h1) _ h3
  omega
 refine countP_lt (x:=b) (fun y _ hy=>?_) (List.mem_range.2 hb) ?_ ?_
 ·simp only[decide_eq_true_eq] at hy ⊢
  exact TransGen.head' h hy
 ·simp only[decide_eq_false_iff_not]
  exact acycF ha b
 ·simp only[decide_eq_true_eq]
  exact .single h
theorem FlexP.iff {l:List Md} {m:Nat} {x:Md} (hx:l[m]? =some x):FlexP l m↔rowStruct x=true∧(x.flex=true∨ ∃k,stepF l m k∧FlexP l k):=by
 constructor
 ·intro h
  cases h with
  |flex h1 h2 h3=>rw[hx] at h1;cases h1;exact ⟨h2,.inl h3⟩
  |step h1 h2=>
   obtain ⟨y,k1,k2,k3⟩:=h1
   rw[hx] at k1;cases k1
   exact ⟨k2,.inr ⟨_,⟨x,hx,k2,k3⟩,h2⟩⟩
 ·rintro ⟨h1,h2|⟨k,h2,h3⟩⟩
  ·exact .flex hx h1 h2
  ·exact .step h2 h3
structure FInv (l:List Md) (K O:List Bool) (B:Nat→Prop):Prop where
 lenK:K.length=l.length
 lenO:O.length=l.length
 done: ∀(j:Nat),K[j]? =some true→ ¬B j→(O[j]? =some true↔FlexP l j)
 rest: ∀(j:Nat),K[j]? =some false→O[j]? =some false
 row: ∀(j:Nat) x,l[j]? =some x→K[j]? =some true→rowStruct x=true
end Go.Proofs.YtlniliigcnedmaaGreatDoor
namespace Go.Proofs.YtlniliigcnedmaaGreatDoor
open Go Ax
open Relation
set_option maxRecDepth 100000
theorem rowStruct_cases (x:Md):(x.kind=10∧rowStruct x=true)∨(x.kind=11∧rowStruct x=true)∨(¬x.kind=10∧ ¬x.kind=11∧rowStruct x=false):=by
 by_cases h:x.kind=10
 ·exact .inl ⟨h,by simp[rowStruct,h]⟩
 ·by_cases h':x.kind=11
  ·exact .inr (.inl ⟨h',by simp[rowStruct,h']⟩)
  ·exact .inr (.inr ⟨h,h',by simp[rowStruct,h,h']⟩)
end Go.Proofs.YtlniliigcnedmaaGreatDoor
namespace Go.Proofs.YtlniliigcnedmaaGreatDoor
open Go Ax
open Relation
set_option maxRecDepth 100000
structure FS (s tk to_:AVal) (b1 b2 b3 b4 lo:Nat) (m0 m:AMem) (K O:List Bool):Prop where
 hm:m0<+:m
 r1:readB m b1=some [s]
 r2:readB m b2=some [tk]
 r3:readB m b3=some [to_]
 r4:readB m b4=some [.func (.func 136) [] [.ptr b1 0,.ptr b2 0,.ptr b3 0,.ptr b4 0]]
 oK:OwL AVal.bool lo m 4 tk K
 oO:OwL AVal.bool lo m 4 to_ O
theorem FS.mono {s tk to_:AVal} {b1 b2 b3 b4 lo:Nat} {m0 m m':AMem} {K O:List Bool} (h:FS s tk to_ b1 b2 b3 b4 lo m0 m K O) (hm:m<+:m'):FS s tk to_ b1 b2 b3 b4 lo m0 m' K O:=
 ⟨h.hm.trans hm,readB_mono hm h.r1,readB_mono hm h.r2,readB_mono hm h.r3,readB_mono hm h.r4,h.oK.mono hm,h.oO.mono hm⟩
def apart3 (s tk to_:AVal) (b1 b2 b3 b4 lo:Nat) (m0:AMem):Prop:=m0.length≤lo∧(∀b,tk.blk=some b→to_.blk≠some b)∧(∀b,b=b1∨b=b2∨b=b3∨b=b4→tk.blk≠some b∧to_.blk≠some b)
def rowsOf (tk to_:AVal) (b:Nat):Prop:=tk.blk=some b∨to_.blk=some b
theorem FS.ch {s tk to_:AVal} {b1 b2 b3 b4 lo:Nat} {m0 m m':AMem} {K O K' O':List Bool} (h:FS s tk to_ b1 b2 b3 b4 lo m0 m K O) (ha:apart3 s tk to_ b1 b2 b3 b4 lo m0) (hc:Ch (rowsOf tk to_) m m') (oK:OwL AVal.bool lo m' 4 tk K') (oO:OwL AVal.bool lo m' 4 to_ O'):FS s tk to_ b1 b2 b3 b4 lo m0 m' K' O':=by
 have hx: ∀b,b=b1∨b=b2∨b=b3∨b=b4→ ¬rowsOf tk to_ b:=fun b hb hr=>hr.elim (ha.2.2 b hb).1 (ha.2.2 b hb).2
 refine ⟨hc.pre h.hm fun b hb hr=>?_,hc.read (hx _ (by simp)) h.r1,hc.read (hx _ (by simp)) h.r2,hc.read (hx _ (by simp)) h.r3,hc.read (hx _ (by simp)) h.r4,oK,oO⟩
 have:=ha.1
 rcases hr with hr|hr
 ·have:=(h.oK.blk_lo hr).1;omega
 ·have:=(h.oO.blk_lo hr).1;omega
set_option maxHeartbeats 4000000 in
theorem k136 (s tk to_:AVal) (b1 b2 b3 b4 lo:Nat) (l:List Md) (m0:AMem) (hs:RTab m0 s l) (hg:goodT l) (ha:acyc l) (hn:l.length≤512) (hsz: ∀x∈l,smallN x) (hap:apart3 s tk to_ b1 b2 b3 b4 lo m0):
  ∀(n i:Nat) (hi:i<l.length),hgt l i<n→ ∀(m:AMem) (K O:List Bool) (B:Nat→Prop),FS s tk to_ b1 b2 b3 b4 lo m0 m K O→FInv l K O B→(∀j,B j→ ¬(j=i∨TransGen (stepF l) i j))→
  ACalls Tryz.prog 136 [.int .i64 i,.ptr b1 0,.ptr b2 0,.ptr b3 0,.ptr b4 0] m fun v m'=>(∃b,v= .bool b∧(b=true↔FlexP l i))∧Ch (rowsOf tk to_) m m'∧ ∃K' O',FS s tk to_ b1 b2 b3 b4 lo m0 m' K' O'∧FInv l K' O' B∧(∀(j:Nat),K[j]? =some true→K'[j]? =some true∧O'[j]? =O[j]?)∧(K'[i]? =some true∨ ∀x,l[i]? =some x→rowStruct x=false):=by
 intro n
 induction n with
 |zero=>intro i hi h;omega
 |succ n ih=>
  intro i hi hh m K O B hF hI hB
  refine w136 ?_
  obtain ⟨bx',ox,c,h4,h5,_,_,h6⟩:=hs.atC hi
  replace h5:=loadE_mono hF.hm h5
  have hcl:=h6.all
  simp[bx hF.r1,h4,h5]
  rw[store_new _ _ c _ _ 6 hcl.1 rfl hcl.2]
  have hb:=readB_new m c 39 none
  have hm3:m<+:m++ [.own c 39 none]:=List.prefix_append _ _
  have hbt: ¬rowsOf tk to_ m.length:=fun hr=>by
   rcases hr with hr|hr
   ·have:=(hF.oK.blk_lo hr).2;omega
   ·have:=(hF.oO.blk_lo hr).2;omega
  have hch0:Ch (rowsOf tk to_) m (m++ [.own c 39 none]):= .of_prefix hm3
  replace hF:=hF.mono hm3
  generalize m++ [.own c 39 none]=m1 at*
  generalize m.length=b7 at*
  obtain ⟨e,nm,c0,c1,c2,c3,c4,c5,he,hnm,rfl⟩:=h6.get
  have hlx:l[i]? =some l[i]:=List.getElem?_eq_getElem hi
  have hxm:l[i]∈l:=List.getElem_mem hi
  have hflex:=FlexP.iff hlx
  generalize l[i]=x at*
  clear h5 h6 hm3 hcl h4 c0 c1 c2 c3 c4 c5
  have hiK:i<K.length:=by rw[hI.lenK];exact hi
  have hiO:i<O.length:=by rw[hI.lenO];exact hi
  obtain ⟨bk,ok,hbk,hpk,hlk,hstk⟩:=hF.oK.at hiK
  obtain ⟨bo,oo,hbo,hpo,hlo,_⟩:=hF.oO.at hiO
  have hBi: ¬B i:=fun h=>hB i h (.inl rfl)
  by_cases hskip:K[i]=true∨rowStruct x=false
  ·have hOi:O[i]=true↔FlexP l i:=by
    by_cases hK:K[i]=true
    ·have:=hI.done i (by rw[List.getElem?_eq_getElem hiK,hK]) hBi
     rw[←this,List.getElem?_eq_getElem hiO,Option.some.injEq]
    ·have hr:rowStruct x=false:=hskip.resolve_left hK
     have:=hI.rest i (by rw[List.getElem?_eq_getElem hiK];simpa using hK)
     rw[List.getElem?_eq_getElem hiO,Option.some.injEq] at this
     rw[this,hflex,hr]
     simp
   have hOi:O[i]=false∧ ¬FlexP l i∨O[i]=true∧FlexP l i:=by cases h:O[i]<;>rw[h] at hOi<;>simp at hOi<;>simp[hOi]
   cases hK:K[i]
   ·have hr:rowStruct x=false:=hskip.resolve_left (by rw[hK];simp)
    rcases rowStruct_cases x with ⟨h,hr'⟩|⟨h,hr'⟩|⟨h,h',_⟩
    ·rw[hr] at hr';cases hr'
    ·rw[hr] at hr';cases hr'
    ·simp[bx hF.r2,hpk,hlk,hK,bx hb,beqF h,beqF h',bx hF.r3,hpo,hlo]
     exact ⟨hOi,hch0,K,O,hF,hI,fun j hj=>⟨hj,rfl⟩,.inr fun y hy=>by rw[hlx] at hy;cases hy;exact hr⟩
   ·simp[bx hF.r2,hpk,hlk,hK,bx hF.r3,hpo,hlo]
    exact ⟨hOi,hch0,K,O,hF,hI,fun j hj=>⟨hj,rfl⟩,.inl (by rw[List.getElem?_eq_getElem hiK,hK])⟩
  ·have hK:K[i]=false:=by
    cases h:K[i]
    ·rfl
    ·exact absurd (.inl h) hskip
   have hr:rowStruct x=true:=by
    cases h:rowStruct x
    ·exact absurd (.inr h) hskip
    ·rfl
   clear hskip
   obtain ⟨m2,hst2,hch2,hK2⟩:=hstk true
   have hch2':Ch (rowsOf tk to_) m1 m2:=hch2.weaken fun b _ hb=> .inl (by rw[hb];exact hbk)
   have hO2:=hF.oO.ch hch2 fun b hb hbb=>hap.2.1 bk hbk (by rw[←hbb];exact hb)
   have hF2:=hF.ch hap hch2' hK2 hO2
   obtain ⟨bo2,oo2,hbo2,hpo2,hlo2,hsto2⟩:=hF2.oO.at hiO
   obtain ⟨m3,hst3,hch3,hO3⟩:=hsto2 x.flex
   have hch3':Ch (rowsOf tk to_) m2 m3:=hch3.weaken fun b _ hb=> .inr (by rw[hb];exact hbo2)
   have hK3:=hF2.oK.ch hch3 fun b hb hbb=>hap.2.1 b hb (by rw[hbb];exact hbo2)
   have hF3:=hF2.ch hap hch3' hK3 hO3
   have hb2:=hch2'.read hbt hb
   have hb3:=hch3'.read hbt hb2
   have hel:=(he.mono hF3.hm).len
   have hFI:FInv l (K.set i true) (O.set i x.flex) (fun j=>B j∨j=i):=by
    refine ⟨by simpa using hI.lenK,by simpa using hI.lenO,fun j hj hnb=>?_,fun j hj=>?_,fun j y hy hj=>?_⟩
    ·have hji: ¬i=j:=fun h=>hnb (.inr h.symm)
     rw[List.getElem?_set_ne hji] at hj ⊢
     exact hI.done j hj fun h=>hnb (.inl h)
    ·by_cases hji:i=j
     ·subst hji;rw[List.getElem?_set_self hiK] at hj;cases hj
     ·rw[List.getElem?_set_ne hji] at hj ⊢
      exact hI.rest j hj
    ·by_cases hji:i=j
     ·subst hji;rw[hlx] at hy;cases hy;exact hr
     ·rw[List.getElem?_set_ne hji] at hj
      exact hI.row j y hy hj
   have hkeep: ∀(j:Nat),K[j]? =some true→(K.set i true)[j]? =some true∧(O.set i x.flex)[j]? =O[j]? :=by
    intro j hj
    have hji: ¬i=j:=fun h=>by subst h;rw[List.getElem?_eq_getElem hiK,hK] at hj;cases hj
    rw[List.getElem?_set_ne hji,List.getElem?_set_ne hji]
    exact ⟨hj,rfl⟩
   have hOi:(O.set i x.flex)[i]? =some x.flex:=List.getElem?_set_self hiO
   have hch:=(hch0.trans hch2').trans hch3'
   rcases rowStruct_cases x with ⟨h,_⟩|⟨h,_⟩|⟨_,_,h⟩
   rotate_left 2
   ·rw[hr] at h;cases h
   all_goals
    simp[bx hF.r2,hpk,hlk,hK,bx hb,h,hst2,bx hF2.r3,hpo2,bx hb2,hst3,bx hb3,hel]
    obtain ⟨I,hJ⟩: ∃I:Nat→AFrame→AMem→Prop,∀q a m',I q a m'↔(∃(k:Nat) (K2 O2:List Bool),k+q=x.elems.length∧a=h136_0 (.int .i64 i) (.ptr b3 0) (.ptr b4 0) e (.int .i64 x.elems.length) (.int .i64 k)∧FS s tk to_ b1 b2 b3 b4 lo m0 m' K2 O2∧FInv l K2 O2 (fun j=>B j∨j=i)∧Ch (rowsOf tk to_) m m'∧(∀(j:Nat),K[j]? =some true→K2[j]? =some true∧O2[j]? =O[j]?)∧K2[i]? =some true∧ ∃b,O2[i]? =some b∧(b=true↔x.flex=true∨ ∃j y,j<k∧x.elems[j]? =some y∧FlexP l y.toNat)):=⟨_,fun _ _ _=>Iff.rfl⟩
    refine W_loop I x.elems.length ((hJ _ _ _).2 ⟨0,_,_,by simp,rfl,hF3,hFI,hch,hkeep,List.getElem?_set_self hiK,x.flex,hOi,by simp⟩) ?_
    rintro q a m4 hIn
    obtain ⟨k,K2,O2,hk,rfl,hF4,hI4,hch4,hkeep4,hKi,b,hOb,hbf⟩:=(hJ _ _ _).1 hIn
    clear hIn
    simp
    refine bbind_dec (fun hkl=>?_) fun hkl=>?_
    ·have hw:=step64 hkl (hsz _ hxm).1
     obtain ⟨q,rfl⟩: ∃q',q=q'+1:=⟨q-1,by omega⟩
     obtain ⟨b1',o1',hp1,hl1⟩:=(he.mono hF4.hm).at hkl
     have hgx:=hg _ hxm _ (List.getElem_mem hkl)
     have hee:x.elems[k]? =some x.elems[k]:=List.getElem?_eq_getElem hkl
     have hem:x.elems[k]∈x.elems:=List.getElem_mem hkl
     generalize x.elems[k]=ek at*
     obtain ⟨j,rfl⟩: ∃j:Nat,ek=j:=⟨ek.toNat,by omega⟩
     have hstep:stepF l i j:=⟨x,hlx,hr,hem⟩
     have hlt:=hgt_lt hg ha hstep
     have hBj: ∀z,(B z∨z=i)→ ¬(z=j∨TransGen (stepF l) j z):=by
      rintro z (hz|rfl) hc
      ·refine hB z hz (.inr ?_)
       rcases hc with rfl|hc
       ·exact .single hstep
       ·exact TransGen.head' hstep hc
      ·rcases hc with rfl|hc
       ·exact acycF ha z (.single hstep)
       ·exact acycF ha z (TransGen.head' hstep hc)
     simp[hp1,hl1]
     refine W_draw (fun _ _ _=>True) (by simp[maxDst]) ?_
     refine D_pc 0 4 [4,5,6,7,8,9,10,11,12] ?_
     simp[bx hF4.r3,bx hF4.r4]
     intro fs' hfs'
     refine D_X rfl rfl fun m5 hm5 _=>?_
     simp
     refine C_of (ih j (by omega) (by omega) m5 K2 O2 _ (hF4.mono hm5) hI4 hBj) ?_
     rintro _ m6 ⟨⟨bj,rfl,hbj⟩,hch6,K3,O3,hF6,hI6,hkeep6,_⟩
     refine ⟨?_,?_⟩
     ·simp[lateOf,ROp.ev,hF6.r3]
     have hO3i:O3[i]? =some b:=by rw[(hkeep6 i hKi).2,hOb]
     have hK3i:K3[i]? =some true:=(hkeep6 i hKi).1
     have hi3:i<O3.length:=by rw[hI6.lenO];exact hi
     have hO3i':O3[i]=b:=by rw[List.getElem?_eq_getElem hi3] at hO3i;simpa using hO3i
     obtain ⟨bo6,oo6,hbo6,hpo6,hlo6,_⟩:=hF6.oO.at hi3
     refine D_pc 5 7 [12] ?_
     have fin: ∀(m7:AMem),m6<+:m7→ ∃m8,storeE m7 1 (.ptr bo6 oo6) (.bool (bj||b))=some (.undef,m8)∧ ∀m9,m8<+:m9→I q (mat 61 [(0,.int .i64 i),(3,.ptr b3 0),(4,.ptr b4 0),(38,e),(39,.int .i64 x.elems.length),(40,.int .i64 (k+1:Nat))]) m9:=by
      intro m7 hm7
      have hF7:=hF6.mono hm7
      obtain ⟨bo7,oo7,hbo7,hpo7,_,hst7⟩:=hF7.oO.at hi3
      obtain ⟨rfl,rfl⟩:bo7=bo6∧oo7=oo6:=by have:=(hpo7 .i64).symm.trans (hpo6 .i64);simpa using this
      obtain ⟨m8,hst8,hch8,hO8⟩:=hst7 (bj||b)
      refine ⟨m8,hst8,fun m9 hm9=>(hJ _ _ _).2 ⟨k+1,K3,O3.set i (bj||b),by omega,rfl,?_,?_,?_,?_,hK3i,bj||b,List.getElem?_set_self hi3,?_⟩⟩
      ·have hch8':Ch (rowsOf tk to_) m7 m8:=hch8.weaken fun b _ hb=> .inr (by rw[hb];exact hbo7)
       have hK8:=hF7.oK.ch hch8 fun b hb hbb=>hap.2.1 b hb (by rw[hbb];exact hbo7)
       exact (hF7.ch hap hch8' hK8 hO8).mono hm9
      ·refine ⟨hI6.lenK,by simpa using hI6.lenO,fun z hz hnb=>?_,fun z hz=>?_,hI6.row⟩
       ·have hzi: ¬i=z:=fun h=>hnb (.inr h.symm)
        rw[List.getElem?_set_ne hzi]
        exact hI6.done z hz hnb
       ·have hzi: ¬i=z:=fun h=>by subst h;rw[hK3i] at hz;cases hz
        rw[List.getElem?_set_ne hzi]
        exact hI6.rest z hz
      ·have hch8':Ch (rowsOf tk to_) m7 m8:=hch8.weaken fun b _ hb=> .inr (by rw[hb];exact hbo7)
       exact ((((hch4.trans (.of_prefix hm5)).trans hch6).trans (.of_prefix hm7)).trans hch8').trans (.of_prefix hm9)
      ·intro z hz
       have hzi: ¬i=z:=fun h=>by subst h;rw[List.getElem?_eq_getElem hiK,hK] at hz;cases hz
       rw[List.getElem?_set_ne hzi]
       have h1:=hkeep4 z hz
       have h2:=hkeep6 z h1.1
       exact ⟨h2.1,h2.2.trans h1.2⟩
      ·rw[Bool.or_eq_true,hbf,hbj]
       constructor
       ·rintro (h1|h1|⟨j',y,h1,h2,h3⟩)
        ·exact .inr ⟨k,j,by omega,hee,by simpa using h1⟩
        ·exact .inl h1
        ·exact .inr ⟨j',y,by omega,h2,h3⟩
       ·rintro (h1|⟨j',y,h1,h2,h3⟩)
        ·exact .inr (.inl h1)
        ·by_cases hjk:j'=k
         ·subst hjk
          rw[hee] at h2;cases h2
          exact .inl (by simpa using h3)
         ·exact .inr (.inr ⟨j',y,by omega,h2,h3⟩)
     cases bj
     ·simp[bx hF6.r3,hpo6,hlo6,hO3i']
      intro fs'' hfs''
      refine D_W rfl rfl fun m7 hm7 _=>?_
      obtain ⟨m8,hst8,hk8⟩:=fin m7 hm7
      simp at hst8
      simp[hst8]
      refine D_end fun m9 hm9 _=>?_
      simp[hw]
      exact ⟨q,by omega,hk8 m9 hm9⟩
     ·simp[bx hF6.r3,hpo6,hlo6,hO3i']
      intro fs'' hfs''
      refine D_W rfl rfl fun m7 hm7 _=>?_
      obtain ⟨m8,hst8,hk8⟩:=fin m7 hm7
      simp at hst8
      simp[hst8]
      refine D_end fun m9 hm9 _=>?_
      simp[hw]
      exact ⟨q,by omega,hk8 m9 hm9⟩
    ·have hi2:i<O2.length:=by rw[hI4.lenO];exact hi
     have hO2i:O2[i]=b:=by rw[List.getElem?_eq_getElem hi2] at hOb;simpa using hOb
     obtain ⟨bo4,oo4,_,hpo4,hlo4,_⟩:=hF4.oO.at hi2
     simp[bx hF4.r3,hpo4,hlo4,hO2i]
     have hbF:b=true↔FlexP l i:=by
      rw[hbf,hflex]
      constructor
      ·rintro (h1|⟨j,y,h1,h2,h3⟩)
       ·exact ⟨hr,.inl h1⟩
       ·have hym:y∈x.elems:=List.mem_of_getElem? h2
        have:=hg _ hxm _ hym
        exact ⟨hr,.inr ⟨y.toNat,⟨x,hlx,hr,by rw[Int.toNat_of_nonneg this.1];exact hym⟩,h3⟩⟩
      ·rintro ⟨_,h1|⟨z,⟨y,k1,k2,k3⟩,h2⟩⟩
       ·exact .inl h1
       ·rw[hlx] at k1;cases k1
        obtain ⟨j,hj,k4⟩:=List.mem_iff_getElem.1 k3
        exact .inr ⟨j,z,by omega,by rw[List.getElem?_eq_getElem hj,k4],by simpa using h2⟩
     have hbF':b=false∧ ¬FlexP l i∨b=true∧FlexP l i:=by cases b<;>simp at hbF<;>simp[hbF]
     refine ⟨hbF',hch4,K2,O2,hF4,⟨hI4.lenK,hI4.lenO,fun z hz hnb=>?_,hI4.rest,hI4.row⟩,hkeep4,.inl hKi⟩
     by_cases hzi:z=i
     ·subst hzi
      rw[hOb,Option.some.injEq];exact hbF
     ·exact hI4.done z hz fun h=>h.elim hnb hzi
end Go.Proofs.YtlniliigcnedmaaGreatDoor
namespace Go.Proofs.YtlniliigcnedmaaGreatDoor
open Go Ax
open Relation
set_option maxRecDepth 100000
theorem store_at {m:AMem} {b:Nat} {z v:AVal} {ty:TypeId} {g:Option Nat} (h:m[b]? =some (.own [z] ty g)) (h1:v.cells= [v]) (h3:v.one=true):storeE m 1 (.ptr b 0) v=some (.undef,m.set b (.own [v] ty g)):=by
 simp[storeE,h1,writeB,h,h3,setN]
theorem Ax.OwL.of_get {α:Type} {f:α→AVal} [hf:Cell f] {m:AMem} {b lo:Nat} {ty:TypeId} {xs:List α} (h:m[b]? =some (.own (xs.map f) ty none)) (hlo:lo≤b):OwL f lo m ty (.slice b 0 xs.length xs.length none) xs:=by
 refine .inr ⟨b,0,xs.length,none,xs.map f,none,rfl,hlo,h,?_,Nat.le_refl _,by simp,by simp[hf.one],.inl rfl⟩
 unfold readN
 rw[if_pos (by simp),List.drop_zero,List.take_of_length_le (by simp)]
set_option maxHeartbeats 4000000 in
theorem k101 (s:AVal) (l:List Md) (m:AMem) (hs:RTab m s l) (hg:goodT l) (ha:acyc l) (hn:l.length≤512) (hsz: ∀x∈l,smallN x):
  ACalls Tryz.prog 101 [s] m fun v m'=>m<+:m'∧ ∃O,OwL AVal.bool m.length m' 4 v O∧O.length=l.length∧ ∀(j:Nat),O[j]? =some true↔j<l.length∧FlexP l j:=by
 refine w101 ?_
 obtain ⟨hsl,hsc⟩:=hs.self
 have hc1:(l.length:Int)≤281474976710656:=by omega
 have hc2:(l.length:Int)≤9223372036854775807:=by omega
 simp[hsl,hsc,hs.len,hc1,hc2]
 have hb1:loadE (m++ [ABlk.own [s] 22 none]) 1 false (.ptr m.length 0)=some s:=by rw[bx (readB_new m [s] 22 none)];rfl
 rw[store_at (z:= .nilslice) (ty:=120) (g:=none) (by simp) rfl rfl]
 simp[List.set_append,loadE,readB,ABlk.cells,hs.len,hc1,hc2]
 rw[store_at (z:= .nilslice) (ty:=120) (g:=none) (by simp) rfl rfl]
 simp[List.set_append]
 rw[store_at (z:= .nilfunc) (ty:=56) (g:=none) (by simp) rfl rfl]
 simp[List.set_append,loadE,readB,ABlk.cells,hs.len]
 generalize hM:m++ [ABlk.own [s] 22 none,ABlk.own (List.replicate l.length (AVal.bool false)) 4 none,ABlk.own [AVal.slice (List.length m+1) 0 l.length l.length none] 120 none,ABlk.own (List.replicate l.length (AVal.bool false)) 4 none,ABlk.own [AVal.slice (List.length m+3) 0 l.length l.length none] 120 none,ABlk.own [AVal.func (Fn.func 136) [] [AVal.ptr (List.length m) 0,AVal.ptr (List.length m+4) 0,AVal.ptr (List.length m+2) 0,AVal.ptr (List.length m+5) 0]] 56 none]=M
 have g: ∀k,M[m.length+k]? =([ABlk.own [s] 22 none,ABlk.own (List.replicate l.length (AVal.bool false)) 4 none,ABlk.own [AVal.slice (List.length m+1) 0 l.length l.length none] 120 none,ABlk.own (List.replicate l.length (AVal.bool false)) 4 none,ABlk.own [AVal.slice (List.length m+3) 0 l.length l.length none] 120 none,ABlk.own [AVal.func (Fn.func 136) [] [AVal.ptr (List.length m) 0,AVal.ptr (List.length m+4) 0,AVal.ptr (List.length m+2) 0,AVal.ptr (List.length m+5) 0]] 56 none]:AMem)[k]? :=fun k=>by
  rw[←hM,List.getElem?_append_right (by omega)]
  congr 1
  omega
 have hrl:(List.replicate l.length false).length=l.length:=by simp
 have hF:FS s (.slice (m.length+3) 0 l.length l.length none) (.slice (m.length+1) 0 l.length l.length none) m.length (m.length+4) (m.length+2) (m.length+5) m.length m M (List.replicate l.length false) (List.replicate l.length false):=by
  refine ⟨by rw[←hM];exact List.prefix_append _ _,by have:=g 0;simp at this;simp[readB,this,ABlk.cells],by simp[readB,g 4,ABlk.cells],by simp[readB,g 2,ABlk.cells],by simp[readB,g 5,ABlk.cells],?_,?_⟩
  ·have:=OwL.of_get (f:=AVal.bool) (m:=M) (b:=m.length+3) (lo:=m.length) (ty:=4) (xs:=List.replicate l.length false) (by simp[g 3]) (by omega)
   rw[hrl] at this
   exact this
  ·have:=OwL.of_get (f:=AVal.bool) (m:=M) (b:=m.length+1) (lo:=m.length) (ty:=4) (xs:=List.replicate l.length false) (by simp[g 1]) (by omega)
   rw[hrl] at this
   exact this
 have hap:apart3 s (.slice (m.length+3) 0 l.length l.length none) (.slice (m.length+1) 0 l.length l.length none) m.length (m.length+4) (m.length+2) (m.length+5) m.length m:=by
  refine ⟨Nat.le_refl _,fun b hb=>?_,fun b hb=>?_⟩<;>simp[AVal.blk] at* <;>omega
 have hI0:FInv l (List.replicate l.length false) (List.replicate l.length false) (fun _=>False):=by
  have hx: ∀(j:Nat),(List.replicate l.length false)[j]? =some true→False:=fun j h=>by
   rw[List.getElem?_replicate] at h
   split at h<;>cases h
  exact ⟨by simp,by simp,fun j h=>(hx j h).elim,fun j h=>h,fun j _ _ h=>(hx j h).elim⟩
 generalize AVal.slice (m.length+3) 0 l.length l.length none=tk at*
 generalize AVal.slice (m.length+1) 0 l.length l.length none=to_ at*
 obtain ⟨I,hJ⟩: ∃I:Nat→AFrame→AMem→Prop,∀q a m',I q a m'↔(∃(k:Nat) (K O:List Bool),k+q=l.length∧a=h101_0 (.ptr (m.length+2) 0) (.ptr (m.length+5) 0) (.int .i64 l.length) (.int .i64 k)∧FS s tk to_ m.length (m.length+4) (m.length+2) (m.length+5) m.length m m' K O∧FInv l K O (fun _=>False)∧ ∀j x,j<k→l[j]? =some x→K[j]? =some true∨rowStruct x=false):=⟨_,fun _ _ _=>Iff.rfl⟩
 refine W_loop I l.length ((hJ _ _ _).2 ⟨0,_,_,by simp,rfl,hF,hI0,fun _ _ h=>by omega⟩) ?_
 clear hF hI0 g hM
 rintro q a m2 hIn
 obtain ⟨k,K,O,hk,rfl,hF,hI,hdone⟩:=(hJ _ _ _).1 hIn
 clear hIn
 simp
 refine bbind_dec (fun hkl=>?_) fun hkl=>?_
 ·have hw:=step64 hkl (by omega)
  obtain ⟨q,rfl⟩: ∃q',q=q'+1:=⟨q-1,by omega⟩
  simp[bx hF.r4]
  refine C_of (k136 s tk to_ _ _ _ _ _ l m hs hg ha hn hsz hap (hgt l k+1) k hkl (by omega) m2 K O _ hF hI (fun _ h=>h.elim)) ?_
  rintro _ m3 ⟨⟨b,rfl,hbf⟩,hch,K',O',hF',hI',hkeep,hki⟩
  simp[hw]
  refine ⟨q,by omega,(hJ _ _ _).2 ⟨k+1,K',O',by omega,by simp,hF',hI',fun j x hj hx=>?_⟩⟩
  by_cases hjk:j=k
  ·subst hjk
   exact hki.imp id fun h=>h x hx
  ·exact (hdone j x (by omega) hx).imp (fun h=>(hkeep j h).1) id
 ·simp[bx hF.r3]
  refine ⟨hF.hm,O,hF.oO,hI.lenO,fun j=>?_⟩
  by_cases hj:j<l.length
  ·have hlx:l[j]? =some l[j]:=List.getElem?_eq_getElem hj
   rcases hdone j _ (by omega) hlx with h|h
   ·rw[hI.done j h (fun h=>h)]
    exact ⟨fun h=>⟨hj,h⟩,And.right⟩
   ·have hK:K[j]? =some false:=by
     rw[List.getElem?_eq_getElem (by rw[hI.lenK];exact hj)]
     cases hc:K[j]'(by rw[hI.lenK];exact hj)
     ·rfl
     ·have:=hI.row j _ hlx (by rw[List.getElem?_eq_getElem (by rw[hI.lenK];exact hj),hc])
      rw[this] at h;cases h
    rw[hI.rest j hK,FlexP.iff hlx,h]
    simp
  ·rw[List.getElem?_eq_none (by rw[hI.lenO];omega)]
   simp[hj]
end Go.Proofs.YtlniliigcnedmaaGreatDoor
