/- Layer 22's laws.  Conditions: none beyond those stated. -/
import Derived.Test.YtodhalcpnmddjaaDoorRf2
import Derived.KernelRfl
import Derived.Test.YtodhalcpnmddjaaDoorProg
set_option linter.unusedSimpArgs false
set_option linter.unusedVariables false
set_option linter.unusedSectionVars false
namespace Go.Proofs.YtodhalcpnmddjaaDoor.Ax
open Go
inductive Tag {α:Type} (k:α):Type where
 |mk
@[simp] theorem ev_c (a:AFrame) (x:AVal):a.ev (.c x)=x:=rfl
@[simp] theorem putO_none (a:AFrame) (x:AVal):a.putO none x=a:=rfl
@[simp] theorem mat_length (nt:Nat) (sf:List (Nat×AVal)):(mat nt sf).length=nt:=by simp[mat]
theorem mat_getD (nt:Nat) (sf:List (Nat×AVal)) (n:Nat):(mat nt sf).getD n .undef=if n<nt then sget sf n else .undef:=by
 unfold mat
 by_cases h:n<nt<;>simp[h]
@[simp] theorem ev_mat (nt:Nat) (sf:List (Nat×AVal)) (n:Nat):(mat nt sf).ev (.t n)=if n<nt then sget sf n else .undef:=mat_getD nt sf n
@[simp] theorem putO_mat (nt:Nat) (sf:List (Nat×AVal)) (d:Nat) (x:AVal):(mat nt sf).putO (some d) x=mat nt ((d,x)::sf):=by
 show (mat nt sf).set d x=_
 refine List.ext_getElem? fun i=>?_
 rw[List.getElem?_set]
 unfold mat
 by_cases hi:i<nt
 ·by_cases hd:d=i
  ·subst hd;simp[hi,sget]
  ·simp[hi,hd,sget]
 ·by_cases hd:d=i
  ·subst hd;simp[hi]
  ·simp[hi,hd]
@[simp] theorem forget_mat (nt:Nat) (sf:List (Nat×AVal)) (l:List Nat):(mat nt sf).forget l=mat nt (l.map fun n=>(n,if n<nt then sget sf n else .undef)):=by
 unfold AFrame.forget
 simp only[mat_length,mat_getD]
attribute [simp] sget
def sArgs:Nat→List AVal→List (Nat×AVal)
 |_,[]=> []
 |i,x::xs=>(i,x)::sArgs (i+1) xs
attribute [simp] sArgs
theorem sget_sArgs: ∀(xs:List AVal) (i n:Nat),sget (sArgs i xs) n=if i≤n then (xs[n-i]?).getD .undef else .undef
 | [],i,n=>by simp[sArgs,sget]
 |x::xs,i,n=>by
  simp only[sArgs,sget]
  by_cases h:i=n
  ·subst h;simp
  ·rw[if_neg h,sget_sArgs xs (i+1) n]
   by_cases h1:i+1≤n
   ·rw[if_pos h1,if_pos (by omega)]
    obtain ⟨k,rfl⟩: ∃k,n=i+1+k:=⟨n-(i+1),by omega⟩
    rw[show i+1+k-i=k+1 by omega,show i+1+k-(i+1)=k by omega]
    simp
   ·rw[if_neg h1,if_neg (by omega)]
theorem mat_args (nt:Nat) (args:List AVal) (h:args.length≤nt):args++List.replicate (nt-args.length) .undef=mat nt (sArgs 0 args):=by
 refine List.ext_getElem? fun i=>?_
 unfold mat
 by_cases hi:i<nt
 ·rw[List.getElem?_map,List.getElem?_range hi,Option.map_some,sget_sArgs,if_pos (Nat.zero_le _),Nat.sub_zero]
  by_cases ha:i<args.length
  ·rw[List.getElem?_append_left ha,List.getElem?_eq_getElem ha];rfl
  ·rw[List.getElem?_append_right (by omega),List.getElem?_replicate,if_pos (by omega),List.getElem?_eq_none (by omega)];rfl
 ·rw[List.getElem?_eq_none (by simp;omega),List.getElem?_eq_none (by simp;omega)]
structure Hid (p:Prop):Prop where
 mk::
 out:p
theorem Hid.eq (p:Prop):Hid p=p:=propext ⟨Hid.out,Hid.mk⟩
def W (P:Program) (c:CC) (Q:AEx→AFrame→AMem→Prop) (_:Tag (c,Q)) (a:AFrame) (m:AMem):Prop:=Hid (c.wp P Q a m)
def L (P:Program) (K:AFrame→AMem→Prop) (is:List CI) (_:Tag (K,is)) (a:AFrame) (m:AMem):Prop:=Hid (CI.list P K is a m)
def S (P:Program) (K:AVal→AMem→Prop) (o:COp) (_:Tag (K,o)) (a:AFrame) (m:AMem):Prop:=Hid (o.step P K a m)
def obind {α:Type} (k:α→Prop) (_:Tag k) (o:Option α):Prop:=Hid (match o with|some x=>k x|none=>False)
def bbind (X Y:Prop) (_:Tag (X,Y)) (v:AVal):Prop:=Hid (match v with| .bool b=>(b=true→X)∧(b=false→Y)|_=>False)
def gbind (w:Bool) (X Y:Prop) (_:Tag (X,Y)) (v:AVal):Prop:=Hid (match gOf v w with|some true=>X|some false=>Y|none=>False)
def sel (g:Bool) (x:AVal):AVal:=if g then x else .tuple []
def gP (k:AVal→Prop) (_:Tag k) (w:Bool) (v:AVal) (o:Option AVal):Prop:=Hid (match gOf v w with|some true=>obind k .mk o|some false=>k (.tuple [])|none=>False)
def fbind (P:Program) (K:AVal→AMem→Prop) (_:Tag K) (v:AVal) (xs:List AVal) (m:AMem):Prop:=Hid (match v with| .func (.func g) fs cs=>ACalls P g (fs++xs++cs) m K| .func (.yield l) [] []=>AYields P l xs m K|_=>False)
def Y (P:Program) (K:AVal→AMem→Prop) (_:Tag K) (l:Nat) (xs:List AVal) (m:AMem):Prop:=Hid (AYields P l xs m K)
def C (P:Program) (K:AVal→AMem→Prop) (_:Tag K) (g:FuncId) (xs:List AVal) (m:AMem):Prop:=Hid (ACalls P g xs m K)
@[simp] theorem obind_some {α:Type} (x:α) (k:α→Prop) (t:Tag k):obind k t (some x)=k x:=Hid.eq _
@[simp] theorem bbind_true {X Y:Prop} (t:Tag (X,Y)):bbind X Y t (.bool true)=X:=by simp[bbind,Hid.eq]
@[simp] theorem bbind_false {X Y:Prop} (t:Tag (X,Y)):bbind X Y t (.bool false)=Y:=by simp[bbind,Hid.eq]
theorem bbind_intro {b:Bool} {X Y:Prop} {t:Tag (X,Y)} (hx:b=true→X) (hy:b=false→Y):bbind X Y t (.bool b):=⟨⟨hx,hy⟩⟩
theorem bbind_dec {p:Prop} [Decidable p] {X Y:Prop} {t:Tag (X,Y)} (hx:p→X) (hy: ¬p→Y):bbind X Y t (.bool (decide p)):=⟨⟨fun h=>hx (by simpa using h),fun h=>hy (by simpa using h)⟩⟩
@[simp] theorem sel_true (x:AVal):sel true x=x:=rfl
@[simp] theorem sel_false (x:AVal):sel false x= .tuple []:=rfl
@[simp] theorem sel_sel (g h:Bool) (x:AVal):sel g (sel h x)=sel (g&&h) x:=by cases g<;>cases h<;>rfl
@[simp] theorem gbind_tt {X Y:Prop} (t:Tag (X,Y)):gbind true X Y t (.bool true)=X:=Hid.eq _
@[simp] theorem gbind_ft {X Y:Prop} (t:Tag (X,Y)):gbind true X Y t (.bool false)=Y:=Hid.eq _
@[simp] theorem gbind_tf {X Y:Prop} (t:Tag (X,Y)):gbind false X Y t (.bool true)=Y:=Hid.eq _
@[simp] theorem gbind_ff {X Y:Prop} (t:Tag (X,Y)):gbind false X Y t (.bool false)=X:=Hid.eq _
@[simp] theorem gbind_no {w:Bool} {X Y:Prop} (t:Tag (X,Y)):gbind w X Y t (.tuple [])=Y:=Hid.eq _
@[simp] theorem gP_bool {k:AVal→Prop} (t:Tag k) (w b:Bool) (x:AVal):gP k t w (.bool b) (some x)=k (sel (b==w) x):=by
 cases b<;>cases w<;>simp[gP,gOf,Hid.eq]
@[simp] theorem gP_no {k:AVal→Prop} (t:Tag k) (w:Bool) (o:Option AVal):gP k t w (.tuple []) o=k (.tuple []):=Hid.eq _
@[simp] theorem gP_tt {k:AVal→Prop} (t:Tag k) (o:Option AVal):gP k t true (.bool true) o=obind k .mk o:=Hid.eq _
@[simp] theorem gP_ff {k:AVal→Prop} (t:Tag k) (o:Option AVal):gP k t false (.bool false) o=obind k .mk o:=Hid.eq _
@[simp] theorem gP_tf {k:AVal→Prop} (t:Tag k) (o:Option AVal):gP k t true (.bool false) o=k (.tuple []):=Hid.eq _
@[simp] theorem gP_ft {k:AVal→Prop} (t:Tag k) (o:Option AVal):gP k t false (.bool true) o=k (.tuple []):=Hid.eq _
@[simp] theorem gP_sel {k:AVal→Prop} (t:Tag k) (w g b:Bool) (x:AVal):gP k t w (sel g (.bool b)) (some x)=k (sel (g&&(b==w)) x):=by
 cases g
 ·simp[gP,gOf,Hid.eq]
 ·exact gP_bool t w b x
@[simp] theorem gOf_bool (w b:Bool):gOf (.bool b) w=some (b==w):=rfl
@[simp] theorem gOf_no (w:Bool):gOf (.tuple []) w=some false:=rfl
@[simp] theorem gOf_sel (w g b:Bool):gOf (sel g (.bool b)) w=some (g&&(b==w)):=by cases g<;>rfl
def pickE (c x y:AVal):Option AVal:=match c with| .bool b=>some (if b then x else y)|_=>none
theorem pickE_true (x y:AVal):pickE (.bool true) x y=some x:=rfl
theorem pickE_false (x y:AVal):pickE (.bool false) x y=some y:=rfl
theorem pickE_and {b g:Bool} {y:Bool} (h:b=true→g=true):pickE (.bool b) (sel g (.bool y)) (.bool false)=some (.bool (b&&y)):=by
 cases b
 ·rfl
 ·rw[h rfl];rfl
theorem pickE_or {b g:Bool} {y:Bool} (h:b=false→g=true):pickE (.bool b) (.bool true) (sel g (.bool y))=some (.bool (b||y)):=by
 cases b
 ·rw[h rfl];rfl
 ·rfl
theorem pickE_and' {b y:Bool}:pickE (.bool b) (.bool y) (.bool false)=some (.bool (b&&y)):=by cases b<;>rfl
theorem pickE_or' {b y:Bool}:pickE (.bool b) (.bool true) (.bool y)=some (.bool (b||y)):=by cases b<;>rfl
attribute [simp] pickE_true pickE_false pickE_and pickE_or pickE_and' pickE_or'
@[simp] theorem fbind_func {P:Program} {g:FuncId} {fs cs xs:List AVal} {m:AMem} {K:AVal→AMem→Prop} (t:Tag K):fbind P K t (.func (.func g) fs cs) xs m=C P K .mk g (fs++xs++cs) m:=_root_.id rfl
@[simp] theorem fbind_yield {P:Program} {l:Nat} {xs:List AVal} {m:AMem} {K:AVal→AMem→Prop} (t:Tag K):fbind P K t (.func (.yield l) [] []) xs m=Y P K .mk l xs m:=_root_.id rfl
theorem Y_of {P:Program} {K:AVal→AMem→Prop} {t:Tag K} {l:Nat} {xs:List AVal} {m:AMem} {R:AVal→AMem→Prop} (h:AYields P l xs m R) (hk: ∀v m',R v m'→K v m'):Y P K t l xs m:=⟨h.mono hk⟩
theorem C_of {P:Program} {K:AVal→AMem→Prop} {t:Tag K} {g:FuncId} {xs:List AVal} {m:AMem} {R:AVal→AMem→Prop} (h:ACalls P g xs m R) (hk: ∀v m',R v m'→K v m'):C P K t g xs m:=⟨h.mono hk⟩
section
variable {P:Program} {Q:AEx→AFrame→AMem→Prop} {a a':AFrame} {m m':AMem}
@[simp] theorem W_skip (t:Tag (CC.skip,Q)):W P .skip Q t a m=Q .normal a m:=Hid.eq _
@[simp] theorem W_reg {is:List CI} (t:Tag (CC.reg is,Q)):W P (.reg is) Q t a m=L P (Q .normal) is .mk a m:=_root_.id rfl
@[simp] theorem W_seq {x y:CC} (t:Tag (CC.seq x y,Q)):W P (.seq x y) Q t a m=W P x (AEx.then (fun a m=>W P y Q .mk a m) Q) .mk a m:=by simp only[W,CC.wp,Hid.eq]
@[simp] theorem W_block {id:Nat} {x:CC} (t:Tag (CC.block id x,Q)):W P (.block id x) Q t a m=W P x (AEx.inBlock id Q) .mk a m:=_root_.id rfl
@[simp] theorem W_exit {id:Nat} (t:Tag (CC.exit id,Q)):W P (.exit id) Q t a m=Q (.exit id) a m:=Hid.eq _
@[simp] theorem W_ret (t:Tag (CC.ret,Q)):W P .ret Q t a m=Q .ret a m:=Hid.eq _
@[simp] theorem W_kill {l:List Nat} {x:CC} (t:Tag (CC.kill l x,Q)):W P (.kill l x) Q t a m=W P x Q .mk (a.forget l) m:=_root_.id rfl
@[simp] theorem W_fin {l:List Nat} {x:CC} (t:Tag (CC.fin l x,Q)):W P (.fin l x) Q t a m=W P x (AEx.then (fun a m=>Q .normal (a.forget l) m) Q) .mk a m:=_root_.id rfl
@[simp] theorem W_cond {c:Arg} {x y:CC} (t:Tag (CC.cond c x y,Q)):W P (.cond c x y) Q t a m=bbind (W P x Q .mk a m) (W P y Q .mk a m) .mk (a.ev c):=by simp only[W,bbind,CC.wp,Hid.eq];rfl
@[simp] theorem then_normal {next:AFrame→AMem→Prop}:AEx.then next Q .normal=next:=_root_.id rfl
@[simp] theorem then_exit {next:AFrame→AMem→Prop} {id:Nat}:AEx.then next Q (.exit id)=Q (.exit id):=_root_.id rfl
@[simp] theorem then_ret {next:AFrame→AMem→Prop}:AEx.then next Q .ret=Q .ret:=_root_.id rfl
@[simp] theorem inBlock_normal {id:Nat}:AEx.inBlock id Q .normal=Q .normal:=_root_.id rfl
@[simp] theorem inBlock_exit {id k:Nat}:AEx.inBlock id Q (.exit k)=if k=id then Q .normal else Q (.exit k):=_root_.id rfl
@[simp] theorem inBlock_ret {id:Nat}:AEx.inBlock id Q .ret=Q .ret:=_root_.id rfl
variable {K:AFrame→AMem→Prop} {J:AVal→AMem→Prop}
@[simp] theorem L_nil (t:Tag (K,([]:List CI))):L P K [] t a m=K a m:=Hid.eq _
@[simp] theorem L_cons {d:Option Nat} {o:COp} {r:List CI} (t:Tag (K,(⟨d,o,none⟩::r:List CI))):L P K (⟨d,o,none⟩::r) t a m=S P (fun x m'=>L P K r .mk (a.putO d x) m') o .mk a m:=by simp only[L,S,CI.list,CI.step,Hid.eq]
theorem L_guard {d:Option Nat} {o:COp} {n:Nat} {w:Bool} {r:List CI} (t:Tag (K,(⟨d,o,some (n,w)⟩::r:List CI))):L P K (⟨d,o,some (n,w)⟩::r) t a m=gbind w (S P (fun x m'=>L P K r .mk (a.putO d x) m') o .mk a m) (L P K r .mk (a.putO d (.tuple [])) m) .mk (a.ev (.t n)):=by
 simp only[gbind,L,S,CI.list,CI.step,Hid.eq]
 cases gOf (a.ev (.t n)) w with
 |none=>rfl
 |some b=>cases b<;>rfl
@[simp] theorem L_guardC {d:Option Nat} {f:Arg} {xs:List Arg} {n:Nat} {w:Bool} {r:List CI} (t:Tag (K,(⟨d,.C f xs,some (n,w)⟩::r:List CI))):L P K (⟨d,.C f xs,some (n,w)⟩::r) t a m=gbind w (S P (fun x m'=>L P K r .mk (a.putO d x) m') (.C f xs) .mk a m) (L P K r .mk (a.putO d (.tuple [])) m) .mk (a.ev (.t n)):=L_guard _
@[simp] theorem L_guardA {d:Option Nat} {p:AOp} {n:Nat} {w:Bool} {r:List CI} (t:Tag (K,(⟨d,.A p,some (n,w)⟩::r:List CI))):L P K (⟨d,.A p,some (n,w)⟩::r) t a m=gbind w (S P (fun x m'=>L P K r .mk (a.putO d x) m') (.A p) .mk a m) (L P K r .mk (a.putO d (.tuple [])) m) .mk (a.ev (.t n)):=L_guard _
@[simp] theorem L_guardW {d:Option Nat} {p:WOp} {n:Nat} {w:Bool} {r:List CI} (t:Tag (K,(⟨d,.W p,some (n,w)⟩::r:List CI))):L P K (⟨d,.W p,some (n,w)⟩::r) t a m=gbind w (S P (fun x m'=>L P K r .mk (a.putO d x) m') (.W p) .mk a m) (L P K r .mk (a.putO d (.tuple [])) m) .mk (a.ev (.t n)):=L_guard _
@[simp] theorem L_guardP {d:Option Nat} {p:POp} {n:Nat} {w:Bool} {r:List CI} (t:Tag (K,(⟨d,.P p,some (n,w)⟩::r:List CI))):L P K (⟨d,.P p,some (n,w)⟩::r) t a m=gP (fun x=>L P K r .mk (a.putO d x) m) .mk w (a.ev (.t n)) (p.ev a):=by
 rw[L_guard]
 unfold gbind gP
 cases gOf (a.ev (.t n)) w with
 |none=>rfl
 |some b=>
  cases b with
  |false=>rfl
  |true=>simp only[S,COp.step,obind];cases p.ev a<;>rfl
@[simp] theorem L_guardR {d:Option Nat} {p:ROp} {n:Nat} {w:Bool} {r:List CI} (t:Tag (K,(⟨d,.R p,some (n,w)⟩::r:List CI))):L P K (⟨d,.R p,some (n,w)⟩::r) t a m=gP (fun x=>L P K r .mk (a.putO d x) m) .mk w (a.ev (.t n)) (p.ev a m):=by
 rw[L_guard]
 unfold gbind gP
 cases gOf (a.ev (.t n)) w with
 |none=>rfl
 |some b=>
  cases b with
  |false=>rfl
  |true=>simp only[S,COp.step,obind];cases p.ev a m<;>rfl
@[simp] theorem S_P {p:POp} (t:Tag (J,COp.P p)):S P J (.P p) t a m=obind (fun x=>J x m) .mk (p.ev a):=by simp only[S,COp.step,obind];cases p.ev a<;>rfl
@[simp] theorem S_R {p:ROp} (t:Tag (J,COp.R p)):S P J (.R p) t a m=obind (fun x=>J x m) .mk (p.ev a m):=by simp only[S,COp.step,obind];cases p.ev a m<;>rfl
@[simp] theorem S_A {p:AOp} (t:Tag (J,COp.A p)):S P J (.A p) t a m=obind (fun t=>J (t.2.2 m.length) (m++ [.own t.1 t.2.1 none])) .mk (p.ev a):=by simp only[S,COp.step,obind];cases p.ev a<;>rfl
@[simp] theorem S_W {p:WOp} (t:Tag (J,COp.W p)):S P J (.W p) t a m=obind (fun t=>J t.1 t.2) .mk (p.ev a m):=by simp only[S,COp.step,obind];cases p.ev a m<;>rfl
@[simp] theorem S_C {f:Arg} {xs:List Arg} (t:Tag (J,COp.C f xs)):S P J (.C f xs) t a m=fbind P J .mk (a.ev f) (xs.map a.ev) m:=_root_.id rfl
theorem W_loop {x:CC} {t:Tag (CC.loop x,Q)} (I:Nat→AFrame→AMem→Prop) (n:Nat) (h0:I n a m) (hr: ∀n a m,I n a m→W P x (AEx.then (fun a' m'=> ∃n',n'<n∧I n' a' m') Q) .mk a m):W P (.loop x) Q t a m:=⟨⟨I,⟨n,h0⟩,fun n a m h=>(hr n a m h).out⟩⟩
theorem W_rfn {g:Arg} {ps:List Nat} {x y:CC} {t:Tag (CC.rfn g ps x y,Q)} {gf:FuncId} {cs:List AVal} (hag:a.ev g= .func (.func gf) [] cs)
  (h: ∀(l:Nat) (R B:ABlk) (X:AEx→ABlk),
   (∀(asv:List AVal) (m':AMem) (K:AVal→AMem→Prop),asv.length=ps.length→m'[m.length]? =some R→
    W P x (AEx.then (fun a' m2=>m2[m.length]? =some R∧W P y (rndPost m.length R B X K) .mk a' (m2.set m.length B)) (fun _ _ _=>False)) .mk (a.puts ps asv) m'→AYields P l asv m' K)→
   ACalls P gf (.func (.yield l) [] []::cs) (m++ [R]) fun _ m'=>
    (m'[m.length]? =some R∧Q .normal a (m'.set m.length .dead))∨ ∃e,e≠AEx.normal∧m'[m.length]? =some (X e)∧Q e a (m'.set m.length .dead)):W P (.rfn g ps x y) Q t a m:=
 ⟨⟨gf,cs,hag,fun l R B X hY=>h l R B X fun asv m' K h1 h2 h3=>hY asv m' K h1 h2 (by simpa only[W,Hid.eq] using h3)⟩⟩
@[simp] theorem rnd_normal {i:Nat} {R B:ABlk} {X:AEx→ABlk} {J:AVal→AMem→Prop}:rndPost i R B X J .normal a m=(m[i]? =some B∧J (.bool true) (m.set i R)):=_root_.id rfl
@[simp] theorem rnd_ret {i:Nat} {R B:ABlk} {X:AEx→ABlk} {J:AVal→AMem→Prop}:rndPost i R B X J .ret a m=(m[i]? =some B∧J (.bool false) (m.set i (X .ret))):=_root_.id rfl
@[simp] theorem rnd_exit {i k:Nat} {R B:ABlk} {X:AEx→ABlk} {J:AVal→AMem→Prop}:rndPost i R B X J (.exit k) a m=(m[i]? =some B∧J (.bool false) (m.set i (X (.exit k)))):=_root_.id rfl
end
def E (rs:List ARes) (R:AVal→AMem→Prop) (_:Tag R):AEx→AFrame→AMem→Prop:=retPost rs R
@[simp] theorem E_ret {rs:List ARes} {R:AVal→AMem→Prop} {a:AFrame} {m:AMem} (t:Tag R):E rs R t .ret a m=obind (fun v=>R v m) .mk (resOf a m rs):=by simp only[E,retPost,obind,Hid.eq];cases resOf a m rs<;>rfl
@[simp] theorem E_normal {rs:List ARes} {R:AVal→AMem→Prop} {a:AFrame} {m:AMem} (t:Tag R):E rs R t .normal a m=obind (fun v=>R v m) .mk (resOf a m rs):=by simp only[E,retPost,obind,Hid.eq];cases resOf a m rs<;>rfl
theorem walk {P:Program} (hmix:P.follows .mixedOrders=true) {f:FuncId} {nt:Nat} {body:CC} {res:List ARes} (hc:cFn P f=some ⟨nt,body.erase,res⟩) {args:List AVal} {m:AMem} {R:AVal→AMem→Prop}
  (hl:args.length≤nt) (h:W P body (E res R .mk) .mk (mat nt (sArgs 0 args)) m):ACalls P f args m R:=enter (cf:=⟨nt,body,res⟩) hmix hc (by rw[mat_args nt args hl];exact h.out)
def unE (op:UnOp) (v:AVal):Option AVal:=match op,v with
 | .neg,.int k n=>some (.int k (k.wrap (0-n)))
 | .not,.bool b=>some (.bool (!b))
 |_,_=>none
def faddrE (off:Nat):AVal→Option AVal
 | .ptr b o=>some (.ptr b (o+off))
 |_=>none
def fieldE (off size:Nat) (agg:Bool):AVal→Option AVal
 | .agg cs=>if agg then (readN cs off size).map .agg else cs[off]?
 |_=>none
def iaddrE (esz:Nat) (v i:AVal):Option AVal:=match v,i with
 | .slice b o l _ _,.int _ n=>if 0≤n∧n<l then some (.ptr b (o+n.toNat*esz)) else none
 |_,_=>none
def ixsE (v i:AVal):Option AVal:=match v,i with
 | .str s,.int _ n=>(if 0≤n then s[n.toNat]? else none).map fun b=> .int .u8 b.toNat
 |_,_=>none
def extE (i:Nat):AVal→Option AVal
 | .tuple vs=>vs[i]?
 |_=>none
def lenE:AVal→Option AVal
 | .nilslice=>some (.int .i64 0)
 | .slice _ _ n _ _=>some (.int .i64 n)
 |_=>none
def lenSE:AVal→Option AVal
 | .str s=>some (.int .i64 s.size)
 |_=>none
def loadE (m:AMem) (n:Nat) (agg:Bool):AVal→Option AVal
 | .ptr b o=>(readB m b).bind fun cs=>if agg then (readN cs o n).map .agg else cs[o]?
 | .gptr g o=>if agg then none else (gcells g).bind fun cs=>cs[o]?
 |_=>none
def sdataE:AVal→Option AVal
 | .nilslice=>some .nilptr
 | .slice b o n _ _=>if 0<n then some (.ptr b o) else none
 |_=>none
def storeE (m:AMem) (n:Nat) (p v:AVal):Option (AVal×AMem):=match p with
 | .ptr b o=>if v.cells.length=n then (writeB m b o v.cells).map fun m'=>(.undef,m') else none
 |_=>none
section
variable (a:AFrame) (m:AMem)
@[simp] theorem ev_mov (x:Arg):POp.ev a (.mov x)=some (a.ev x):=rfl
@[simp] theorem ev_pick (c x y:Arg):POp.ev a (.pick c x y)=pickE (a.ev c) (a.ev x) (a.ev y):=rfl
@[simp] theorem ev_bin (op:BinOp) (x y:Arg):POp.ev a (.bin op x y)=binE op (a.ev x) (a.ev y):=rfl
@[simp] theorem ev_eqB (n:Bool) (x y:Arg):POp.ev a (.eqB n x y)=match a.ev x,a.ev y with| .bool b,.bool c=>some (.bool (if n then b !=c else b==c))|_,_=>none:=rfl
@[simp] theorem ev_eqS (n:Bool) (ks:List Bool) (x y:Arg):POp.ev a (.eqS n ks x y)=match a.ev x,a.ev y with| .agg xs,.agg ys=>(eqC ks xs ys).map fun b=> .bool (if n then !b else b)|_,_=>none:=rfl
@[simp] theorem ev_eqN (k:NilKind) (n:Bool) (x:Arg):POp.ev a (.eqN k n x)=(isNilOf k (a.ev x)).map fun b=> .bool (if n then !b else b):=rfl
@[simp] theorem ev_un (op:UnOp) (x:Arg):POp.ev a (.un op x)=unE op (a.ev x):=by cases op<;>simp only[POp.ev,unE]<;>split<;>simp_all
@[simp] theorem ev_i2i (k:IntKind) (x:Arg):POp.ev a (.i2i k x)=match a.ev x with| .int _ n=>some (.int k (k.wrap n))|_=>none:=rfl
@[simp] theorem ev_build (z:List AVal) (ps:List (Nat×Nat×Arg)):POp.ev a (.build z ps)=(fillA z (ps.map fun p=>(p.1,p.2.1,a.ev p.2.2))).map .agg:=rfl
@[simp] theorem ev_faddr (o:Nat) (x:Arg):POp.ev a (.faddr o x)=faddrE o (a.ev x):=rfl
@[simp] theorem ev_field (o n:Nat) (g:Bool) (x:Arg):POp.ev a (.field o n g x)=fieldE o n g (a.ev x):=rfl
@[simp] theorem ev_iaddr (n:Nat) (x i:Arg):POp.ev a (.iaddr n x i)=iaddrE n (a.ev x) (a.ev i):=rfl
@[simp] theorem ev_ixs (x i:Arg):POp.ev a (.ixs x i)=ixsE (a.ev x) (a.ev i):=rfl
@[simp] theorem ev_ext (x:Arg) (i:Nat):POp.ev a (.ext x i)=extE i (a.ev x):=rfl
@[simp] theorem ev_mkfn (f:Fn) (fs cs:List Arg):POp.ev a (.mkfn f fs cs)=some (.func f (fs.map a.ev) (cs.map a.ev)):=rfl
@[simp] theorem ev_len (x:Arg):POp.ev a (.len x)=lenE (a.ev x):=rfl
@[simp] theorem ev_lenS (x:Arg):POp.ev a (.lenS x)=lenSE (a.ev x):=rfl
@[simp] theorem ev_max (x y:Arg):POp.ev a (.max x y)=match a.ev x,a.ev y with| .int k n,.int _ m=>some (.int k (if m>n then m else n))|_,_=>none:=rfl
@[simp] theorem ev_sdata (x:Arg):POp.ev a (.sdata x)=sdataE (a.ev x):=rfl
@[simp] theorem ev_eqP (g:Bool) (x y:Arg):POp.ev a (.eqP g x y)=(ptrEq (a.ev x) (a.ev y)).map fun b=> .bool (if g then !b else b):=rfl
@[simp] theorem ev_rk (k:RK) (x:Arg):ROp.ev a m (.rk k x)=rkE m k (a.ev x):=rfl
@[simp] theorem ev_ustr (e:TypeId) (x n:Arg):WOp.ev a m (.ustr e x n)=ustrE m e (a.ev x) (a.ev n):=rfl
@[simp] theorem ev_load (n:Nat) (g:Bool) (x:Arg):ROp.ev a m (.load n g x)=loadE m n g (a.ev x):=rfl
@[simp] theorem ev_store (n:Nat) (x v:Arg):WOp.ev a m (.store n x v)=storeE m n (a.ev x) (a.ev v):=rfl
@[simp] theorem ev_lookup (z:AVal) (ok:Bool) (x k:Arg):ROp.ev a m (.lookup z ok x k)=lookupE m z ok (a.ev x) (a.ev k):=rfl
@[simp] theorem ev_mkmap:WOp.ev a m .mkmap=some (.map m.length,m++ [.mp []]):=rfl
@[simp] theorem ev_mapset (x k v:Arg):WOp.ev a m (.mapset x k v)=mapsetE m (a.ev x) (a.ev k) (a.ev v):=rfl
@[simp] theorem ev_growz (n by_:Nat) (ty:TypeId) (z:List AVal) (s x:Arg):WOp.ev a m (.growz n by_ ty z s x)=growE m n by_ ty z (a.ev s) (a.ev x):=rfl
@[simp] theorem ev_append (n by_:Nat) (ty:TypeId) (s x:Arg):WOp.ev a m (.append n by_ ty false s x)=(sliceCells m n (a.ev x)).bind fun xs=>appendE m n by_ ty (a.ev s) xs.1 xs.2:=by simp[WOp.ev]
end
@[simp] theorem unE_not (b:Bool):unE .not (.bool b)=some (.bool (!b)):=rfl
@[simp] theorem unE_neg (k:IntKind) (n:Int):unE .neg (.int k n)=some (.int k (k.wrap (0-n))):=rfl
@[simp] theorem faddrE_ptr (o b p:Nat):faddrE o (.ptr b p)=some (.ptr b (p+o)):=rfl
@[simp] theorem extE_tuple (i:Nat) (vs:List AVal):extE i (.tuple vs)=vs[i]? :=rfl
@[simp] theorem fieldE_agg (o n:Nat) (cs:List AVal):fieldE o n false (.agg cs)=cs[o]? :=rfl
@[simp] theorem fieldE_agg' (o n:Nat) (cs:List AVal):fieldE o n true (.agg cs)=(readN cs o n).map .agg:=rfl
@[simp] theorem lenE_nil:lenE .nilslice=some (.int .i64 0):=rfl
@[simp] theorem lenE_slice (b o n c:Nat) (g:Option Nat):lenE (.slice b o n c g)=some (.int .i64 n):=rfl
@[simp] theorem lenSE_str (s:ByteArray):lenSE (.str s)=some (.int .i64 s.size):=rfl
@[simp] theorem one_int (k:IntKind) (n:Int):(AVal.int k n).one=true:=rfl
@[simp] theorem one_bool (b:Bool):(AVal.bool b).one=true:=rfl
@[simp] theorem one_str (s:ByteArray):(AVal.str s).one=true:=rfl
@[simp] theorem one_nil:AVal.nilslice.one=true:=rfl
@[simp] theorem one_slice (b o n c:Nat) (g:Option Nat):(AVal.slice b o n c g).one=true:=rfl
@[simp] theorem one_ptr (b o:Nat):(AVal.ptr b o).one=true:=rfl
@[simp] theorem one_nilptr:AVal.nilptr.one=true:=rfl
@[simp] theorem one_map (b:Nat):(AVal.map b).one=true:=rfl
@[simp] theorem cells_nilptr:AVal.nilptr.cells= [.nilptr]:=rfl
@[simp] theorem cells_map (b:Nat):(AVal.map b).cells= [.map b]:=rfl
@[simp] theorem cells_int (k:IntKind) (n:Int):(AVal.int k n).cells= [.int k n]:=rfl
@[simp] theorem cells_bool (b:Bool):(AVal.bool b).cells= [.bool b]:=rfl
@[simp] theorem cells_str (s:ByteArray):(AVal.str s).cells= [.str s]:=rfl
@[simp] theorem cells_nil:AVal.nilslice.cells= [.nilslice]:=rfl
@[simp] theorem cells_slice (b o n c:Nat) (g:Option Nat):(AVal.slice b o n c g).cells= [.slice b o n c g]:=rfl
@[simp] theorem cells_ptr (b o:Nat):(AVal.ptr b o).cells= [.ptr b o]:=rfl
@[simp] theorem cells_agg (cs:List AVal):(AVal.agg cs).cells=cs:=rfl
attribute [simp] rkE ptrEq
attribute [simp] binE AOp.ev resOf resEv ARes.ev binInt isNilOf
theorem wrap64 {x:Int} (h1: -9223372036854775808≤x) (h2:x<9223372036854775808):IntKind.i64.wrap x=x:=by
 simp only[IntKind.wrap,IntKind.bits,IntKind.signed,Bool.true_and,decide_eq_true_eq,ge_iff_le,Nat.reduceSub,Int.reducePow]
 split<;>omega
end Go.Proofs.YtodhalcpnmddjaaDoor.Ax
namespace Go.Proofs.YtodhalcpnmddjaaDoor.Ax
open Go
def Sl (m:AMem) (esz:Nat) (s:AVal) (n:Nat) (cs:List AVal):Prop:=
 (s= .nilslice∧n=0∧cs= [])∨ ∃b o cap gr,s= .slice b o n cap gr∧(n≤cap∧(gr=none∨gr=some esz))∧((n=0∧cs= [])∨(n≠0∧ ∃bl,readB m b=some bl∧readN bl o (n*esz)=some cs))
theorem Sl.mono {m m':AMem} {esz:Nat} {s:AVal} {n:Nat} {cs:List AVal} (h:Sl m esz s n cs) (hm:m<+:m'):Sl m' esz s n cs:=by
 rcases h with h|⟨b,o,cap,gr,h1,hcg,h2|⟨h2,bl,h3,h4⟩⟩
 ·exact .inl h
 ·exact .inr ⟨b,o,cap,gr,h1,hcg,.inl h2⟩
 ·exact .inr ⟨b,o,cap,gr,h1,hcg,.inr ⟨h2,bl,readB_mono hm h3,h4⟩⟩
theorem Sl.len {m:AMem} {esz:Nat} {s:AVal} {n:Nat} {cs:List AVal} (h:Sl m esz s n cs):lenE s=some (.int .i64 n):=by
 rcases h with ⟨rfl,rfl,_⟩|⟨b,o,cap,gr,rfl,_⟩<;>rfl
theorem Sl.nil {m:AMem} {esz:Nat}:Sl m esz .nilslice 0 []:= .inl ⟨rfl,rfl,rfl⟩
theorem readN_length {cs ys:List AVal} {o n:Nat} (h:readN cs o n=some ys):ys.length=n:=by
 unfold readN at h
 split at h
 ·simp only[Option.some.injEq] at h;subst h;simp;omega
 ·simp at h
theorem Sl.length {m:AMem} {esz:Nat} {s:AVal} {n:Nat} {cs:List AVal} (h:Sl m esz s n cs):cs.length=n*esz:=by
 rcases h with ⟨_,rfl,rfl⟩|⟨b,o,cap,gr,_,_,⟨rfl,rfl⟩|⟨_,bl,_,h⟩⟩
 ·simp
 ·simp
 ·exact readN_length h
theorem readN_get {cs ys:List AVal} {o n:Nat} (h:readN cs o n=some ys) {i:Nat} (hi:i<n):cs[o+i]? =ys[i]? :=by
 unfold readN at h
 split at h
 ·simp only[Option.some.injEq] at h;subst h;rw[List.getElem?_take,if_pos hi,List.getElem?_drop]
 ·simp at h
theorem readN_sub {cs ys:List AVal} {o n:Nat} (h:readN cs o n=some ys) {i k:Nat} (hi:i+k≤n):readN cs (o+i) k=some ((ys.drop i).take k):=by
 unfold readN at h ⊢
 split at h
 ·simp only[Option.some.injEq] at h
  subst h
  rw[if_pos (by omega)]
  congr 1
  rw[List.drop_take,List.drop_drop,List.take_take]
  congr 1
  omega
 ·simp at h
theorem Sl.at {m:AMem} {esz:Nat} {s:AVal} {n:Nat} {cs:List AVal} (h:Sl m esz s n cs) {i:Nat} (hi:i<n):
  ∃b o,(∀k,iaddrE esz s (.int k i)=some (.ptr b o))∧(∀j,j<esz→loadE m 1 false (.ptr b (o+j))=cs[i*esz+j]?)∧loadE m esz true (.ptr b o)=some (.agg ((cs.drop (i*esz)).take esz)):=by
 rcases h with ⟨_,rfl,_⟩|⟨b,o,cap,gr,rfl,_,⟨rfl,rfl⟩|⟨h2,bl,h3,h4⟩⟩
 ·omega
 ·omega
 ·have hle:i*esz+esz≤n*esz:=by
   rw[←Nat.succ_mul]
   exact Nat.mul_le_mul_right _ hi
  refine ⟨b,o+i*esz,fun k=>?_,fun j hj=>?_,?_⟩
  ·simp[iaddrE,hi]
  ·simp only[loadE,h3,Option.bind_some,Bool.false_eq_true,if_false]
   rw[Nat.add_assoc]
   exact readN_get h4 (by omega)
  ·simp only[loadE,h3,Option.bind_some,if_true]
   rw[readN_sub h4 hle]
   rfl
def RInts (m:AMem) (s:AVal) (xs:List Int):Prop:=Sl m 1 s xs.length (xs.map fun x=> .int .i64 x)
def RStrs (m:AMem) (s:AVal) (xs:List ByteArray):Prop:=Sl m 1 s xs.length (xs.map fun x=> .str x)
def RBools (m:AMem) (s:AVal) (xs:List Bool):Prop:=Sl m 1 s xs.length (xs.map fun x=> .bool x)
theorem RInts.mono {m m':AMem} {s:AVal} {xs:List Int} (h:RInts m s xs) (hm:m<+:m'):RInts m' s xs:=Sl.mono h hm
theorem RStrs.mono {m m':AMem} {s:AVal} {xs:List ByteArray} (h:RStrs m s xs) (hm:m<+:m'):RStrs m' s xs:=Sl.mono h hm
theorem RBools.mono {m m':AMem} {s:AVal} {xs:List Bool} (h:RBools m s xs) (hm:m<+:m'):RBools m' s xs:=Sl.mono h hm
theorem RInts.len {m:AMem} {s:AVal} {xs:List Int} (h:RInts m s xs):lenE s=some (.int .i64 xs.length):=Sl.len h
theorem RStrs.len {m:AMem} {s:AVal} {xs:List ByteArray} (h:RStrs m s xs):lenE s=some (.int .i64 xs.length):=Sl.len h
theorem RBools.len {m:AMem} {s:AVal} {xs:List Bool} (h:RBools m s xs):lenE s=some (.int .i64 xs.length):=Sl.len h
theorem RInts.at {m:AMem} {s:AVal} {xs:List Int} (h:RInts m s xs) {i:Nat} (hi:i<xs.length):
  ∃b o,(∀k,iaddrE 1 s (.int k i)=some (.ptr b o))∧loadE m 1 false (.ptr b o)=some (.int .i64 xs[i]):=by
 obtain ⟨b,o,h1,h2,_⟩:=Sl.at h hi
 exact ⟨b,o,h1,by have:=h2 0 (by omega);simpa[hi] using this⟩
theorem RStrs.at {m:AMem} {s:AVal} {xs:List ByteArray} (h:RStrs m s xs) {i:Nat} (hi:i<xs.length):
  ∃b o,(∀k,iaddrE 1 s (.int k i)=some (.ptr b o))∧loadE m 1 false (.ptr b o)=some (.str xs[i]):=by
 obtain ⟨b,o,h1,h2,_⟩:=Sl.at h hi
 exact ⟨b,o,h1,by have:=h2 0 (by omega);simpa[hi] using this⟩
theorem RBools.at {m:AMem} {s:AVal} {xs:List Bool} (h:RBools m s xs) {i:Nat} (hi:i<xs.length):
  ∃b o,(∀k,iaddrE 1 s (.int k i)=some (.ptr b o))∧loadE m 1 false (.ptr b o)=some (.bool xs[i]):=by
 obtain ⟨b,o,h1,h2,_⟩:=Sl.at h hi
 exact ⟨b,o,h1,by have:=h2 0 (by omega);simpa[hi] using this⟩
end Go.Proofs.YtodhalcpnmddjaaDoor.Ax
namespace Go.Proofs.YtodhalcpnmddjaaDoor.Ax
open Go
structure Ch (S:Nat→Prop) (m m':AMem):Prop where
 len:m.length≤m'.length
 keep: ∀b blk,m[b]? =some blk→ ¬S b→m'[b]? =some blk
theorem Ch.refl (S:Nat→Prop) (m:AMem):Ch S m m:=⟨Nat.le_refl _,fun _ _ h _=>h⟩
theorem Ch.trans {S:Nat→Prop} {m m' m'':AMem} (h:Ch S m m') (h':Ch S m' m''):Ch S m m'':=⟨Nat.le_trans h.len h'.len,fun b blk k1 k2=>h'.keep b blk (h.keep b blk k1 k2) k2⟩
theorem Ch.weaken {S T:Nat→Prop} {m m':AMem} (h:Ch S m m') (hs: ∀b,b<m.length→S b→T b):Ch T m m':=⟨h.len,fun b blk k1 k2=>h.keep b blk k1 fun k=>k2 (hs b (List.getElem?_eq_some_iff.1 k1).1 k)⟩
theorem Ch.of_prefix {S:Nat→Prop} {m m':AMem} (h:m<+:m'):Ch S m m':=by
 refine ⟨h.length_le,fun b blk k1 _=>?_⟩
 obtain ⟨l,rfl⟩:=h
 rw[List.getElem?_append_left (List.getElem?_eq_some_iff.1 k1).1]
 exact k1
theorem Ch.pre {S:Nat→Prop} {m0 m m':AMem} (h:Ch S m m') (hp:m0<+:m) (hs: ∀b,b<m0.length→ ¬S b):m0<+:m':=by
 obtain ⟨l,rfl⟩:=hp
 refine List.prefix_iff_eq_take.2 (List.ext_getElem? fun i=>?_)
 rw[List.getElem?_take]
 split
 ·rename_i hi
  have h0:m0[i]? =some m0[i]:=List.getElem?_eq_getElem hi
  rw[h.keep i m0[i] (by rw[List.getElem?_append_left hi];exact h0) (hs i hi),h0]
 ·rename_i hi
  exact List.getElem?_eq_none (by omega)
theorem Ch.push {S:Nat→Prop} {m m':AMem} (h:Ch S m m') (x:List ABlk):Ch S m (m'++x):=h.trans (.of_prefix (List.prefix_append _ _))
theorem Ch.set {S:Nat→Prop} {m m':AMem} (h:Ch S m m') {b:Nat} (hb:S b∨m.length≤b) (x:ABlk):Ch S m (m'.set b x):=by
 refine ⟨by simpa using h.len,fun c blk k1 k2=>?_⟩
 rw[List.getElem?_set_ne]
 ·exact h.keep c blk k1 k2
 ·rintro rfl
  have:=(List.getElem?_eq_some_iff.1 k1).1
  rcases hb with hb|hb
  ·exact k2 hb
  ·omega
theorem Ch.setS {S:Nat→Prop} {m:AMem} {b:Nat} (x:ABlk) (hb:S b):Ch S m (m.set b x):=(Ch.refl S m).set (.inl hb) x
theorem Ch.read {S:Nat→Prop} {m m':AMem} (h:Ch S m m') {b:Nat} (hb: ¬S b) {cs:List AVal} (hr:readB m b=some cs):readB m' b=some cs:=by
 unfold readB at hr ⊢
 cases hm:m[b]? with
 |none=>rw[hm] at hr;simp at hr
 |some blk=>rw[h.keep b blk hm hb];rw[hm] at hr;exact hr
def AVal.blk:AVal→Option Nat
 | .slice b _ _ _ _=>some b
 |_=>none
theorem Sl.ch {S:Nat→Prop} {m m':AMem} (hc:Ch S m m') {esz:Nat} {s:AVal} {n:Nat} {cs:List AVal} (h:Sl m esz s n cs) (hs: ∀b,s.blk=some b→ ¬S b):Sl m' esz s n cs:=by
 rcases h with h|⟨b,o,cap,gr,rfl,hcg,h2|⟨h2,bl,h3,h4⟩⟩
 ·exact .inl h
 ·exact .inr ⟨b,o,cap,gr,rfl,hcg,.inl h2⟩
 ·exact .inr ⟨b,o,cap,gr,rfl,hcg,.inr ⟨h2,bl,hc.read (hs b rfl) h3,h4⟩⟩
theorem Sl.cells {m:AMem} {esz:Nat} {s:AVal} {n:Nat} {cs:List AVal} (h:Sl m esz s n cs):sliceCells m esz s=some (n,cs):=by
 rcases h with ⟨rfl,rfl,rfl⟩|⟨b,o,cap,gr,rfl,_,⟨rfl,rfl⟩|⟨h2,bl,h3,h4⟩⟩
 ·rfl
 ·simp[sliceCells]
 ·simp[sliceCells,h2,h3,h4]
def Ow (lo:Nat) (m:AMem) (esz:Nat) (ty:TypeId) (s:AVal) (n:Nat) (cs:List AVal):Prop:=
 (s= .nilslice∧n=0∧cs= [])∨ ∃b o cap gr bl gr',s= .slice b o n cap gr∧lo≤b∧m[b]? =some (.own bl ty gr')∧readN bl o (n*esz)=some cs∧n≤cap∧o+cap*esz≤bl.length∧bl.all AVal.one=true∧(gr=none∨gr=some esz∧gr'=some esz)
theorem Ow.sl {lo:Nat} {m:AMem} {esz:Nat} {ty:TypeId} {s:AVal} {n:Nat} {cs:List AVal} (h:Ow lo m esz ty s n cs):Sl m esz s n cs:=by
 rcases h with h|⟨b,o,cap,gr,bl,gr',rfl,_,h1,h2,h3,_,_,h4⟩
 ·exact .inl h
 ·refine .inr ⟨b,o,cap,gr,rfl,⟨h3,h4.imp id And.left⟩,?_⟩
  by_cases hn:n=0
  ·subst hn
   have:=readN_length h2
   exact .inl ⟨rfl,List.eq_nil_of_length_eq_zero (by omega)⟩
  ·exact .inr ⟨hn,bl,by simp[readB,h1,ABlk.cells],h2⟩
theorem Ow.ch {S:Nat→Prop} {lo:Nat} {m m':AMem} (hc:Ch S m m') {esz:Nat} {ty:TypeId} {s:AVal} {n:Nat} {cs:List AVal} (h:Ow lo m esz ty s n cs) (hs: ∀b,s.blk=some b→ ¬S b):Ow lo m' esz ty s n cs:=by
 rcases h with h|⟨b,o,cap,gr,bl,gr',rfl,h0,h1,h2⟩
 ·exact .inl h
 ·exact .inr ⟨b,o,cap,gr,bl,gr',rfl,h0,hc.keep b _ h1 (hs b rfl),h2⟩
theorem Ow.mono {lo:Nat} {m m':AMem} (hc:m<+:m') {esz:Nat} {ty:TypeId} {s:AVal} {n:Nat} {cs:List AVal} (h:Ow lo m esz ty s n cs):Ow lo m' esz ty s n cs:=
 h.ch (S:=fun _=>False) (.of_prefix hc) fun _ _=>id
theorem Ow.nil {lo:Nat} {m:AMem} {esz:Nat} {ty:TypeId}:Ow lo m esz ty .nilslice 0 []:= .inl ⟨rfl,rfl,rfl⟩
theorem Ow.lo {lo lo':Nat} {m:AMem} {esz:Nat} {ty:TypeId} {s:AVal} {n:Nat} {cs:List AVal} (h:Ow lo m esz ty s n cs) (hl:lo'≤lo):Ow lo' m esz ty s n cs:=by
 rcases h with h|⟨b,o,cap,gr,bl,gr',h1,h2,h3⟩
 ·exact .inl h
 ·exact .inr ⟨b,o,cap,gr,bl,gr',h1,Nat.le_trans hl h2,h3⟩
theorem Ow.new {m:AMem} {esz:Nat} {ty:TypeId} {n:Nat} {cs:List AVal} (hl:cs.length=n*esz) (h1:cs.all AVal.one=true):Ow m.length (m++ [.own cs ty none]) esz ty (.slice m.length 0 n n none) n cs:=by
 refine .inr ⟨_,0,n,none,cs,none,rfl,Nat.le_refl _,by simp,?_,Nat.le_refl _,by omega,h1,.inl rfl⟩
 unfold readN
 rw[if_pos (by omega),List.drop_zero,List.take_of_length_le (by omega)]
theorem Ow.blk_lo {lo:Nat} {m:AMem} {esz:Nat} {ty:TypeId} {s:AVal} {n:Nat} {cs:List AVal} (h:Ow lo m esz ty s n cs) {b:Nat} (hb:s.blk=some b):lo≤b∧b<m.length:=by
 rcases h with ⟨rfl,_⟩|⟨b',o,cap,gr,bl,gr',rfl,h1,h2,_⟩
 ·cases hb
 ·simp only[AVal.blk,Option.some.injEq] at hb
  subst hb
  exact ⟨h1,(List.getElem?_eq_some_iff.1 h2).1⟩
theorem setN_get: ∀(xs cs:List AVal) (o i:Nat),o+xs.length≤cs.length→(setN cs o xs)[i]? =if o≤i∧i<o+xs.length then xs[i-o]? else cs[i]?
 | [],cs,o,i,_=>by simp[setN];omega
 |x::xs,cs,o,i,h=>by
  simp only[List.length_cons] at h
  rw[setN,setN_get xs _ _ _ (by simp;omega)]
  simp only[List.length_cons]
  by_cases hi:o=i
  ·subst hi
   rw[if_neg (by omega),if_pos (by omega),List.getElem?_set_self (by omega)]
   simp
  ·rw[List.getElem?_set_ne hi]
   by_cases h2:o+1≤i∧i<o+1+xs.length
   ·rw[if_pos h2,if_pos (by omega)]
    obtain ⟨k,rfl⟩: ∃k,i=o+1+k:=⟨i-(o+1),by omega⟩
    rw[show o+1+k-o=k+1 by omega,show o+1+k-(o+1)=k by omega]
    simp
   ·rw[if_neg h2,if_neg (by omega)]
theorem all_setN {xs cs:List AVal} {o:Nat} (h1:cs.all AVal.one=true) (h2:xs.all AVal.one=true):(setN cs o xs).all AVal.one=true:=by
 induction xs generalizing cs o with
 |nil=>exact h1
 |cons x xs ih=>
  simp only[List.all_cons,Bool.and_eq_true] at h2
  refine ih ?_ h2.2
  rw[List.all_eq_true] at h1 ⊢
  intro y hy
  rcases List.mem_or_eq_of_mem_set hy with hy|rfl
  ·exact h1 y hy
  ·exact h2.1
theorem Ow.store {lo:Nat} {m:AMem} {esz:Nat} {ty:TypeId} {s:AVal} {n:Nat} {cs:List AVal} (h:Ow lo m esz ty s n cs) {i:Nat} (hi:i<n): ∃b o,s.blk=some b∧(∀k,iaddrE esz s (.int k i)=some (.ptr b o))∧
  ∀(j:Nat) (v:AVal),j+v.cells.length≤esz→v.cells.all AVal.one=true→ ∃m',storeE m v.cells.length (.ptr b (o+j)) v=some (.undef,m')∧Ch (fun c=>c=b) m m'∧Ow lo m' esz ty s n (setN cs (i*esz+j) v.cells):=by
 rcases h with ⟨_,rfl,_⟩|⟨b,o,cap,gr,bl,gr',rfl,h0,h1,h2,h3,h4,h5,h6⟩
 ·omega
 have hle:i*esz+esz≤n*esz:=by
  rw[←Nat.succ_mul]
  exact Nat.mul_le_mul_right _ hi
 have hle2:n*esz≤cap*esz:=Nat.mul_le_mul_right _ h3
 refine ⟨b,o+i*esz,rfl,fun k=>by simp[iaddrE,hi],fun j v hj hv=>?_⟩
 have hcl:=readN_length h2
 refine ⟨m.set b (.own (setN bl (o+i*esz+j) v.cells) ty gr'),?_,?_,?_⟩
 ·simp only[storeE,if_true,writeB,h1]
  rw[if_pos ⟨by omega,hv⟩]
  rfl
 ·exact Ch.setS _ rfl
 ·refine .inr ⟨b,o,cap,gr,setN bl (o+i*esz+j) v.cells,gr',rfl,h0,?_,?_,h3,by rw[setN_length];exact h4,all_setN h5 hv,h6⟩
  ·rw[List.getElem?_set_self (List.getElem?_eq_some_iff.1 h1).1]
  ·unfold readN
   rw[setN_length,if_pos (by omega)]
   congr 1
   refine List.ext_getElem? fun q=>?_
   rw[setN_get _ _ _ _ (by omega),List.getElem?_take]
   split
   ·rename_i hq
    rw[List.getElem?_drop,setN_get _ _ _ _ (by omega),readN_get h2 hq]
    by_cases hr:i*esz+j≤q∧q<i*esz+j+v.cells.length
    ·rw[if_pos (by omega),if_pos hr]
     congr 1
     omega
    ·rw[if_neg (by omega),if_neg hr]
   ·rename_i hq
    rw[if_neg (by omega)]
    exact (List.getElem?_eq_none (by omega)).symm
theorem Ow.append {lo:Nat} {m:AMem} {esz bytes:Nat} {ty:TypeId} {s:AVal} {n k:Nat} {cs xs:List AVal} (h:Ow lo m esz ty s n cs) (hlo:lo≤m.length) (hl:xs.length=k*esz) (hx:xs.all AVal.one=true) (hb:bytes≠0) (hsz:(n+k)*bytes≤140737488355328):
  ∃s' m',appendE m esz bytes ty s k xs=some (s',m')∧Ch (fun b=>s.blk=some b) m m'∧Ow lo m' esz ty s' (n+k) (cs++xs)∧(∀b,s'.blk=some b→s.blk=some b∨m.length≤b):=by
 have hnew: ∀(m1:AMem) (ys:List AVal) (q:Nat),m1.length=m.length→ys.length=q*esz→ys.all AVal.one=true→Ow lo (m1++ [.own ys ty (some esz)]) esz ty (.slice m.length 0 q q (some esz)) q ys:=by
  intro m1 ys q h1 h2 h3
  refine .inr ⟨_,0,q,some esz,ys,some esz,rfl,hlo,by rw[←h1];simp,?_,Nat.le_refl _,by omega,h3,.inr ⟨rfl,rfl⟩⟩
  unfold readN
  rw[if_pos (by omega),List.drop_zero,List.take_of_length_le (by omega)]
 unfold appendE
 rw[if_neg (by simp only[hx,hb];simp)]
 rcases h with ⟨rfl,rfl,rfl⟩|⟨b,o,cap,gr,bl,gr',rfl,h0,h1,h2,h3,h4,h5,h6⟩
 ·simp only
  by_cases hk:k=0
  ·subst hk
   have:xs= []:=List.eq_nil_of_length_eq_zero (by omega)
   subst this
   exact ⟨_,_,by simp,.refl _ _,.nil,fun b hb=> .inl hb⟩
  ·rw[if_neg hk,if_pos (by rw[Nat.zero_add] at hsz;exact hsz)]
   exact ⟨_,_,rfl,.of_prefix (List.prefix_append _ _),by simpa using hnew m xs k rfl hl hx,fun b hb=> .inr (by simp only[AVal.blk,Option.some.injEq] at hb;omega)⟩
 ·simp only
  have hcl:=readN_length h2
  have hle2:n*esz≤cap*esz:=Nat.mul_le_mul_right _ h3
  have hall:cs.all AVal.one=true:=by
   rw[List.all_eq_true] at h5 ⊢
   intro y hy
   unfold readN at h2
   split at h2
   ·simp only[Option.some.injEq] at h2
    subst h2
    exact h5 y (List.mem_of_mem_drop (List.mem_of_mem_take hy))
   ·simp at h2
  by_cases hk:k=0
  ·subst hk
   have:xs= []:=List.eq_nil_of_length_eq_zero (by omega)
   subst this
   exact ⟨_,_,by simp,.refl _ _,.inr ⟨b,o,cap,gr,bl,gr',rfl,h0,h1,by simpa using h2,h3,h4,h5,h6⟩,fun b hb=> .inl hb⟩
  ·rw[if_neg hk]
   by_cases hc:n+k≤cap
   ·rw[if_pos hc]
    have hle3:(n+k)*esz≤cap*esz:=Nat.mul_le_mul_right _ hc
    rw[Nat.add_mul] at hle3
    refine ⟨.slice b o (n+k) cap gr,m.set b (.own (setN bl (o+n*esz) xs) ty gr'),by simp only[writeB,h1];rw[if_pos ⟨by omega,hx⟩];rfl,Ch.setS _ rfl,?_,fun b hb=> .inl hb⟩
    refine .inr ⟨b,o,cap,gr,_,gr',rfl,h0,List.getElem?_set_self (List.getElem?_eq_some_iff.1 h1).1,?_,hc,by rw[setN_length];exact h4,all_setN h5 hx,h6⟩
    unfold readN
    rw[setN_length,if_pos (by rw[Nat.add_mul];omega)]
    congr 1
    refine List.ext_getElem? fun q=>?_
    rw[List.getElem?_take,Nat.add_mul]
    split
    ·rename_i hq
     rw[List.getElem?_drop,setN_get _ _ _ _ (by omega)]
     by_cases hr:q<n*esz
     ·rw[if_neg (by omega),List.getElem?_append_left (by omega),readN_get h2 hr]
     ·rw[if_pos (by omega),List.getElem?_append_right (by omega)]
      congr 1
      omega
    ·rename_i hq
     exact (List.getElem?_eq_none (by simp;omega)).symm
   ·rw[if_neg hc,if_pos hsz]
    have hsc:sliceCells m esz (.slice b o n cap gr)=some (n,cs):=by
     by_cases hn:n=0
     ·subst hn
      have:cs= []:=List.eq_nil_of_length_eq_zero (by omega)
      simp[sliceCells,this]
     ·simp[sliceCells,hn,readB,h1,ABlk.cells,h2]
    rw[hsc]
    simp only[Option.bind_some]
    rw[if_neg (by simp[hall])]
    have hlen:(cs++xs).length=(n+k)*esz:=by rw[List.length_append,hcl,hl,Nat.add_mul]
    have hal2:(cs++xs).all AVal.one=true:=by rw[List.all_append,hall,hx];rfl
    rcases h6 with rfl|⟨rfl,rfl⟩
    ·exact ⟨_,_,rfl,.of_prefix (List.prefix_append _ _),hnew m _ _ rfl hlen hal2,fun b hb=> .inr (by simp only[AVal.blk,Option.some.injEq] at hb;omega)⟩
    ·simp only[h1]
     rw[if_pos ⟨trivial,trivial,trivial,by omega⟩]
     exact ⟨_,_,rfl,(Ch.setS (S:=fun c=>AVal.blk (.slice b o n cap (some esz))=some c) _ rfl).push _,hnew _ _ _ (by simp) hlen hal2,fun b hb=> .inr (by simp only[AVal.blk,Option.some.injEq] at hb;omega)⟩
end Go.Proofs.YtodhalcpnmddjaaDoor.Ax
namespace Go.Proofs.YtodhalcpnmddjaaDoor.Ax
open Go
section
variable {P:Program}
theorem ilist_mono {K K':AFrame→AMem→Prop} (hk: ∀a m,K a m→K' a m): ∀{is:List CI} {a:AFrame} {m:AMem},CI.list P K is a m→CI.list P K' is a m
 | [],_,_,h=>hk _ _ h
 |_::_,_,_,h=>istep_mono h fun _ _=>ilist_mono hk
theorem LW_mono {cw:Bool} {ks:Nat→AVal→AMem→Prop} {is:List CI} {av late:Nat→List Nat} {Q Q':AFrame→AMem→Prop} (hq: ∀a m,Q a m→Q' a m): ∀{π:List Nat} {a:AFrame} {fs:Facts} {m0:AMem},LW cw P ks is av late Q π a fs m0→LW cw P ks is av late Q' π a fs m0
 | [],_,_,_,h=>fun m h1 h2=>hq _ _ (h m h1 h2)
 |i::r,a,fs,m0,h=>by
  simp only[LW] at h ⊢
  split at h
  ·exact dstep_mono (fun _ _ _ _=>LW_mono hq) h
  ·exact h
theorem wp_mono: ∀{c:CC} {Q Q':AEx→AFrame→AMem→Prop} {a:AFrame} {m:AMem},c.wp P Q a m→(∀e a m,Q e a m→Q' e a m)→c.wp P Q' a m
 | .skip,_,_,_,_,h,hq=>hq _ _ _ h
 | .reg _,_,_,_,_,h,hq=>ilist_mono (hq .normal) h
 | .draw ..,_,_,_,_,h,hq=>by
  simp only[CC.wp] at h ⊢
  obtain ⟨h1,ks,h2⟩:=h
  exact ⟨h1,ks,LW_mono (hq .normal) h2⟩
 | .draw2 ..,_,_,_,_,h,hq=>by
  simp only[CC.wp] at h ⊢
  obtain ⟨h1,ks,h2,h3⟩:=h
  exact ⟨h1,ks,LW_mono (hq .normal) h2,LW_mono (hq .normal) h3⟩
 | .seq x y,Q,Q',a,m,h,hq=>by
  simp only[CC.wp] at h ⊢
  refine wp_mono (c:=x) h fun e a m h=>?_
  cases e with
  |normal=>exact wp_mono (c:=y) h hq
  |exit id=>exact hq _ _ _ h
  |ret=>exact hq _ _ _ h
 | .cond c x y,Q,Q',a,m,h,hq=>by
  simp only[CC.wp] at h ⊢
  split at h
  ·exact ⟨fun e=>wp_mono (h.1 e) hq,fun e=>wp_mono (h.2 e) hq⟩
  ·exact h
 | .block id x,Q,Q',a,m,h,hq=>by
  simp only[CC.wp] at h ⊢
  refine wp_mono (c:=x) h fun e a m h=>?_
  cases e with
  |normal=>exact hq _ _ _ h
  |exit k=>
   simp only[AEx.inBlock] at h ⊢
   split
   ·rename_i hk;rw[if_pos hk] at h;exact hq _ _ _ h
   ·rename_i hk;rw[if_neg hk] at h;exact hq _ _ _ h
  |ret=>exact hq _ _ _ h
 | .loop x,Q,Q',a,m,h,hq=>by
  simp only[CC.wp] at h ⊢
  obtain ⟨I,h0,hr⟩:=h
  refine ⟨I,h0,fun n a m hI=>wp_mono (c:=x) (hr n a m hI) fun e a m h=>?_⟩
  cases e with
  |normal=>exact h
  |exit id=>exact hq _ _ _ h
  |ret=>exact hq _ _ _ h
 | .exit _,_,_,_,_,h,hq=>hq _ _ _ h
 | .ret,_,_,_,_,h,hq=>hq _ _ _ h
 | .bad,_,_,_,_,h,_=>by simp only[CC.wp] at h
 | .rfn ..,_,_,_,_,h,hq=>by
  simp only[CC.wp] at h ⊢
  obtain ⟨gf,cs,h1,h2⟩:=h
  refine ⟨gf,cs,h1,fun l R B X hY=>(h2 l R B X hY).mono fun _ m' h=>?_⟩
  rcases h with ⟨k1,k2⟩|⟨e,k0,k1,k2⟩
  ·exact .inl ⟨k1,hq _ _ _ k2⟩
  ·exact .inr ⟨e,k0,k1,hq _ _ _ k2⟩
 | .kill _ x,_,_,_,_,h,hq=>by
  simp only[CC.wp] at h ⊢
  exact wp_mono (c:=x) h hq
 | .fin l x,Q,Q',a,m,h,hq=>by
  simp only[CC.wp] at h ⊢
  refine wp_mono (c:=x) h fun e a m h=>?_
  cases e with
  |normal=>exact hq _ _ _ h
  |exit id=>exact hq _ _ _ h
  |ret=>exact hq _ _ _ h
theorem obind_cases {α:Type} {k:α→Prop} {t:Tag k} {o:Option α} (h:obind k t o): ∃x,o=some x∧k x:=by
 have:=h.out
 cases o with
 |none=>exact this.elim
 |some x=>exact ⟨x,rfl,this⟩
def D (cw:Bool) (P:Program) (ks:Nat→AVal→AMem→Prop) (is:List CI) (av late:List (List Nat)) (Q:AFrame→AMem→Prop) (π:List Nat) (_:Tag (is,Q,ks)) (a:AFrame) (fs:Facts) (m:AMem):Prop:=
 LW cw P ks is (fun i=>av.getD i []) (fun i=>late.getD i []) Q π a fs m
variable {cw:Bool} {ks:Nat→AVal→AMem→Prop} {is:List CI} {av late:List (List Nat)} {Q:AFrame→AMem→Prop} {π:List Nat} {a:AFrame} {fs:Facts} {m:AMem}
theorem W_draw {Q:AEx→AFrame→AMem→Prop} {t:Tag (CC.draw cw is av late π,Q)} (ks:Nat→AVal→AMem→Prop) (hm:maxDst is≤a.length) (h:D cw P ks is av late (Q .normal) π .mk a noFacts m):W P (.draw cw is av late π) Q t a m:=⟨⟨hm,ks,h⟩⟩
theorem D_end {t:Tag (is,Q,ks)} (h: ∀m',m<+:m'→(∀j,fs j m')→Q a m'):D cw P ks is av late Q [] t a fs m:=h
def gOK (a:AFrame):Option (Nat×Bool)→Prop
 |none=>True
 |some (t,w)=>gOf (a.ev (.t t)) w=some true
theorem spec_guard {kf:AVal→AMem→Prop} {i:CI} {m:AMem} {pf:AMem→Prop} (h:gOK a i.guard):i.spec P kf m pf a=i.op.spec P kf m pf a (i.dst.getD 0):=by
 unfold CI.spec
 cases hg:i.guard with
 |none=>rfl
 |some p=>
  obtain ⟨t,w⟩:=p
  rw[hg] at h
  simp only[gOK] at h
  simp only[h]
theorem D_P {t:Tag (is,Q,ks)} {i:Nat} {d:Option Nat} {p:POp} {g:Option (Nat×Bool)} (hi:is[i]? =some ⟨d,.P p,g⟩) (hg:gOK a g) (h:obind (fun x=>D cw P ks is av late Q π .mk (a.putO d x) (upd fs i fun _=>True) m) .mk (p.ev a)):D cw P ks is av late Q (i::π) t a fs m:=by
 unfold D
 simp only[LW,hi,dstep,COp.isW,Bool.false_eq_true,if_false]
 rw[spec_guard (i:=⟨d,.P p,g⟩) hg]
 simp only[COp.spec]
 obtain ⟨x,he,h⟩:=obind_cases h
 rw[he]
 exact ⟨⟨x,rfl⟩,fun y hy=>by cases hy;exact h⟩
theorem D_R {t:Tag (is,Q,ks)} {i:Nat} {d:Option Nat} {p:ROp} {g:Option (Nat×Bool)} (hi:is[i]? =some ⟨d,.R p,g⟩) (hg:gOK a g) (hs: ∃m',m<+:m'∧pfacts (av.getD i []) fs m') (h:obind (fun x=>D cw P ks is av late Q π .mk (a.putO d x) (upd fs i fun _=>True) m) .mk (p.ev a m)):D cw P ks is av late Q (i::π) t a fs m:=by
 unfold D
 simp only[LW,hi,dstep,COp.isW,Bool.false_eq_true,if_false]
 rw[spec_guard (i:=⟨d,.R p,g⟩) hg]
 simp only[COp.spec]
 obtain ⟨x,he,h⟩:=obind_cases h
 refine ⟨⟨x,fun m' hm _=>ROp.ev_mono hm he⟩,fun y hy=>?_⟩
 obtain ⟨m',h1,h2⟩:=hs
 have:=(hy m' h1 h2).symm.trans (ROp.ev_mono h1 he)
 simp only[Option.some.injEq] at this
 subst this
 exact h
theorem D_Am {t:Tag (is,Q,ks)} {i:Nat} {d:Option Nat} {p:AOp} {g:Option (Nat×Bool)} (hi:is[i]? =some ⟨d,.A p,g⟩) (hg:gOK a g) (h:obind (fun c=> ∀b,m.length≤b→(m≠ []→b%4096=d.getD 0%4096)→D cw P ks is av late Q π .mk (a.putO d (c.2.2 b)) (upd fs i fun m=> ∃b',c.2.2 b=c.2.2 b'∧m[b']? =some (.own c.1 c.2.1 none)) m) .mk (p.ev a)):D cw P ks is av late Q (i::π) t a fs m:=by
 unfold D
 simp only[LW,hi,dstep,COp.isW,Bool.false_eq_true,if_false]
 rw[spec_guard (i:=⟨d,.A p,g⟩) hg]
 simp only[COp.spec]
 obtain ⟨c,he,h⟩:=obind_cases h
 rw[he]
 refine ⟨⟨c,rfl⟩,fun y hy=>?_⟩
 obtain ⟨c',b,h1,hb,hr,rfl⟩:=hy
 simp only[Option.some.injEq] at h1
 subst h1
 have:=h b hb hr
 simp only[Option.some.injEq,exists_and_left,exists_eq_left']
 exact this
theorem D_An {t:Tag (is,Q,ks)} {i:Nat} {d:Option Nat} {p:AOp} {g:Option (Nat×Bool)} (hi:is[i]? =some ⟨d,.A p,g⟩) (hg:gOK a g) (h:obind (fun c=> ∀b,m.length≤b→D cw P ks is av late Q π .mk (a.putO d (c.2.2 b)) (upd fs i fun m=> ∃b',c.2.2 b=c.2.2 b'∧m[b']? =some (.own c.1 c.2.1 none)) m) .mk (p.ev a)):D cw P ks is av late Q (i::π) t a fs m:=by
 obtain ⟨c,he,h⟩:=obind_cases h
 refine D_Am hi hg ?_
 rw[he]
 exact ⟨fun b hb _=>h b hb⟩
theorem D_X {t:Tag (is,Q,ks)} {i:Nat} {d:Option Nat} {o:COp} (hi:is[i]? =some ⟨d,o,none⟩) (hw:o.isW cw=true)
  (h: ∀m',m<+:m'→(∀j,fs j m')→S P (fun x m''=>(∀p∈lateOf is (late.getD i []),p.1.ev (a.putO d x) m''=some ((a.putO d x).ev (.t p.2)))∧D cw P ks is av late Q π .mk (a.putO d x) noFacts m'') o .mk a m'):D cw P ks is av late Q (i::π) t a fs m:=by
 unfold D
 simp only[LW,hi,dstep,hw,if_true]
 exact fun m' h1 h2=>(h m' h1 h2).out
theorem D_C {t:Tag (is,Q,ks)} {i:Nat} {d:Option Nat} {f:Arg} {xs:List Arg} {g:Option (Nat×Bool)} (hi:is[i]? =some ⟨d,.C f xs,g⟩) (hg:gOK a g) {fn:FuncId} {fs' cs:List AVal} (hf:a.ev f= .func (.func fn) fs' cs)
  (hc: ∀m',m<+:m'→pfacts (av.getD i []) fs m'→ACalls P fn (fs'++xs.map a.ev++cs) m' fun v m''=>m'<+:m''∧ks i v m'')
  (hne: ∃v m',m<+:m'∧ks i v m') (hst: ∀v m m',m<+:m'→ks i v m→ks i v m')
  (h: ∀v m',m<+:m'→ks i v m'→D false P ks is av late Q π .mk (a.putO d v) (upd fs i (ks i v)) m):D false P ks is av late Q (i::π) t a fs m:=by
 unfold D
 simp only[LW,hi,dstep,COp.isW,Bool.false_eq_true,if_false]
 rw[spec_guard (i:=⟨d,.C f xs,g⟩) hg]
 simp only[COp.spec]
 exact ⟨⟨⟨fn,fs',cs,hf,hc⟩,hne,hst⟩,fun v ⟨m',h1,h2⟩=>h v m' h1 h2⟩
theorem D_Cv {t:Tag (is,Q,ks)} {i:Nat} {d:Option Nat} {f:Arg} {xs:List Arg} {g:Option (Nat×Bool)} (x:AVal) (hi:is[i]? =some ⟨d,.C f xs,g⟩) (hg:gOK a g) (hk:ks i=fun v _=>v=x) {fn:FuncId} {fs' cs:List AVal} (hf:a.ev f= .func (.func fn) fs' cs)
  (hc: ∀m',m<+:m'→pfacts (av.getD i []) fs m'→ACalls P fn (fs'++xs.map a.ev++cs) m' fun v m''=>m'<+:m''∧v=x)
  (h:D false P ks is av late Q π .mk (a.putO d x) (upd fs i fun _=>True) m):D false P ks is av late Q (i::π) t a fs m:=by
 refine D_C hi hg hf (fun m' h1 h2=>(hc m' h1 h2).mono fun v m'' h=>⟨h.1,by rw[hk];exact h.2⟩) ⟨x,m,List.prefix_refl _,by rw[hk]⟩ (fun v m m' _ h=>by rw[hk] at h ⊢;exact h) fun v m' _ hv=>?_
 rw[hk] at hv
 subst hv
 rw[hk]
 simpa using h
theorem D_skip {t:Tag (is,Q,ks)} {i:Nat} {d:Option Nat} {o:COp} {n:Nat} {w:Bool} (hi:is[i]? =some ⟨d,o,some (n,w)⟩) (hw:o.isW cw=false) (hg:gOf (a.ev (.t n)) w=some false) (h:D cw P ks is av late Q π .mk (a.putO d (.tuple [])) (upd fs i fun _=>True) m):D cw P ks is av late Q (i::π) t a fs m:=by
 unfold D
 simp only[LW,hi,dstep,hw,Bool.false_eq_true,if_false]
 have:CI.spec P (ks i) ⟨d,o,some (n,w)⟩ m (pfacts (av.getD i []) fs) a=⟨True,fun x=>x= .tuple [],fun _ _=>True⟩:=by
  unfold CI.spec
  simp only[hg]
 rw[this]
 exact ⟨trivial,fun x hx=>by subst hx;exact h⟩
theorem D_W {t:Tag (is,Q,ks)} {i:Nat} {d:Option Nat} {p:WOp} (hi:is[i]? =some ⟨d,.W p,none⟩) (hl:late.getD i []= []) (h: ∀m',m<+:m'→(∀j,fs j m')→obind (fun x=>D cw P ks is av late Q π .mk (a.putO d x.1) noFacts x.2) .mk (p.ev a m')):D cw P ks is av late Q (i::π) t a fs m:=by
 refine D_X hi rfl fun m' h1 h2=>?_
 obtain ⟨x,he,h⟩:=obind_cases (h m' h1 h2)
 refine ⟨?_⟩
 simp only[COp.step,he,hl]
 exact ⟨fun p hp=>by simp[lateOf] at hp,h⟩
end
def COp.isPR:COp→Bool
 | .P _| .R _=>true
 |_=>false
section
variable {cw:Bool} {P:Program} {ks:Nat→AVal→AMem→Prop} {is:List CI} {av late:List (List Nat)} {Q:AFrame→AMem→Prop}
theorem D_list: ∀(l:List CI) (i:Nat),is.drop i=l→(∀c∈l,c.op.isPR=true)→ ∀(fs:Facts) (t:Tag (is,Q,ks)) (a:AFrame) (m:AMem),(∀j m',fs j m')→CI.list P (fun a m'=> ∀m'',m'<+:m''→Q a m'') l a m→D cw P ks is av late Q (List.range' i l.length) t a fs m
 | [],i,_,_,fs,t,a,m,_,h=>D_end fun m' hm _=>h m' hm
 |c::l,i,hd,hpr,fs,t,a,m,hfs,h=>by
  have hi:is[i]? =some c:=by
   have:=congrArg (·[0]?) hd
   simpa using this
  have hd':is.drop (i+1)=l:=by rw[←List.drop_drop,hd];rfl
  have ih:=fun a fs (hfs: ∀j m',fs j m')=>D_list l (i+1) hd' (fun c hc=>hpr c (List.mem_cons_of_mem _ hc)) fs t a m hfs
  have hup: ∀j m',upd fs i (fun _=>True) j m':=fun j m'=>by
   unfold upd
   split
   ·trivial
   ·exact hfs j m'
  have hc:=hpr c List.mem_cons_self
  obtain ⟨d,o,g⟩:=c
  simp only[List.length_cons,List.range'_succ]
  simp only[CI.list,CI.step] at h
  have core:gOK a g→COp.step P (fun x m'=>CI.list P (fun a m'=> ∀m'',m'<+:m''→Q a m'') l (a.putO d x) m') a m o→D cw P ks is av late Q (i::List.range' (i+1) l.length) t a fs m:=by
   intro hg h
   cases o with
   |P p=>
    refine D_P hi hg ?_
    simp only[COp.step] at h
    split at h
    ·rename_i x hx
     rw[hx,obind_some]
     exact ih _ _ hup h
    ·exact h.elim
   |R p=>
    refine D_R hi hg ⟨m,List.prefix_refl _,fun j _=>hfs j m⟩ ?_
    simp only[COp.step] at h
    split at h
    ·rename_i x hx
     rw[hx,obind_some]
     exact ih _ _ hup h
    ·exact h.elim
   |A x=>cases hc
   |W x=>cases hc
   |C f xs=>cases hc
  cases g with
  |none=>exact core trivial h
  |some p=>
   obtain ⟨n,w⟩:=p
   simp only at h
   cases hb:gOf (a.ev (.t n)) w with
   |none=>rw[hb] at h;exact h.elim
   |some b=>
    rw[hb] at h
    cases b with
    |true=>exact core hb h
    |false=>
     refine D_skip hi ?_ hb (ih _ _ hup h)
     cases o<;>first|rfl|cases hc
theorem W_drawPR {Q:AEx→AFrame→AMem→Prop} {π:List Nat} {t:Tag (CC.draw cw is av late π,Q)} {a:AFrame} {m:AMem} (hm:maxDst is≤a.length) (hpr:(is.all fun c=>c.op.isPR)=true) (hπ:π=List.range' 0 is.length) (h:L P (fun a m'=> ∀m'',m'<+:m''→Q .normal a m'') is .mk a m):W P (.draw cw is av late π) Q t a m:=by
 subst hπ
 exact W_draw (fun _ _ _=>True) hm (D_list is 0 rfl (fun c hc=>List.all_eq_true.1 hpr c hc) _ _ _ _ (fun _ _=>trivial) h.out)
end
structure Md where
 kind:Int
 size:Int
 elems:List Int
 names:List ByteArray
 dims:Int
 flex:Bool
def RMode (m:AMem) (cs:List AVal) (x:Md):Prop:= ∃e nm,cs= [.int .i64 x.kind,.int .i64 x.size,e,nm,.int .i64 x.dims,.bool x.flex]∧RInts m e x.elems∧RStrs m nm x.names
theorem RMode.mono {m m':AMem} {cs:List AVal} {x:Md} (h:RMode m cs x) (hm:m<+:m'):RMode m' cs x:=by
 obtain ⟨e,nm,h1,h2,h3⟩:=h
 exact ⟨e,nm,h1,h2.mono hm,h3.mono hm⟩
def RTab (m:AMem) (s:AVal) (l:List Md):Prop:= ∃cs,Sl m 6 s l.length cs∧ ∀(i:Nat) x,l[i]? =some x→RMode m ((cs.drop (i*6)).take 6) x
theorem RTab.mono {m m':AMem} {s:AVal} {l:List Md} (h:RTab m s l) (hm:m<+:m'):RTab m' s l:=by
 obtain ⟨cs,h1,h2⟩:=h
 exact ⟨cs,h1.mono hm,fun i x hx=>(h2 i x hx).mono hm⟩
theorem RTab.len {m:AMem} {s:AVal} {l:List Md} (h:RTab m s l):lenE s=some (.int .i64 l.length):=by
 obtain ⟨cs,h1,_⟩:=h
 exact h1.len
theorem RTab.at {m:AMem} {s:AVal} {l:List Md} (h:RTab m s l) {i:Nat} (hi:i<l.length): ∃b o e nm,(∀k,iaddrE 6 s (.int k i)=some (.ptr b o))∧
  loadE m 6 true (.ptr b o)=some (.agg [.int .i64 l[i].kind,.int .i64 l[i].size,e,nm,.int .i64 l[i].dims,.bool l[i].flex])∧
  loadE m 1 false (.ptr b o)=some (.int .i64 l[i].kind)∧loadE m 1 false (.ptr b (o+1))=some (.int .i64 l[i].size)∧loadE m 1 false (.ptr b (o+2))=some e∧loadE m 1 false (.ptr b (o+3))=some nm∧loadE m 1 false (.ptr b (o+4))=some (.int .i64 l[i].dims)∧loadE m 1 false (.ptr b (o+5))=some (.bool l[i].flex)∧
  RInts m e l[i].elems∧RStrs m nm l[i].names:=by
 obtain ⟨cs,h1,h2⟩:=h
 obtain ⟨b,o,h3,h4,h5⟩:=h1.at hi
 obtain ⟨e,nm,h6,h7,h8⟩:=h2 i _ (List.getElem?_eq_getElem hi)
 have hc: ∀j,j<6→cs[i*6+j]? = [.int .i64 l[i].kind,.int .i64 l[i].size,e,nm,.int .i64 l[i].dims,.bool l[i].flex][j]? :=fun j hj=>by
  rw[←h6,List.getElem?_take,if_pos hj,List.getElem?_drop]
 refine ⟨b,o,e,nm,h3,by rw[h5,h6],?_,?_,?_,?_,?_,?_,h7,h8⟩
 ·have:=h4 0 (by omega);rw[hc 0 (by omega)] at this;exact this
 ·have:=h4 1 (by omega);rw[hc 1 (by omega)] at this;exact this
 ·have:=h4 2 (by omega);rw[hc 2 (by omega)] at this;exact this
 ·have:=h4 3 (by omega);rw[hc 3 (by omega)] at this;exact this
 ·have:=h4 4 (by omega);rw[hc 4 (by omega)] at this;exact this
 ·have:=h4 5 (by omega);rw[hc 5 (by omega)] at this;exact this
end Go.Proofs.YtodhalcpnmddjaaDoor.Ax
namespace Go.Proofs.YtodhalcpnmddjaaDoor.Ax
open Go
variable {P:Program}
@[simp] theorem readN_all (a b c d e f:AVal):readN [a,b,c,d,e,f] 0 6=some [a,b,c,d,e,f]:=rfl
theorem bx {m:AMem} {b:Nat} {cs:List AVal} (h:readB m b=some cs) (i:Nat):loadE m 1 false (.ptr b i)=cs[i]? :=by simp[loadE,h]
theorem bxW {m:AMem} {b:Nat} {cs:List AVal} (h:readB m b=some cs) (n:Nat):loadE m n true (.ptr b 0)=(readN cs 0 n).map .agg:=by simp[loadE,h]
theorem beqF {x y:Int} (h: ¬x=y):(x==y)=false:=by simpa using h
theorem bneT {x y:Int} (h: ¬x=y):(x !=y)=true:=by simpa using h
theorem W_mono {x:CC} {Q Q':AEx→AFrame→AMem→Prop} {t:Tag (x,Q)} {t':Tag (x,Q')} {a:AFrame} {m:AMem} (hq: ∀e a m,Q' e a m→Q e a m) (h:W P x Q' t' a m):W P x Q t a m:=⟨wp_mono (c:=x) h.out hq⟩
theorem bbind_mono {X Y X' Y':Prop} {t:Tag (X,Y)} {t':Tag (X',Y')} {v:AVal} (hx:X'→X) (hy:Y'→Y) (h:bbind X' Y' t' v):bbind X Y t v:=by
 have h:=h.out
 refine ⟨?_⟩
 cases v with
 |bool b=>exact ⟨fun e=>hx (h.1 e),fun e=>hy (h.2 e)⟩
 |_=>exact h
theorem bbind_J {x y:CC} {next:AFrame→AMem→Prop} {Q:AEx→AFrame→AMem→Prop} {t1:Tag (x,AEx.then next Q)} {t2:Tag (y,AEx.then next Q)} {a a':AFrame} {m m':AMem} {t} {v:AVal} (J:AFrame→AMem→Prop)
  (h1:bbind (W P x (AEx.then J Q) .mk a m) (W P y (AEx.then J Q) .mk a' m') .mk v) (h2: ∀a m,J a m→next a m):bbind (W P x (AEx.then next Q) t1 a m) (W P y (AEx.then next Q) t2 a' m') t v:=by
 have hq: ∀e a m,AEx.then J Q e a m→AEx.then next Q e a m:=fun e a m h=>by cases e<;>first|exact h2 _ _ h|exact h
 exact bbind_mono (W_mono hq) (W_mono hq) h1
section
variable {cw:Bool} {ks:Nat→AVal→AMem→Prop} {is:List CI} {av late:List (List Nat)} {Q:AFrame→AMem→Prop}
theorem D_pre': ∀(l:List CI) (i:Nat) (rest:List Nat),(is.drop i).take l.length=l→(∀c∈l,c.op.isPR=true)→ ∀(fs:Facts) (t:Tag (is,Q,ks)) (a:AFrame) (m:AMem),(∀j m',fs j m')→CI.list P (fun a m'=> ∀fs':Facts,(∀j m',fs' j m')→D cw P ks is av late Q rest .mk a fs' m') l a m→D cw P ks is av late Q (List.range' i l.length++rest) t a fs m
 | [],i,rest,_,_,fs,t,a,m,hfs,h=>h fs hfs
 |c::l,i,rest,hd,hpr,fs,t,a,m,hfs,h=>by
  have hi:is[i]? =some c:=by
   have:=congrArg (·[0]?) hd
   simpa using this
  have hd':(is.drop (i+1)).take l.length=l:=by
   have:=congrArg (·.drop 1) hd
   rw[←List.drop_drop]
   simpa[List.drop_take] using this
  have ih:=fun a fs (hfs: ∀j m',fs j m')=>D_pre' l (i+1) rest hd' (fun c hc=>hpr c (List.mem_cons_of_mem _ hc)) fs t a m hfs
  have hup: ∀j m',upd fs i (fun _=>True) j m':=fun j m'=>by
   unfold upd
   split
   ·trivial
   ·exact hfs j m'
  have hc:=hpr c List.mem_cons_self
  obtain ⟨d,o,g⟩:=c
  simp only[List.length_cons,List.range'_succ,List.cons_append]
  simp only[CI.list,CI.step] at h
  have core:gOK a g→COp.step P (fun x m'=>CI.list P (fun a m'=> ∀fs':Facts,(∀j m',fs' j m')→D cw P ks is av late Q rest .mk a fs' m') l (a.putO d x) m') a m o→D cw P ks is av late Q (i::(List.range' (i+1) l.length++rest)) t a fs m:=by
   intro hg h
   cases o with
   |P p=>
    refine D_P hi hg ?_
    simp only[COp.step] at h
    split at h
    ·rename_i x hx
     rw[hx,obind_some]
     exact ih _ _ hup h
    ·exact h.elim
   |R p=>
    refine D_R hi hg ⟨m,List.prefix_refl _,fun j _=>hfs j m⟩ ?_
    simp only[COp.step] at h
    split at h
    ·rename_i x hx
     rw[hx,obind_some]
     exact ih _ _ hup h
    ·exact h.elim
   |A x=>cases hc
   |W x=>cases hc
   |C f xs=>cases hc
  cases g with
  |none=>exact core trivial h
  |some p=>
   obtain ⟨n,w⟩:=p
   simp only at h
   cases hb:gOf (a.ev (.t n)) w with
   |none=>rw[hb] at h;exact h.elim
   |some b=>
    rw[hb] at h
    cases b with
    |true=>exact core hb h
    |false=>
     refine D_skip hi ?_ hb (ih _ _ hup h)
     cases o<;>first|rfl|cases hc
theorem D_pre {π:List Nat} {fs:Facts} {t:Tag (is,Q,ks)} {a:AFrame} {m:AMem} (i n:Nat) (rest:List Nat) {l:List CI} (hl:(is.drop i).take n=l) (hπ:π=List.range' i ((is.drop i).take n).length++rest) (hpr:(((is.drop i).take n).all fun c=>c.op.isPR)=true) (hfs: ∀j m',fs j m')
  (h:L P (fun a m'=> ∀fs':Facts,(∀j m',fs' j m')→D cw P ks is av late Q rest .mk a fs' m') l .mk a m):D cw P ks is av late Q π t a fs m:=by
 subst hπ hl
 refine D_pre' _ i rest ?_ (fun c hc=>List.all_eq_true.1 hpr c hc) fs t a m hfs h.out
 rw[List.length_take,List.length_drop,List.take_eq_take_iff,List.length_drop]
 omega
theorem D_pc {π:List Nat} {fs:Facts} {t:Tag (is,Q,ks)} {a:AFrame} {m:AMem} (i n:Nat) (rest:List Nat) {l:List CI}
  (h:L P (fun a m'=> ∀fs':Facts,(∀j m',fs' j m')→D cw P ks is av late Q rest .mk a fs' m') l .mk a m)
  (hl:(is.drop i).take n=l:=by simp only[List.drop_zero,List.drop_succ_cons,List.take_succ_cons,List.take_zero];rfl) (hπ:π=List.range' i ((is.drop i).take n).length++rest:=by rfl) (hpr:(((is.drop i).take n).all fun c=>c.op.isPR)=true:=by rfl) (hfs: ∀j m',fs j m':=by exact fun _ _=>trivial):D cw P ks is av late Q π t a fs m:=D_pre i n rest hl hπ hpr hfs h
end
end Go.Proofs.YtodhalcpnmddjaaDoor.Ax
namespace Go.Proofs.YtodhalcpnmddjaaDoor.Ax
open Go
@[simp] theorem one_func (f:Fn) (fs cs:List AVal):(AVal.func f fs cs).one=true:=rfl
@[simp] theorem cells_func (f:Fn) (fs cs:List AVal):(AVal.func f fs cs).cells= [.func f fs cs]:=rfl
@[simp] theorem one_nilfunc:AVal.nilfunc.one=true:=rfl
@[simp] theorem cells_nilfunc:AVal.nilfunc.cells= [.nilfunc]:=rfl
def bdE (x:Option AVal) (d:Nat):Option Nat:=match x with
 |none=>some d
 |some (.int _ n)=>if 0≤n then some n.toNat else none
 |_=>none
def sliceE (esz:Nat) (v:AVal) (lo hi:Option AVal):Option AVal:=match v,bdE lo 0 with
 | .nilslice,some l=>(bdE hi 0).bind fun h=>evSlice esz .nilslice l h none
 | .slice b o n k ex,some l=>(bdE hi n).bind fun h=>evSlice esz (.slice b o n k ex) l h none
 |_,_=>none
theorem bnd_eq (a:AFrame) (x:Option Arg) (d:Nat):bnd a x d=bdE (x.map a.ev) d:=by
 cases x with
 |none=>rfl
 |some x=>
  simp only[bnd,bdE,Option.map_some]
  cases a.ev x<;>rfl
@[simp] theorem ev_slice (a:AFrame) (esz:Nat) (x:Arg) (lo hi:Option Arg):POp.ev a (.slice esz x lo hi none)=sliceE esz (a.ev x) (lo.map a.ev) (hi.map a.ev):=by
 simp only[POp.ev,sliceE,bnd_eq]
 cases a.ev x<;>cases bdE (lo.map a.ev) 0<;>rfl
theorem Sl.take {m:AMem} {esz:Nat} {s:AVal} {n:Nat} {cs:List AVal} (h:Sl m esz s n cs) {i:Nat} (hi:i≤n): ∃s',(∀k,sliceE esz s none (some (.int k i))=some s')∧Sl m esz s' i (cs.take (i*esz)):=by
 rcases h with ⟨rfl,rfl,rfl⟩|⟨b,o,cap,gr,rfl,⟨hc,hgr⟩,h⟩
 ·obtain rfl:i=0:=by omega
  exact ⟨.nilslice,fun k=>by simp[sliceE,bdE,evSlice],by simpa using Sl.nil⟩
 ·have hcg:i≤cap∧(gr=none∨gr=some esz):=⟨by omega,hgr⟩
  refine ⟨.slice b o i cap gr,fun k=>by simp only[sliceE,bdE,evSlice];simp;exact ⟨by omega,by rcases hgr with h|h<;>simp[h]⟩,?_⟩
  rcases h with ⟨rfl,rfl⟩|⟨h1,bl,h2,h3⟩
  ·obtain rfl:i=0:=by omega
   exact .inr ⟨b,o,cap,gr,rfl,hcg,.inl ⟨rfl,by simp⟩⟩
  ·by_cases h0:i=0
   ·subst h0;exact .inr ⟨b,o,cap,gr,rfl,hcg,.inl ⟨rfl,by simp⟩⟩
   ·refine .inr ⟨b,o,cap,gr,rfl,hcg,.inr ⟨h0,bl,h2,?_⟩⟩
    have:=readN_sub h3 (i:=0) (k:=i*esz) (by rw[Nat.zero_add];exact Nat.mul_le_mul_right _ hi)
    simpa using this
theorem Ow.take {lo:Nat} {m:AMem} {esz:Nat} {ty:TypeId} {s:AVal} {n:Nat} {cs:List AVal} (h:Ow lo m esz ty s n cs) {i:Nat} (hi:i≤n): ∃s',(∀k,sliceE esz s none (some (.int k i))=some s')∧Ow lo m esz ty s' i (cs.take (i*esz))∧s'.blk=s.blk:=by
 rcases h with ⟨rfl,rfl,rfl⟩|⟨b,o,cap,gr,bl,gr',rfl,h1,h2,h3,h4,h5,h6,h7⟩
 ·obtain rfl:i=0:=by omega
  exact ⟨.nilslice,fun k=>by simp[sliceE,bdE,evSlice],by simpa using Ow.nil,rfl⟩
 ·refine ⟨.slice b o i cap gr,fun k=>by simp only[sliceE,bdE,evSlice];simp;exact ⟨by omega,by rcases h7 with h|h<;>simp[h]⟩,.inr ⟨b,o,cap,gr,bl,gr',rfl,h1,h2,?_,by omega,h5,h6,h7⟩,rfl⟩
  have:=readN_sub h3 (i:=0) (k:=i*esz) (by rw[Nat.zero_add];exact Nat.mul_le_mul_right _ hi)
  simpa using this
theorem Ow.drop {lo:Nat} {m:AMem} {esz:Nat} {ty:TypeId} {s:AVal} {n:Nat} {cs:List AVal} (h:Ow lo m esz ty s n cs) {i:Nat} (hi:i≤n): ∃s',(∀k,sliceE esz s (some (.int k i)) none=some s')∧Ow lo m esz ty s' (n-i) (cs.drop (i*esz))∧s'.blk=s.blk:=by
 rcases h with ⟨rfl,rfl,rfl⟩|⟨b,o,cap,gr,bl,gr',rfl,h1,h2,h3,h4,h5,h6,h7⟩
 ·obtain rfl:i=0:=by omega
  exact ⟨.nilslice,fun k=>by simp[sliceE,bdE,evSlice],by simpa using Ow.nil,rfl⟩
 ·refine ⟨.slice b (o+i*esz) (n-i) (cap-i) gr,fun k=>by simp only[sliceE,bdE,evSlice];simp;exact ⟨by omega,h4,by rcases h7 with h|h<;>simp[h]⟩,.inr ⟨b,o+i*esz,cap-i,gr,bl,gr',rfl,h1,h2,?_,by omega,?_,h6,h7⟩,rfl⟩
  ·have hs:i*esz+(n-i)*esz=n*esz:=by rw[←Nat.add_mul];congr 1;omega
   have:=readN_sub h3 (i:=i*esz) (k:=(n-i)*esz) (by omega)
   rw[this,List.take_of_length_le]
   rw[List.length_drop,readN_length h3];omega
  ·have hs:i*esz+(cap-i)*esz=cap*esz:=by rw[←Nat.add_mul];congr 1;omega
   omega
theorem store_new (m:AMem) (z cs:List AVal) (ty:TypeId) (g:Option Nat) (n:Nat) (h1:cs.length=n) (h2:z.length=n) (h3:cs.all AVal.one=true):storeE (m++ [.own z ty g]) n (.ptr m.length 0) (.agg cs)=some (.undef,m++ [.own cs ty g]):=by
 have hs: ∀(ys xs:List AVal),ys.length=xs.length→setN ys 0 xs=xs:=by
  intro ys xs h
  refine List.ext_getElem? fun i=>?_
  rw[setN_get _ _ _ _ (by omega)]
  split
  ·simp
  ·rename_i hi
   rw[List.getElem?_eq_none (by omega),List.getElem?_eq_none (by omega)]
 simp only[storeE,cells_agg,h1,if_true,writeB]
 rw[List.getElem?_append_right (Nat.le_refl _)]
 simp[h3,hs z cs (by omega),h1,h2]
@[simp] theorem readB_new (m:AMem) (cs:List AVal) (ty:TypeId) (g:Option Nat):readB (m++ [.own cs ty g]) m.length=some cs:=by simp[readB,ABlk.cells]
theorem RMode.all {m:AMem} {c:List AVal} {x:Md} (h:RMode m c x):c.length=6∧c.all AVal.one=true:=by
 obtain ⟨e,nm,rfl,he,hn⟩:=h
 have h1:e.one=true:=by rcases he with ⟨rfl,_⟩|⟨_,_,_,_,rfl,_⟩<;>rfl
 have h2:nm.one=true:=by rcases hn with ⟨rfl,_⟩|⟨_,_,_,_,rfl,_⟩<;>rfl
 simp[h1,h2]
theorem RMode.get {m:AMem} {c:List AVal} {x:Md} (h:RMode m c x): ∃e nm,c[0]? =some (.int .i64 x.kind)∧c[1]? =some (.int .i64 x.size)∧c[2]? =some e∧c[3]? =some nm∧c[4]? =some (.int .i64 x.dims)∧c[5]? =some (.bool x.flex)∧RInts m e x.elems∧RStrs m nm x.names∧c= [.int .i64 x.kind,.int .i64 x.size,e,nm,.int .i64 x.dims,.bool x.flex]:=by
 obtain ⟨e,nm,rfl,he,hn⟩:=h
 exact ⟨e,nm,rfl,rfl,rfl,rfl,rfl,rfl,he,hn,rfl⟩
theorem RInts.take {m:AMem} {s:AVal} {xs:List Int} (h:RInts m s xs) {i:Nat} (hi:i≤xs.length): ∃s',(∀k,sliceE 1 s none (some (.int k i))=some s')∧(∀m',RInts m' s xs→RInts m' s' (xs.take i)):=by
 obtain ⟨s',h1,_⟩:=Sl.take h hi
 refine ⟨s',h1,fun m' h'=>?_⟩
 obtain ⟨s'',h3,h4⟩:=Sl.take h' hi
 have:=(h3 .i64).symm.trans (h1 .i64)
 cases this
 unfold RInts
 rw[List.length_take,Nat.min_eq_left hi,List.map_take]
 simpa using h4
theorem RStrs.take {m:AMem} {s:AVal} {xs:List ByteArray} (h:RStrs m s xs) {i:Nat} (hi:i≤xs.length): ∃s',(∀k,sliceE 1 s none (some (.int k i))=some s')∧(∀m',RStrs m' s xs→RStrs m' s' (xs.take i)):=by
 obtain ⟨s',h1,_⟩:=Sl.take h hi
 refine ⟨s',h1,fun m' h'=>?_⟩
 obtain ⟨s'',h3,h4⟩:=Sl.take h' hi
 have:=(h3 .i64).symm.trans (h1 .i64)
 cases this
 unfold RStrs
 rw[List.length_take,Nat.min_eq_left hi,List.map_take]
 simpa using h4
class Cell {α:Type} (f:α→AVal):Prop where
 cells: ∀x,(f x).cells= [f x]
 one: ∀x,(f x).one=true
instance (k:IntKind):Cell (AVal.int k):=⟨fun _=>rfl,fun _=>rfl⟩
instance:Cell AVal.bool:=⟨fun _=>rfl,fun _=>rfl⟩
instance:Cell AVal.str:=⟨fun _=>rfl,fun _=>rfl⟩
abbrev natI (n:Nat):AVal:= .int .i64 n
instance:Cell natI:=⟨fun _=>rfl,fun _=>rfl⟩
def OwL {α:Type} (f:α→AVal) (lo:Nat) (m:AMem) (ty:TypeId) (s:AVal) (xs:List α):Prop:=Ow lo m 1 ty s xs.length (xs.map f)
section
variable {α:Type} {f:α→AVal} {lo:Nat} {m m':AMem} {ty:TypeId} {s:AVal} {xs:List α}
theorem OwL.len (h:OwL f lo m ty s xs):lenE s=some (.int .i64 xs.length):=(Ow.sl h).len
theorem OwL.ch {S:Nat→Prop} (h:OwL f lo m ty s xs) (hc:Ch S m m') (hs: ∀b,s.blk=some b→ ¬S b):OwL f lo m' ty s xs:=Ow.ch hc h hs
theorem OwL.mono (h:OwL f lo m ty s xs) (hc:m<+:m'):OwL f lo m' ty s xs:=Ow.mono hc h
theorem OwL.lo' {lo':Nat} (h:OwL f lo m ty s xs) (hl:lo'≤lo):OwL f lo' m ty s xs:=Ow.lo h hl
theorem OwL.blk_lo (h:OwL f lo m ty s xs) {b:Nat} (hb:s.blk=some b):lo≤b∧b<m.length:=Ow.blk_lo h hb
theorem OwL.nil:OwL f lo m ty .nilslice []:=Ow.nil
theorem OwL.ints {ty:TypeId} {xs:List Int} (h:OwL (AVal.int .i64) lo m ty s xs):RInts m s xs:=Ow.sl h
theorem OwL.take (h:OwL f lo m ty s xs) {i:Nat} (hi:i≤xs.length): ∃s',(∀k,sliceE 1 s none (some (.int k i))=some s')∧OwL f lo m ty s' (xs.take i)∧s'.blk=s.blk:=by
 obtain ⟨s',h1,h2,h3⟩:=Ow.take h hi
 refine ⟨s',h1,?_,h3⟩
 unfold OwL
 rw[List.length_take,Nat.min_eq_left hi,List.map_take]
 simpa using h2
theorem OwL.drop (h:OwL f lo m ty s xs) {i:Nat} (hi:i≤xs.length): ∃s',(∀k,sliceE 1 s (some (.int k i)) none=some s')∧OwL f lo m ty s' (xs.drop i)∧s'.blk=s.blk:=by
 obtain ⟨s',h1,h2,h3⟩:=Ow.drop h hi
 refine ⟨s',h1,?_,h3⟩
 unfold OwL
 rw[List.length_drop,List.map_drop]
 simpa using h2
theorem setN_one (cs:List AVal) (i:Nat) (x:AVal):setN cs i [x]=cs.set i x:=rfl
theorem OwL.at [hf:Cell f] (h:OwL f lo m ty s xs) {i:Nat} (hi:i<xs.length): ∃b o,s.blk=some b∧(∀k,iaddrE 1 s (.int k i)=some (.ptr b o))∧loadE m 1 false (.ptr b o)=some (f xs[i])∧
  ∀x,∃m',storeE m 1 (.ptr b o) (f x)=some (.undef,m')∧Ch (fun c=>c=b) m m'∧OwL f lo m' ty s (xs.set i x):=by
 obtain ⟨b,o,h1,h2,h3⟩:=Ow.store h hi
 obtain ⟨b',o',k1,k2,_⟩:=(Ow.sl h).at hi
 obtain ⟨rfl,rfl⟩:b'=b∧o'=o:=by have:=(k1 .i64).symm.trans (h2 .i64);simpa using this
 refine ⟨b',o',h1,h2,by have:=k2 0 (by omega);simpa[hi] using this,fun x=>?_⟩
 have hc:=hf.cells x
 obtain ⟨m',e1,e2,e3⟩:=h3 0 (f x) (by rw[hc];simp) (by rw[hc];simp[hf.one x])
 refine ⟨m',by rw[hc] at e1;exact e1,e2,?_⟩
 unfold OwL
 rw[List.length_set,List.map_set]
 rw[hc] at e3
 simpa[setN_one] using e3
theorem OwL.append [hf:Cell f] (h:OwL f lo m ty s xs) (hlo:lo≤m.length) {by_:Nat} (hb:by_≠0) (ys:List α) (hsz:(xs.length+ys.length)*by_≤140737488355328):
  ∃s' m',appendE m 1 by_ ty s ys.length (ys.map f)=some (s',m')∧Ch (fun b=>s.blk=some b) m m'∧OwL f lo m' ty s' (xs++ys)∧(∀b,s'.blk=some b→s.blk=some b∨m.length≤b):=by
 obtain ⟨s',m',h1,h2,h3,h4⟩:=Ow.append h hlo (k:=ys.length) (xs:=ys.map f) (by simp) (by simp[hf.one]) hb hsz
 refine ⟨s',m',h1,h2,?_,h4⟩
 unfold OwL
 rw[List.length_append,List.map_append]
 exact h3
theorem OwL.push [hf:Cell f] (h:OwL f lo m ty s xs) (hlo:lo≤m.length) {by_:Nat} (hb:by_≠0) (x:α) (hsz:(xs.length+1)*by_≤140737488355328):
  ∃s' m',appendE m 1 by_ ty s 1 [f x]=some (s',m')∧Ch (fun b=>s.blk=some b) m m'∧OwL f lo m' ty s' (xs++ [x])∧(∀b,s'.blk=some b→s.blk=some b∨m.length≤b):=OwL.append h hlo hb [x] hsz
theorem OwL.new [hf:Cell f] (m:AMem) (ty:TypeId) (xs:List α):OwL f m.length (m++ [.own (xs.map f) ty none]) ty (.slice m.length 0 xs.length xs.length none) xs:=
 Ow.new (by simp) (by simp[hf.one])
end
@[simp] theorem cells_lit (m:AMem) (c:AVal) (ty:TypeId) (g:Option Nat):sliceCells (m++ [.own [c] ty g]) 1 (.slice m.length 0 1 1 none)=some (1,[c]):=by
 simp[sliceCells,readB,ABlk.cells,readN]
end Go.Proofs.YtodhalcpnmddjaaDoor.Ax
namespace Go.Proofs.YtodhalcpnmddjaaDoor.Ax
open Go
class SCell {α:Type} (w:outParam Nat) (f:α→List AVal):Prop where
 len: ∀x,(f x).length=w
 one: ∀x,(f x).all AVal.one=true
section
variable {α:Type} {w:Nat} {f:α→List AVal} [hf:SCell w f]
include hf
theorem flat_len: ∀xs:List α,(xs.flatMap f).length=xs.length*w
 | []=>by simp
 |x::xs=>by rw[List.flatMap_cons,List.length_append,hf.len,flat_len xs,List.length_cons,Nat.succ_mul];omega
theorem flat_drop: ∀(xs:List α) (i:Nat),(xs.flatMap f).drop (i*w)=(xs.drop i).flatMap f
 | [],i=>by simp
 |x::xs,0=>by simp
 |x::xs,i+1=>by
  rw[List.flatMap_cons,List.drop_succ_cons,←flat_drop xs i,List.drop_append,List.drop_of_length_le (by rw[hf.len,Nat.succ_mul];omega),List.nil_append,hf.len,Nat.succ_mul,Nat.add_sub_cancel]
theorem flat_elem (xs:List α) {i:Nat} (hi:i<xs.length):((xs.flatMap f).drop (i*w)).take w=f xs[i]:=by
 rw[flat_drop,List.drop_eq_getElem_cons hi,List.flatMap_cons,List.take_append_of_le_length (by rw[hf.len];omega),List.take_of_length_le (by rw[hf.len];omega)]
theorem flat_get (xs:List α) {i:Nat} (hi:i<xs.length) {j:Nat} (hj:j<w):(xs.flatMap f)[i*w+j]? =(f xs[i])[j]? :=by
 rw[←flat_elem (f:=f) xs hi,List.getElem?_take,if_pos hj,List.getElem?_drop]
theorem flat_one (xs:List α):(xs.flatMap f).all AVal.one=true:=by
 rw[List.all_flatMap,List.all_eq_true]
 exact fun x _=>hf.one x
omit hf in
theorem setN_app: ∀(xs a b:List AVal),setN (a++b) a.length xs=a++setN b 0 xs
 | [],a,b=>rfl
 |x::xs,a,b=>by
  rw[setN,setN]
  have h:(a++b).set a.length x=a++b.set 0 x:=by rw[List.set_append_right _ _ (Nat.le_refl _),Nat.sub_self]
  rw[h]
  have h2:=setN_app2 xs a (b.set 0 x) 1
  exact h2
where setN_app2: ∀(xs a b:List AVal) (k:Nat),setN (a++b) (a.length+k) xs=a++setN b k xs
 | [],a,b,k=>rfl
 |x::xs,a,b,k=>by
  rw[setN,setN,List.set_append_right _ _ (by omega),show a.length+k-a.length=k by omega]
  exact setN_app2 xs a (b.set k x) (k+1)
omit hf in
theorem setN_all: ∀(xs b c:List AVal),xs.length=b.length→setN (b++c) 0 xs=xs++c:=by
 intro xs b c h
 refine List.ext_getElem? fun i=>?_
 rw[setN_get _ _ _ _ (by simp;omega)]
 by_cases hi:i<xs.length
 ·rw[if_pos (by omega),List.getElem?_append_left hi];simp
 ·rw[if_neg (by omega),List.getElem?_append_right (by omega),List.getElem?_append_right (by omega),h]
theorem flat_set: ∀(xs:List α) (i:Nat) (x:α),i<xs.length→setN (xs.flatMap f) (i*w) (f x)=(xs.set i x).flatMap f
 | [],i,x,h=>by simp at h
 |y::ys,0,x,h=>by
  rw[List.flatMap_cons,List.set_cons_zero,List.flatMap_cons,Nat.zero_mul]
  exact setN_all _ _ _ (by rw[hf.len,hf.len])
 |y::ys,i+1,x,h=>by
  rw[List.flatMap_cons,List.set_cons_succ,List.flatMap_cons,←flat_set ys i x (by simpa using h)]
  rw[Nat.succ_mul,Nat.add_comm (i*w),←hf.len y]
  exact setN_app.setN_app2 _ _ _ _
end
def SlF {α:Type} (w:Nat) (f:α→List AVal) (m:AMem) (s:AVal) (xs:List α):Prop:=Sl m w s xs.length (xs.flatMap f)
def OwF {α:Type} (w:Nat) (f:α→List AVal) (lo:Nat) (m:AMem) (ty:TypeId) (s:AVal) (xs:List α):Prop:=Ow lo m w ty s xs.length (xs.flatMap f)
section
variable {α:Type} {w:Nat} {f:α→List AVal} {lo:Nat} {m m':AMem} {ty:TypeId} {s:AVal} {xs:List α}
theorem SlF.len (h:SlF w f m s xs):lenE s=some (.int .i64 xs.length):=Sl.len h
theorem SlF.mono (h:SlF w f m s xs) (hm:m<+:m'):SlF w f m' s xs:=Sl.mono h hm
theorem SlF.nil:SlF w f m .nilslice []:=Sl.nil
theorem SlF.ch {S:Nat→Prop} (h:SlF w f m s xs) (hc:Ch S m m') (hs: ∀b,s.blk=some b→ ¬S b):SlF w f m' s xs:=Sl.ch hc h hs
theorem SlF.cells (h:SlF w f m s xs):sliceCells m w s=some (xs.length,xs.flatMap f):=Sl.cells h
theorem SlF.one (h:SlF w f m s xs):s.one=true∧s.cells= [s]:=by
 rcases h with ⟨rfl,_⟩|⟨_,_,_,_,rfl,_⟩<;>exact ⟨rfl,rfl⟩
theorem SlF.at [hf:SCell w f] (h:SlF w f m s xs) {i:Nat} (hi:i<xs.length):
  ∃b o,(∀k,iaddrE w s (.int k i)=some (.ptr b o))∧(∀j,j<w→loadE m 1 false (.ptr b (o+j))=(f xs[i])[j]?)∧loadE m w true (.ptr b o)=some (.agg (f xs[i])):=by
 obtain ⟨b,o,h1,h2,h3⟩:=Sl.at h hi
 exact ⟨b,o,h1,fun j hj=>by rw[h2 j hj,flat_get xs hi hj],by rw[h3,flat_elem xs hi]⟩
theorem OwF.sl (h:OwF w f lo m ty s xs):SlF w f m s xs:=Ow.sl h
theorem OwF.len (h:OwF w f lo m ty s xs):lenE s=some (.int .i64 xs.length):=(Ow.sl h).len
theorem OwF.ch {S:Nat→Prop} (h:OwF w f lo m ty s xs) (hc:Ch S m m') (hs: ∀b,s.blk=some b→ ¬S b):OwF w f lo m' ty s xs:=Ow.ch hc h hs
theorem OwF.mono (h:OwF w f lo m ty s xs) (hc:m<+:m'):OwF w f lo m' ty s xs:=Ow.mono hc h
theorem OwF.lo' {lo':Nat} (h:OwF w f lo m ty s xs) (hl:lo'≤lo):OwF w f lo' m ty s xs:=Ow.lo h hl
theorem OwF.blk_lo (h:OwF w f lo m ty s xs) {b:Nat} (hb:s.blk=some b):lo≤b∧b<m.length:=Ow.blk_lo h hb
theorem OwF.nil:OwF w f lo m ty .nilslice []:=Ow.nil
theorem OwF.new [hf:SCell w f] (m:AMem) (ty:TypeId) (xs:List α):OwF w f m.length (m++ [.own (xs.flatMap f) ty none]) ty (.slice m.length 0 xs.length xs.length none) xs:=
 Ow.new (flat_len xs) (flat_one xs)
theorem OwF.append [hf:SCell w f] (h:OwF w f lo m ty s xs) (hlo:lo≤m.length) {by_:Nat} (hb:by_≠0) (ys:List α) (hsz:(xs.length+ys.length)*by_≤140737488355328):
  ∃s' m',appendE m w by_ ty s ys.length (ys.flatMap f)=some (s',m')∧Ch (fun b=>s.blk=some b) m m'∧OwF w f lo m' ty s' (xs++ys)∧(∀b,s'.blk=some b→s.blk=some b∨m.length≤b):=by
 obtain ⟨s',m',h1,h2,h3,h4⟩:=Ow.append h hlo (k:=ys.length) (xs:=ys.flatMap f) (flat_len ys) (flat_one ys) hb hsz
 refine ⟨s',m',h1,h2,?_,h4⟩
 unfold OwF
 rw[List.length_append,List.flatMap_append]
 exact h3
theorem OwF.push [hf:SCell w f] (h:OwF w f lo m ty s xs) (hlo:lo≤m.length) {by_:Nat} (hb:by_≠0) (x:α) (hsz:(xs.length+1)*by_≤140737488355328):
  ∃s' m',appendE m w by_ ty s 1 (f x)=some (s',m')∧Ch (fun b=>s.blk=some b) m m'∧OwF w f lo m' ty s' (xs++ [x])∧(∀b,s'.blk=some b→s.blk=some b∨m.length≤b):=by
 have:=OwF.append h hlo hb [x] hsz
 simpa using this
theorem OwF.at [hf:SCell w f] (h:OwF w f lo m ty s xs) {i:Nat} (hi:i<xs.length): ∃b o,s.blk=some b∧(∀k,iaddrE w s (.int k i)=some (.ptr b o))∧(∀j,j<w→loadE m 1 false (.ptr b (o+j))=(f xs[i])[j]?)∧loadE m w true (.ptr b o)=some (.agg (f xs[i]))∧
  (∀x,∃m',storeE m w (.ptr b o) (.agg (f x))=some (.undef,m')∧Ch (fun c=>c=b) m m'∧OwF w f lo m' ty s (xs.set i x))∧
  ∀(j:Nat) (v:AVal) (x:α),j+v.cells.length≤w→v.cells.all AVal.one=true→setN (f xs[i]) j v.cells=f x→ ∃m',storeE m v.cells.length (.ptr b (o+j)) v=some (.undef,m')∧Ch (fun c=>c=b) m m'∧OwF w f lo m' ty s (xs.set i x):=by
 obtain ⟨b,o,h1,h2,h3⟩:=Ow.store h hi
 obtain ⟨b',o',k1,k2,k3⟩:=SlF.at (Ow.sl h) hi
 obtain ⟨rfl,rfl⟩:b'=b∧o'=o:=by have:=(k1 .i64).symm.trans (h2 .i64);simpa using this
 refine ⟨b',o',h1,h2,k2,k3,fun x=>?_,fun j v x hj hv he=>?_⟩
 ·have hc:(AVal.agg (f x)).cells=f x:=rfl
  obtain ⟨m',e1,e2,e3⟩:=h3 0 (.agg (f x)) (by rw[hc,hf.len];omega) (by rw[hc];exact hf.one x)
  refine ⟨m',by rw[hc,hf.len] at e1;exact e1,e2,?_⟩
  unfold OwF
  rw[List.length_set,←flat_set xs i x hi]
  rw[hc] at e3
  exact e3
 ·obtain ⟨m',e1,e2,e3⟩:=h3 j v hj hv
  refine ⟨m',e1,e2,?_⟩
  unfold OwF
  rw[List.length_set,←flat_set xs i x hi,←he]
  have:setN (xs.flatMap f) (i*w+j) v.cells=setN (xs.flatMap f) (i*w) (setN (f xs[i]) j v.cells):=by
   have hl:=flat_len (f:=f) xs
   have hle:i*w+w≤xs.length*w:=by rw[←Nat.succ_mul];exact Nat.mul_le_mul_right _ hi
   have hfl:=hf.len xs[i]
   refine List.ext_getElem? fun q=>?_
   rw[setN_get _ _ _ _ (by omega),setN_get _ _ _ _ (by rw[setN_length,hfl];omega),setN_length,hfl]
   by_cases hq:i*w≤q∧q<i*w+w
   ·rw[if_pos hq,setN_get _ _ _ _ (by omega)]
    obtain ⟨p,rfl⟩: ∃p,q=i*w+p:=⟨q-i*w,by omega⟩
    rw[Nat.add_sub_cancel_left,flat_get xs hi (by omega)]
    by_cases hp:j≤p∧p<j+v.cells.length
    ·rw[if_pos (by omega),if_pos hp,show i*w+p-(i*w+j)=p-j by omega]
    ·rw[if_neg (by omega),if_neg hp]
   ·rw[if_neg hq,if_neg (by omega)]
  rw[←this]
  exact e3
end
end Go.Proofs.YtodhalcpnmddjaaDoor.Ax
namespace Go.Proofs.YtodhalcpnmddjaaDoor
open Go Ax
set_option maxRecDepth 100000
structure Dm where
 l:Int
 u:Int
 s:Int
def lenI (l u:Int):Int:=if u<l then 0 else u-l+1
def Dm.n (d:Dm):Nat:=(lenI d.l d.u).toNat
theorem Dm.n_pos {d:Dm} (h:1≤d.n):d.l≤d.u∧(d.n:Int)=d.u-d.l+1:=by
 unfold Dm.n lenI at*
 split at h
 ·simp at h
 ·rename_i h1
  rw[if_neg h1]
  omega
def offs:List Dm→List Int
 | []=> [0]
 |d::ds=>(List.range d.n).flatMap fun i:Nat=>(offs ds).map fun o=>(i:Int)*d.s+o
def lowS:List Dm→Int
 | []=>0
 |d::ds=>min 0 (((d.n:Int)-1)*d.s)+lowS ds
def highS:List Dm→Int
 | []=>0
 |d::ds=>max 0 (((d.n:Int)-1)*d.s)+highS ds
theorem mul_between {i n:Nat} {s:Int} (h:i<n):min 0 (((n:Int)-1)*s)≤(i:Int)*s∧(i:Int)*s≤max 0 (((n:Int)-1)*s):=by
 have h1:(i:Int)≤(n:Int)-1:=by omega
 have h0:(0:Int)≤(i:Int):=by omega
 rcases Int.le_total 0 s with hs|hs
 ·have a:=Int.mul_le_mul_of_nonneg_right h1 hs
  have b:=Int.mul_nonneg h0 hs
  generalize (i:Int)*s=x at*
  generalize ((n:Int)-1)*s=y at*
  omega
 ·have a:=Int.mul_le_mul_of_nonpos_right h1 hs
  have b:=Int.mul_nonpos_of_nonneg_of_nonpos h0 hs
  generalize (i:Int)*s=x at*
  generalize ((n:Int)-1)*s=y at*
  omega
theorem offs_range: ∀{ds:List Dm},(∀d∈ds,1≤d.n)→(∀o∈offs ds,lowS ds≤o∧o≤highS ds)∧lowS ds∈offs ds∧highS ds∈offs ds
 | [],_=>by simp[offs,lowS,highS]
 |d::ds,h=>by
  obtain ⟨h1,h2,h3⟩:=offs_range (ds:=ds) fun d hd=>h d (List.mem_cons_of_mem _ hd)
  have hn:=h d List.mem_cons_self
  have key: ∀{o:Int},o∈offs (d::ds)↔ ∃i,i<d.n∧ ∃p∈offs ds,(i:Int)*d.s+p=o:=fun {o}=>by
   rw[offs,List.mem_flatMap]
   simp only[List.mem_range,List.mem_map]
  refine ⟨fun o ho=>?_,?_,?_⟩
  ·obtain ⟨i,hi,p,hp,rfl⟩:=key.1 ho
   have:=h1 p hp
   have hm:=mul_between (s:=d.s) hi
   unfold lowS highS
   omega
  ·rw[key,lowS]
   rcases Int.le_total 0 (((d.n:Int)-1)*d.s) with hs|hs
   ·exact ⟨0,by omega,lowS ds,h2,by simp;omega⟩
   ·exact ⟨d.n-1,by omega,lowS ds,h2,by rw[show ((d.n-1:Nat):Int)=(d.n:Int)-1 by omega];generalize ((d.n:Int)-1)*d.s=y at*;omega⟩
  ·rw[key,highS]
   rcases Int.le_total 0 (((d.n:Int)-1)*d.s) with hs|hs
   ·exact ⟨d.n-1,by omega,highS ds,h3,by rw[show ((d.n-1:Nat):Int)=(d.n:Int)-1 by omega];generalize ((d.n:Int)-1)*d.s=y at*;omega⟩
   ·exact ⟨0,by omega,highS ds,h3,by simp;omega⟩
def els:List Dm→List (List Int)
 | []=> [[]]
 |d::ds=>(List.range d.n).flatMap fun i:Nat=>(els ds).map fun ss=>(d.l+i)::ss
def plcO:List Dm→List Int→Int
 |d::ds,x::xs=>(x-d.l)*d.s+plcO ds xs
 |_,_=>0
theorem els_offs: ∀ds:List Dm,(els ds).map (plcO ds)=offs ds
 | []=>rfl
 |d::ds=>by
  rw[els,offs,List.map_flatMap]
  congr 1
  funext i
  rw[←els_offs ds,List.map_map,List.map_map]
  refine List.map_congr_left fun ss _=>?_
  show (d.l+i-d.l)*d.s+plcO ds ss=(i:Int)*d.s+plcO ds ss
  rw[show d.l+(i:Int)-d.l=(i:Int) by omega]
theorem els_len: ∀{ds:List Dm} {ss:List Int},ss∈els ds→ss.length=ds.length
 | [],ss,h=>by simp[els] at h;subst h;rfl
 |d::ds,ss,h=>by
  rw[els,List.mem_flatMap] at h
  obtain ⟨i,_,h⟩:=h
  obtain ⟨tt,ht,rfl⟩:=List.mem_map.1 h
  simp[els_len ht]
def cntN:List Dm→Nat
 | []=>1
 |d::ds=>d.n*cntN ds
theorem els_count: ∀ds:List Dm,(els ds).length=cntN ds
 | []=>rfl
 |d::ds=>by
  rw[els,cntN,←els_count ds]
  generalize els ds=E
  have: ∀zs:List Nat,(zs.flatMap fun i:Nat=>E.map fun ss=>(d.l+(i:Int))::ss).length=zs.length*E.length:=fun zs=>by
   induction zs with
   |nil=>simp
   |cons z zs ih=>rw[List.flatMap_cons,List.length_append,ih,List.length_map,List.length_cons,Nat.succ_mul];omega
  rw[this,List.length_range]
def fstE (ds:List Dm):List Int:=ds.map (·.l)
def nxtE:List Dm→List Int→Option (List Int)
 |d::ds,x::xs=>match nxtE ds xs with
  |some ys=>some (x::ys)
  |none=>if x+1≤d.u then some ((x+1)::fstE ds) else none
 |_,_=>none
def Chain (f:List Int→Option (List Int)):List Int→List (List Int)→Prop
 |x,[]=>f x=none
 |x,y::ys=>f x=some y∧Chain f y ys
theorem chain_map {f g:List Int→Option (List Int)} {c:Int} {rest:List (List Int)}: ∀{ys:List (List Int)} {x:List Int},Chain f x ys→(∀a b,f a=some b→g (c::a)=some (c::b))→(∀a,f a=none→(∃z zs,rest=z::zs∧g (c::a)=some z∧Chain g z zs)∨(rest= []∧g (c::a)=none))→Chain g (c::x) (ys.map (c:: ·)++rest)
 | [],x,h,_,h2=>by
  rcases h2 x h with ⟨z,zs,rfl,h3,h4⟩|⟨rfl,h3⟩
  ·exact ⟨h3,h4⟩
  ·exact h3
 |y::ys,x,⟨h0,h1⟩,hs,h2=>⟨hs _ _ h0,chain_map h1 hs h2⟩
theorem els_chain: ∀{ds:List Dm},(∀d∈ds,1≤d.n)→ ∃rest,els ds=fstE ds::rest∧Chain (nxtE ds) (fstE ds) rest
 | [],_=>⟨[],rfl,rfl⟩
 |d::ds,h=>by
  obtain ⟨rest,h1,h2⟩:=els_chain (ds:=ds) fun d hd=>h d (List.mem_cons_of_mem _ hd)
  obtain ⟨hlu,hn⟩:=Dm.n_pos (h d List.mem_cons_self)
  have step: ∀c a b,nxtE ds a=some b→nxtE (d::ds) (c::a)=some (c::b):=fun c a b e=>by simp[nxtE,e]
  have key: ∀(q i:Nat),i+q+1=d.n→ ∃tl,(List.range' i (q+1)).flatMap (fun i:Nat=>(els ds).map fun ss=>(d.l+(i:Int))::ss)=((d.l+(i:Int))::fstE ds)::tl∧Chain (nxtE (d::ds)) ((d.l+(i:Int))::fstE ds) tl:=fun q=>by
   induction q with
   |zero=>
    intro i hi
    refine ⟨rest.map ((d.l+(i:Int)):: ·),by simp[List.range',h1],?_⟩
    have:=chain_map (g:=nxtE (d::ds)) (c:=d.l+(i:Int)) (rest:= []) h2 (step _) fun a ha=> .inr ⟨rfl,by simp only[nxtE,ha];rw[if_neg (by omega)]⟩
    simpa using this
   |succ q ih=>
    intro i hi
    obtain ⟨tl,e1,e2⟩:=ih (i+1) (by omega)
    refine ⟨rest.map ((d.l+(i:Int)):: ·)++((d.l+((i+1:Nat):Int))::fstE ds)::tl,?_,?_⟩
    ·rw[List.range'_succ,List.flatMap_cons,e1,h1]
     rfl
    ·refine chain_map h2 (step _) fun a ha=> .inl ⟨_,_,rfl,?_,e2⟩
     simp only[nxtE,ha]
     rw[if_pos (by omega)]
     congr 2
     omega
  obtain ⟨q,hq⟩: ∃q,q+1=d.n:=⟨d.n-1,by have:=h d List.mem_cons_self;omega⟩
  obtain ⟨tl,e1,e2⟩:=key q 0 (by omega)
  refine ⟨tl,?_,?_⟩
  ·rw[els,List.range_eq_range',←hq,e1]
   simp[fstE]
  ·have:fstE (d::ds)=(d.l+((0:Nat):Int))::fstE ds:=by simp[fstE]
   rw[this]
   exact e2
end Go.Proofs.YtodhalcpnmddjaaDoor
namespace Go.Proofs.YtodhalcpnmddjaaDoor
open Go Ax
set_option maxRecDepth 100000
def plainD:List (Int×Int)→List Dm
 | []=> []
 |b::bs=>⟨b.1,b.2,cntN (plainD bs)⟩::plainD bs
theorem range_mul (c:Nat): ∀n:Nat,((List.range n).flatMap fun i:Nat=>(List.range c).map fun o:Nat=>((i:Int)*(c:Int)+(o:Int)))=(List.range (n*c)).map fun z:Nat=>(z:Int)
 |0=>by simp
 |n+1=>by
  rw[List.range_succ,List.flatMap_append,range_mul c n,List.flatMap_cons,List.flatMap_nil,List.append_nil,Nat.succ_mul,List.range_add,List.map_append,List.map_map]
  congr 1
theorem plain_offs: ∀bs:List (Int×Int),offs (plainD bs)=(List.range (cntN (plainD bs))).map fun z:Nat=>(z:Int)
 | []=>rfl
 |b::bs=>by
  rw[plainD,offs,plain_offs bs,cntN]
  rw[←range_mul (cntN (plainD bs)) (Dm.n ⟨b.1,b.2,cntN (plainD bs)⟩)]
  congr 1
  funext i
  rw[List.map_map]
  rfl
end Go.Proofs.YtodhalcpnmddjaaDoor
namespace Go.Proofs.YtodhalcpnmddjaaDoor
open Go Ax
set_option maxRecDepth 100000
def nearI (n:Int):Bool:=decide (-2147483647≤n)&&decide (n≤2147483647)
def lenB (b:Int×Int):Nat:=(lenI b.1 b.2).toNat
def prodN:List (Int×Int)→Nat
 | []=>1
 |b::bs=>lenB b*prodN bs
def emptyB (bs:List (Int×Int)):Bool:=bs.any fun b=>lenB b==0
def cntI (bs:List (Int×Int)):Option Nat:=if emptyB bs=true then some 0 else if prodN bs≤65536 then some (prodN bs) else none
def checkB (bs:List (Int×Int)):Int:=if 3<bs.length then 14 else if (bs.any fun b=> !(nearI b.1&&nearI b.2))=true then 20 else if cntI bs=none then 3 else 0
def bndsD (ds:List Dm):List (Int×Int):=ds.map fun d=>(d.l,d.u)
theorem prodN_cnt: ∀ds:List Dm,prodN (bndsD ds)=cntN ds
 | []=>rfl
 |d::ds=>by show lenB (d.l,d.u)*prodN (bndsD ds)=d.n*cntN ds;rw[prodN_cnt ds];rfl
theorem bnds_plain: ∀bs:List (Int×Int),bndsD (plainD bs)=bs
 | []=>rfl
 |b::bs=>by show (b.1,b.2)::bndsD (plainD bs)=b::bs;rw[bnds_plain bs]
theorem prodN_append: ∀xs ys:List (Int×Int),prodN (xs++ys)=prodN xs*prodN ys
 | [],ys=>by simp[prodN]
 |x::xs,ys=>by rw[List.cons_append,prodN,prodN,prodN_append xs ys,Nat.mul_assoc]
theorem prodN_take {bs:List (Int×Int)} {i:Nat} (hi:i<bs.length):prodN (bs.take (i+1))=prodN (bs.take i)*lenB bs[i]:=by
 rw[List.take_add_one,List.getElem?_eq_getElem hi,Option.toList_some,prodN_append]
 simp[prodN]
theorem prodN_pos: ∀{bs:List (Int×Int)},emptyB bs=false→1≤prodN bs
 | [],_=>by simp[prodN]
 |b::bs,h=>by
  unfold emptyB at h
  rw[List.any_cons,Bool.or_eq_false_iff] at h
  have h1:lenB b≠0:=by simpa using h.1
  have h2:=prodN_pos (bs:=bs) h.2
  rw[prodN]
  exact Nat.mul_pos (by omega) h2
theorem prodN_le {bs:List (Int×Int)} (h:emptyB bs=false) {i:Nat} (hi:i≤bs.length):prodN (bs.take i)≤prodN bs:=by
 have e:prodN bs=prodN (bs.take i)*prodN (bs.drop i):=by rw[←prodN_append,List.take_append_drop]
 have h1:emptyB (bs.drop i)=false:=by
  unfold emptyB at*
  rw[List.any_eq_false] at*
  exact fun b hb=>h b (List.mem_of_mem_drop hb)
 have:=prodN_pos h1
 rw[e]
 exact Nat.le_mul_of_pos_right _ this
theorem lenB_le {bs:List (Int×Int)} (h:emptyB bs=false) {i:Nat} (hi:i<bs.length):lenB bs[i]≤prodN bs:=by
 have h1:=prodN_le h (i:=i+1) (by omega)
 rw[prodN_take hi] at h1
 have h2:emptyB (bs.take i)=false:=by
  unfold emptyB at*
  rw[List.any_eq_false] at*
  exact fun b hb=>h b (List.mem_of_mem_take hb)
 have:=prodN_pos h2
 exact Nat.le_trans (Nat.le_mul_of_pos_left _ this) h1
def farB (b:Int):Bool:=decide (1152921504606846976<b)||decide (b< -1152921504606846976)
def farS (d:Dm):Bool:=decide (2≤d.n)&&(decide (1099511627776<d.s)||decide (d.s< -1099511627776))
def rangeI (b:Int) (ds:List Dm) (n:Int):Int:=if farB b=true∨ds.any farS=true then 11 else if b+lowS ds<0∨n≤b+highS ds then 11 else 0
def rightD (b:Int) (ds:List Dm) (n:Int):Int:=if checkB (bndsD ds)≠0 then checkB (bndsD ds) else if emptyB (bndsD ds)=true then 0 else rangeI b ds n
theorem empty_pos {ds:List Dm} (h:emptyB (bndsD ds)=false): ∀d∈ds,1≤d.n:=fun d hd=>by
 unfold emptyB at h
 rw[List.any_eq_false] at h
 have:=h (d.l,d.u) (List.mem_map.2 ⟨d,hd,rfl⟩)
 have h2: ¬d.n=0:=by simpa[lenB,Dm.n] using this
 omega
theorem range_iff {b n:Int} {ds:List Dm} (h:emptyB (bndsD ds)=false) (h1:farB b=false) (h2:ds.any farS=false):rangeI b ds n=0↔ ∀o∈offs ds,0≤b+o∧b+o<n:=by
 obtain ⟨g1,g2,g3⟩:=offs_range (empty_pos h)
 unfold rangeI
 rw[if_neg (by rw[h1,h2];simp)]
 constructor
 ·intro e o ho
  have:=g1 o ho
  split at e
  ·cases e
  ·omega
 ·intro e
  have:=e _ g2
  have:=e _ g3
  rw[if_neg (by omega)]
theorem range_11 (b:Int) (ds:List Dm) (n:Int):rangeI b ds n=0∨rangeI b ds n=11:=by
 unfold rangeI
 split
 ·exact .inr rfl
 ·split
  ·exact .inr rfl
  ·exact .inl rfl
end Go.Proofs.YtodhalcpnmddjaaDoor
namespace Go.Proofs.YtodhalcpnmddjaaDoor
open Go Ax
theorem wrap_mod (x:Int):(IntKind.i64.wrap x)%18446744073709551616=x%18446744073709551616:=by
 simp only[IntKind.wrap,IntKind.bits,IntKind.signed,Bool.true_and,decide_eq_true_eq,ge_iff_le,Nat.reduceSub,Int.reducePow]
 split<;>omega
theorem wrap_congr {x y:Int} (h:x%18446744073709551616=y%18446744073709551616):IntKind.i64.wrap x=IntKind.i64.wrap y:=by
 simp only[IntKind.wrap,IntKind.bits,IntKind.signed,Bool.true_and,decide_eq_true_eq,ge_iff_le,Nat.reduceSub,Int.reducePow]
 rw[h]
theorem wrap_mul_l (a b:Int):IntKind.i64.wrap (IntKind.i64.wrap a*b)=IntKind.i64.wrap (a*b):=by
 refine wrap_congr ?_
 rw[Int.mul_emod,wrap_mod,←Int.mul_emod]
def plainW:List (Int×Int)→List Dm
 | []=> []
 |b::bs=>⟨b.1,b.2,IntKind.i64.wrap (prodN bs:Int)⟩::plainW bs
theorem plainW_len: ∀bs:List (Int×Int),(plainW bs).length=bs.length
 | []=>rfl
 |b::bs=>by simp[plainW,plainW_len bs]
theorem plainW_bnds: ∀bs:List (Int×Int),bndsD (plainW bs)=bs
 | []=>rfl
 |b::bs=>by show (b.1,b.2)::bndsD (plainW bs)=b::bs;rw[plainW_bnds bs]
theorem plainW_eq {bs:List (Int×Int)} (h:emptyB bs=false) (hp:prodN bs≤65536):plainW bs=plainD bs:=by
 induction bs with
 |nil=>rfl
 |cons b bs ih=>
  have h2:emptyB bs=false:=by
   unfold emptyB at h ⊢
   rw[List.any_cons,Bool.or_eq_false_iff] at h
   exact h.2
  have h1:=prodN_le h (i:=1) (by simp)
  have hb:1≤lenB b:=by
   unfold emptyB at h
   rw[List.any_cons,Bool.or_eq_false_iff] at h
   have:lenB b≠0:=by simpa using h.1
   omega
  have h3:prodN bs≤prodN (b::bs):=by rw[prodN];exact Nat.le_mul_of_pos_left _ hb
  have hc:prodN bs=cntN (plainD bs):=by rw[←prodN_cnt,bnds_plain]
  rw[plainW,plainD,ih h2 (by omega),←hc]
  congr 2
  rw[wrap64 (by omega) (by omega)]
theorem plainW_get: ∀{bs:List (Int×Int)} {i:Nat} (hi:i<bs.length),(plainW bs)[i]'(by rw[plainW_len];exact hi)=⟨bs[i].1,bs[i].2,IntKind.i64.wrap (prodN (bs.drop (i+1)):Int)⟩
 |b::bs,0,_=>by simp[plainW]
 |b::bs,i+1,hi=>by
  have:=plainW_get (bs:=bs) (i:=i) (by simpa using hi)
  simpa[plainW] using this
end Go.Proofs.YtodhalcpnmddjaaDoor
namespace Go.Proofs.YtodhalcpnmddjaaDoor
open Go Ax
theorem mix: Tryd.prog.follows .mixedOrders=true:=by kernel_rfl
abbrev qv (d s:Nat):CI:=⟨some d,.P (.mov (.t s)),none⟩
abbrev qi (d:Nat) (z:Int):CI:=⟨some d,.P (.mov (.c (.int .i64 z))),none⟩
abbrev qb (d:Nat) (b:Bool):CI:=⟨some d,.P (.mov (.c (.bool b))),none⟩
abbrev qg (d s n:Nat) (b:Bool):CI:=⟨some d,.P (.mov (.t s)),some (n,b)⟩
abbrev ql (d s:Nat):CI:=⟨some d,.R (.load 1 false (.t s)),none⟩
abbrev qa (d n s i:Nat):CI:=⟨some d,.P (.iaddr n (.t s) (.t i)),none⟩
abbrev qx (d s i:Nat):CI:=⟨some d,.P (.ext (.t s) i),none⟩
abbrev qn (d s:Nat):CI:=⟨some d,.P (.len (.t s)),none⟩
abbrev qc (d f:Nat) (xs:List Arg):CI:=⟨some d,.C (.c (.func (.func f) [] [])) xs,none⟩
abbrev qo (d:Nat) (o:BinOp) (x y:Nat):CI:=⟨some d,.P (.bin o (.t x) (.t y)),none⟩
abbrev qk (d:Nat) (o:BinOp) (x:Nat) (z:Int):CI:=⟨some d,.P (.bin o (.t x) (.c (.int .i64 z))),none⟩
abbrev qz (z:Int):Arg:= .c (.int .i64 z)
end Go.Proofs.YtodhalcpnmddjaaDoor
namespace Go.Proofs.YtodhalcpnmddjaaDoor
open Go Ax
set_option maxRecDepth 100000
theorem w21 {args m R} (h:W Tryd.prog (.seq (.reg [⟨some 2,.A (.box 26 (.t 0)),none⟩,qi 4 0]) (.kill [1,2] (.seq (.seq (.reg [⟨some 11,.R (.load 2 true (.t 2)),none⟩,qc 12 54 [(.t 11)],qc 13 46 [(.t 12)],qv 5 13]) (.kill [1,2,5] (.seq (.reg [qv 14 5,qk 15 .neq 14 0]) (.kill [1,2,5,15] (.cond (.t 15) (.seq (.reg [qv 16 5,qv 4 16]) .ret) .skip))))) (.kill [1,2] (.seq (.seq (.reg [⟨some 18,.R (.load 2 true (.t 2)),none⟩,qc 19 54 [(.t 18)],qc 20 55 [(.t 19)],qv 17 20,qx 21 17 0,qx 22 17 1,qv 6 21,qv 7 22]) (.kill [1,2,6] (.seq (.reg [qv 23 6,qk 24 .eql 23 0]) (.kill [1,2,24] (.cond (.t 24) (.seq (.reg [qi 4 0]) .ret) .skip))))) (.kill [1,2] (.seq (.reg [⟨some 26,.R (.load 2 true (.t 2)),none⟩,qc 27 56 [(.t 26)],qv 25 27,qx 28 25 0,qx 29 25 1,qx 30 25 2,qv 8 28,qv 9 29,qv 10 30]) (.kill [1,8,9,10] (.seq (.seq (.reg [qv 31 10,⟨some 32,.P (.un .not (.t 31)),none⟩,qv 33 32,⟨some 34,.P (.mov (.t 8)),(some (33,false))⟩,⟨some 35,.P (.bin .lss (.t 34) (qz 0)),(some (33,false))⟩,⟨some 36,.P (.pick (.t 33) (.c (.bool true)) (.t 35)),none⟩,qv 37 36,⟨some 38,.P (.mov (.t 9)),(some (37,false))⟩,⟨some 39,.P (.mov (.t 1)),(some (37,false))⟩,⟨some 40,.P (.bin .geq (.t 38) (.t 39)),(some (37,false))⟩,⟨some 41,.P (.pick (.t 37) (.c (.bool true)) (.t 40)),none⟩]) (.kill [41] (.cond (.t 41) (.seq (.reg [qi 4 11]) .ret) .skip))) (.kill [] (.seq (.reg [qi 4 0]) .ret))))))))))) (E [(.tmp 4)] R .mk) .mk (mat 42 (sArgs 0 args)) m) (hl:Nat.ble args.length 42=true:=by rfl):ACalls Tryd.prog 21 args m R:=walk mix (by kernel_rfl) (Nat.le_of_ble_eq_true hl) h
theorem w22 {args m R} (h:W Tryd.prog (.seq (.reg [⟨some 2,.A (.box 32 (.t 0)),none⟩,qi 4 0]) (.kill [1,2] (.seq (.seq (.reg [⟨some 10,.R (.load 2 true (.t 2)),none⟩,qc 11 26 [(.t 10)],qc 12 48 [(.t 11)],qv 5 12]) (.kill [1,2,5] (.seq (.reg [qv 13 5,qk 14 .neq 13 0]) (.kill [1,2,5,14] (.cond (.t 14) (.seq (.reg [qv 15 5,qv 4 15]) .ret) .skip))))) (.kill [1,2] (.seq (.reg [⟨some 16,.R (.load 2 true (.t 2)),none⟩,qc 17 39 [(.t 16)],qv 6 17]) (.kill [1,2,6] (.seq (.seq (.reg [qi 7 0]) (.block 0 (.kill [1,2,6,7] (.loop (.fin [1,2,6,7] (.seq (.seq (.reg [qv 18 7,qv 19 6,qn 20 19,qo 21 .lss 18 20]) (.kill [1,2,6,7,21] (.cond (.t 21) .skip (.exit 0)))) (.kill [1,2,6,7] (.seq (.block 1 (.seq (.draw true [⟨some 25,.R (.load 2 true (.t 2)),none⟩,qv 26 6,qv 27 7,qa 28 1 26 27,ql 29 28,qv 30 1,qc 31 57 [(.t 25),(.t 29),(.t 30)],qv 24 31,qx 32 24 0,qx 33 24 1,qv 8 32,qv 9 33] [[],[],[],[],[],[],[],[6],[6],[6],[6],[6]] [[],[],[],[],[],[],[],[],[],[],[],[]] [0,1,2,3,4,5,6,7,8,9,10,11]) (.kill [1,2,6,7,9] (.seq (.reg [qv 34 9,⟨some 35,.P (.un .not (.t 34)),none⟩]) (.kill [1,2,6,7,35] (.cond (.t 35) (.seq (.reg [qi 4 11]) .ret) .skip)))))) (.kill [1,2,6,7] (.reg [qv 22 7,qk 23 .add 22 1,qv 7 23])))))))))) (.kill [] (.seq (.reg [qi 4 0]) .ret))))))))) (E [(.tmp 4)] R .mk) .mk (mat 36 (sArgs 0 args)) m) (hl:Nat.ble args.length 36=true:=by rfl):ACalls Tryd.prog 22 args m R:=walk mix (by kernel_rfl) (Nat.le_of_ble_eq_true hl) h
abbrev h22_0 (t1 t2 t6 t7:AVal):AFrame:=mat 36 [(1,t1),(2,t2),(6,t6),(7,t7)]
theorem w23 {args m R} (h:W Tryd.prog (.seq (.reg [⟨some 1,.A (.box 26 (.t 0)),none⟩,qi 2 0]) (.kill [1] (.seq (.seq (.reg [⟨some 5,.R (.load 2 true (.t 1)),none⟩,qc 6 58 [(.t 5)]]) (.kill [1,6] (.cond (.t 6) (.seq (.reg [qi 2 0]) .ret) .skip))) (.kill [1] (.seq (.reg [⟨some 8,.R (.load 2 true (.t 1)),none⟩,qc 9 54 [(.t 8)],qc 10 55 [(.t 9)],qv 7 10,qx 11 7 0,qx 12 7 1,qv 3 11,qv 4 12]) (.kill [3] (.seq (.reg [qv 13 3,qv 2 13]) .ret))))))) (E [(.tmp 2)] R .mk) .mk (mat 14 (sArgs 0 args)) m) (hl:Nat.ble args.length 14=true:=by rfl):ACalls Tryd.prog 23 args m R:=walk mix (by kernel_rfl) (Nat.le_of_ble_eq_true hl) h
theorem w24 {args m R} (h:W Tryd.prog (.seq (.reg [⟨some 1,.A (.box 32 (.t 0)),none⟩,qi 2 0]) (.kill [1] (.seq (.seq (.reg [⟨some 3,.R (.load 2 true (.t 1)),none⟩,qc 4 59 [(.t 3)]]) (.kill [1,4] (.cond (.t 4) (.seq (.reg [qi 2 0]) .ret) .skip))) (.kill [1] (.seq (.reg [⟨some 5,.R (.load 2 true (.t 1)),none⟩,qc 6 26 [(.t 5)],qc 7 60 [(.t 6)],qv 2 7]) .ret))))) (E [(.tmp 2)] R .mk) .mk (mat 8 (sArgs 0 args)) m) (hl:Nat.ble args.length 8=true:=by rfl):ACalls Tryd.prog 24 args m R:=walk mix (by kernel_rfl) (Nat.le_of_ble_eq_true hl) h
theorem w25 {args m R} (h:W Tryd.prog (.seq (.reg [⟨some 1,.A (.box 26 (.t 0)),none⟩,⟨some 2,.P (.mov (.c .nilslice)),none⟩]) (.kill [1] (.seq (.seq (.reg [⟨some 3,.R (.load 2 true (.t 1)),none⟩,qc 4 58 [(.t 3)]]) (.kill [1,4] (.cond (.t 4) (.seq (.reg [⟨some 2,.P (.mov (.c .nilslice)),none⟩]) .ret) .skip))) (.kill [1] (.seq (.reg [⟨some 5,.R (.load 2 true (.t 1)),none⟩,qc 6 54 [(.t 5)],qv 2 6]) .ret))))) (E [(.tmp 2)] R .mk) .mk (mat 7 (sArgs 0 args)) m) (hl:Nat.ble args.length 7=true:=by rfl):ACalls Tryd.prog 25 args m R:=walk mix (by kernel_rfl) (Nat.le_of_ble_eq_true hl) h
theorem w26 {args m R} (h:W Tryd.prog (.seq (.reg [⟨some 1,.A (.box 32 (.t 0)),none⟩,⟨some 2,.P (.mov (.c .nilslice)),none⟩]) (.kill [1] (.seq (.reg [⟨some 3,.P (.mov (.c .nilslice)),none⟩]) (.seq (.seq (.reg [qi 4 0]) (.block 0 (.kill [1,3,4] (.loop (.fin [1,3,4] (.seq (.seq (.reg [qv 5 4,⟨some 6,.P (.faddr 1 (.t 1)),none⟩,ql 7 6,qn 8 7,qo 9 .lss 5 8]) (.kill [1,3,4,9] (.cond (.t 9) .skip (.exit 0)))) (.kill [1,3,4] (.seq (.block 1 (.draw true [qv 12 3,⟨some 13,.P (.faddr 1 (.t 1)),none⟩,ql 14 13,qv 15 4,qa 16 3 14 15,⟨some 17,.P (.faddr 0 (.t 16)),none⟩,ql 18 17,⟨some 19,.P (.faddr 1 (.t 1)),none⟩,ql 20 19,qv 21 4,qa 22 3 20 21,⟨some 23,.P (.faddr 1 (.t 22)),none⟩,ql 24 23,⟨some 25,.P (.build [(.int .i64 0),(.int .i64 0)] [(0,(1,(.t 18))),(1,(1,(.t 24)))]),none⟩,⟨some 26,.A (.bslice 88 1 [(.int .i64 0),(.int .i64 0)] [(0,(2,(.t 25)))]),none⟩,⟨some 27,.W (.append 2 16 88 false (.t 12) (.t 26)),none⟩,qv 3 27] [[],[],[],[],[],[],[],[],[],[],[],[],[],[],[],[14],[14]] [[],[],[],[],[],[],[],[],[],[],[],[],[],[],[],[],[]] [0,1,2,3,4,5,6,7,8,9,10,11,12,13,14,15,16])) (.kill [1,3,4] (.reg [qv 10 4,qk 11 .add 10 1,qv 4 11])))))))))) (.kill [3] (.seq (.reg [qv 28 3,qv 2 28]) .ret)))))) (E [(.tmp 2)] R .mk) .mk (mat 29 (sArgs 0 args)) m) (hl:Nat.ble args.length 29=true:=by rfl):ACalls Tryd.prog 26 args m R:=walk mix (by kernel_rfl) (Nat.le_of_ble_eq_true hl) h
abbrev h26_0 (t1 t3 t4:AVal):AFrame:=mat 29 [(1,t1),(3,t3),(4,t4)]
theorem w27 {args m R} (h:W Tryd.prog (.seq (.reg [⟨some 1,.A (.box 26 (.t 0)),none⟩,⟨some 2,.A (.alloc 32 [(.int .i64 0),.nilslice]),none⟩]) (.kill [1,2] (.seq (.reg [⟨some 5,.P (.faddr 0 (.t 1)),none⟩,ql 6 5,⟨some 7,.P (.build [(.int .i64 0),.nilslice] [(0,(1,(.t 6)))]),none⟩,⟨some 3,.A (.alloc 32 [(.int .i64 0),.nilslice]),none⟩,⟨none,.W (.store 2 (.t 3) (.t 7)),none⟩]) (.kill [1,2,3] (.seq (.seq (.reg [qi 4 0]) (.block 0 (.kill [1,2,3,4] (.loop (.fin [1,2,3,4] (.seq (.seq (.reg [qv 8 4,⟨some 9,.P (.faddr 1 (.t 1)),none⟩,ql 10 9,qn 11 10,qo 12 .lss 8 11]) (.kill [1,2,3,4,12] (.cond (.t 12) .skip (.exit 0)))) (.kill [1,2,3,4] (.seq (.block 1 (.draw true [⟨some 15,.P (.faddr 1 (.t 3)),none⟩,ql 16 15,⟨some 17,.P (.faddr 1 (.t 1)),none⟩,ql 18 17,qv 19 4,qa 20 3 18 19,⟨some 21,.P (.faddr 0 (.t 20)),none⟩,⟨some 22,.P (.faddr 0 (.t 21)),none⟩,ql 23 22,⟨some 24,.P (.faddr 1 (.t 1)),none⟩,ql 25 24,qv 26 4,qa 27 3 25 26,⟨some 28,.P (.faddr 0 (.t 27)),none⟩,⟨some 29,.P (.faddr 1 (.t 28)),none⟩,ql 30 29,⟨some 31,.P (.faddr 1 (.t 1)),none⟩,ql 32 31,qv 33 4,qa 34 3 32 33,⟨some 35,.P (.faddr 2 (.t 34)),none⟩,ql 36 35,⟨some 37,.P (.build [(.int .i64 0),(.int .i64 0),(.int .i64 0)] [(0,(1,(.t 23))),(1,(1,(.t 30))),(2,(1,(.t 36)))]),none⟩,⟨some 38,.A (.bslice 90 1 [(.int .i64 0),(.int .i64 0),(.int .i64 0)] [(0,(3,(.t 37)))]),none⟩,⟨some 39,.W (.append 3 24 90 false (.t 16) (.t 38)),none⟩,⟨some 40,.P (.faddr 1 (.t 3)),none⟩,⟨none,.W (.store 1 (.t 40) (.t 39)),none⟩] [[],[],[],[],[],[],[],[],[],[],[],[],[],[],[],[],[],[],[],[],[],[],[],[],[23],[23],[23]] [[],[],[],[],[],[],[],[],[],[],[],[],[],[],[],[],[],[],[],[],[],[],[],[],[],[],[]] [0,1,2,3,4,5,6,7,8,9,10,11,12,13,14,15,16,17,18,19,20,21,22,23,24,25,26])) (.kill [1,2,3,4] (.reg [qv 13 4,qk 14 .add 13 1,qv 4 14])))))))))) (.kill [2,3] (.seq (.reg [⟨some 41,.R (.load 2 true (.t 3)),none⟩,⟨none,.W (.store 2 (.t 2) (.t 41)),none⟩]) .ret))))))) (E [(.cell 2 2 true)] R .mk) .mk (mat 42 (sArgs 0 args)) m) (hl:Nat.ble args.length 42=true:=by rfl):ACalls Tryd.prog 27 args m R:=walk mix (by kernel_rfl) (Nat.le_of_ble_eq_true hl) h
abbrev h27_0 (t1 t2 t3 t4:AVal):AFrame:=mat 42 [(1,t1),(2,t2),(3,t3),(4,t4)]
theorem w28 {args m R} (h:W Tryd.prog (.seq (.reg [⟨some 2,.A (.box 26 (.t 0)),none⟩,qi 4 0,qi 5 0,qi 6 0]) (.kill [1,2] (.seq (.block 0 (.seq (.reg [⟨some 13,.R (.load 2 true (.t 2)),none⟩,qc 14 58 [(.t 13)],qv 12 14]) (.kill [1,2,12] (.cond (.t 12) (.seq (.reg [qi 4 0,qi 5 0,qi 6 2]) .ret) (.seq (.reg [qv 16 1,qn 17 16,⟨some 18,.P (.faddr 1 (.t 2)),none⟩,ql 19 18,qn 20 19,qo 21 .neq 17 20,qv 15 21]) (.kill [1,2,15] (.cond (.t 15) (.seq (.reg [qi 4 0,qi 5 0,qi 6 14]) .ret) .skip))))))) (.kill [1,2] (.seq (.seq (.reg [⟨some 22,.P (.faddr 1 (.t 2)),none⟩,ql 23 22,qn 24 23,qi 25 0]) (.kill [1,2,23,24,25] (.block 1 (.kill [1,2,23,24,25] (.loop (.fin [1,2,23,24,25] (.seq (.reg [qo 26 .lss 25 24]) (.seq (.cond (.t 26) .skip (.exit 1)) (.kill [1,2,23,24,25] (.seq (.block 2 (.seq (.reg [qv 27 25,qa 28 3 23 25,⟨some 29,.R (.load 3 true (.t 28)),none⟩,⟨some 8,.A (.alloc 92 [(.int .i64 0),(.int .i64 0),(.int .i64 0)]),none⟩,qv 7 27,⟨none,.W (.store 3 (.t 8) (.t 29)),none⟩]) (.kill [1,2,7,8,23,24,25] (.seq (.draw true [⟨some 30,.P (.faddr 0 (.t 8)),none⟩,⟨some 31,.R (.load 2 true (.t 30)),none⟩,qv 32 1,qv 33 7,qa 34 1 32 33,ql 35 34,qc 36 61 [(.t 31),(.t 35)],⟨some 37,.P (.un .not (.t 36)),none⟩] [[],[],[],[],[],[],[],[6]] [[],[],[],[],[],[],[],[]] [0,1,2,3,4,5,6,7]) (.kill [1,2,7,23,24,25,37] (.cond (.t 37) (.seq (.reg [qv 38 7,qi 4 0,qv 5 38,qi 6 20]) .ret) .skip)))))) (.kill [1,2,23,24,25] (.reg [qk 39 .add 25 1,qv 25 39])))))))))))) (.kill [1,2] (.seq (.reg [⟨some 40,.P (.faddr 0 (.t 2)),none⟩,ql 41 40,qv 9 41]) (.kill [1,2,9] (.seq (.seq (.reg [⟨some 42,.P (.faddr 1 (.t 2)),none⟩,ql 43 42,qn 44 43,qi 45 0]) (.kill [1,9,43,44,45] (.block 3 (.kill [1,9,43,44,45] (.loop (.fin [1,9,43,44,45] (.seq (.reg [qo 46 .lss 45 44]) (.seq (.cond (.t 46) .skip (.exit 3)) (.kill [1,9,43,44,45] (.seq (.block 4 (.seq (.reg [qv 47 45,qa 48 3 43 45,⟨some 49,.R (.load 3 true (.t 48)),none⟩,⟨some 11,.A (.alloc 92 [(.int .i64 0),(.int .i64 0),(.int .i64 0)]),none⟩,qv 10 47,⟨none,.W (.store 3 (.t 11) (.t 49)),none⟩]) (.kill [1,9,10,11,43,44,45] (.draw true [qv 50 9,qv 51 1,qv 52 10,qa 53 1 51 52,ql 54 53,⟨some 55,.P (.faddr 0 (.t 11)),none⟩,⟨some 56,.P (.faddr 0 (.t 55)),none⟩,ql 57 56,qo 58 .sub 54 57,⟨some 59,.P (.faddr 2 (.t 11)),none⟩,ql 60 59,qo 61 .mul 58 60,qo 62 .add 50 61,qv 9 62] [[],[],[],[],[],[],[],[],[],[],[],[],[],[]] [[],[],[],[],[],[],[],[],[],[],[],[],[],[]] [0,1,2,3,4,5,6,7,8,9,10,11,12,13])))) (.kill [1,9,43,44,45] (.reg [qk 63 .add 45 1,qv 45 63])))))))))))) (.kill [9] (.seq (.reg [qv 64 9,qv 4 64,qi 5 0,qi 6 0]) .ret))))))))))) (E [(.tmp 4),(.tmp 5),(.tmp 6)] R .mk) .mk (mat 65 (sArgs 0 args)) m) (hl:Nat.ble args.length 65=true:=by rfl):ACalls Tryd.prog 28 args m R:=walk mix (by kernel_rfl) (Nat.le_of_ble_eq_true hl) h
abbrev h28_0 (t1 t2 t23 t24 t25:AVal):AFrame:=mat 65 [(1,t1),(2,t2),(23,t23),(24,t24),(25,t25)]
abbrev h28_1 (t1 t9 t43 t44 t45:AVal):AFrame:=mat 65 [(1,t1),(9,t9),(43,t43),(44,t44),(45,t45)]
theorem w29 {args m R} (h:W Tryd.prog (.seq (.reg [⟨some 2,.A (.box 32 (.t 0)),none⟩,qi 4 0,qi 5 0,qi 6 0]) (.kill [1,2] (.seq (.seq (.reg [⟨some 10,.R (.load 2 true (.t 2)),none⟩,qc 11 59 [(.t 10)]]) (.kill [1,2,11] (.cond (.t 11) (.seq (.reg [qi 4 0,qi 5 0,qi 6 2]) .ret) .skip))) (.kill [1,2] (.seq (.seq (.reg [qv 12 1,qn 13 12,⟨some 14,.P (.faddr 1 (.t 2)),none⟩,ql 15 14,qn 16 15,qo 17 .neq 13 16]) (.kill [1,2,17] (.cond (.t 17) (.seq (.reg [qi 4 0,qi 5 0,qi 6 14]) .ret) .skip))) (.kill [1,2] (.seq (.seq (.reg [qi 7 0]) (.block 0 (.kill [1,2,7] (.loop (.fin [1,2,7] (.seq (.seq (.reg [qv 18 7,qv 19 1,qn 20 19,qo 21 .lss 18 20]) (.kill [1,2,7,21] (.cond (.t 21) .skip (.exit 0)))) (.kill [1,2,7] (.seq (.block 1 (.seq (.draw true [qv 24 1,qv 25 7,qa 26 1 24 25,ql 27 26,⟨some 28,.P (.faddr 1 (.t 2)),none⟩,ql 29 28,qv 30 7,qa 31 3 29 30,⟨some 32,.P (.faddr 0 (.t 31)),none⟩,ql 33 32,qo 34 .lss 27 33,qv 35 34,⟨some 36,.P (.mov (.t 1)),(some (35,false))⟩,⟨some 37,.P (.mov (.t 7)),(some (35,false))⟩,⟨some 38,.P (.iaddr 1 (.t 36) (.t 37)),(some (35,false))⟩,⟨some 39,.R (.load 1 false (.t 38)),(some (35,false))⟩,⟨some 40,.P (.faddr 1 (.t 2)),(some (35,false))⟩,⟨some 41,.R (.load 1 false (.t 40)),(some (35,false))⟩,⟨some 42,.P (.mov (.t 7)),(some (35,false))⟩,⟨some 43,.P (.iaddr 3 (.t 41) (.t 42)),(some (35,false))⟩,⟨some 44,.P (.faddr 1 (.t 43)),(some (35,false))⟩,⟨some 45,.R (.load 1 false (.t 44)),(some (35,false))⟩,⟨some 46,.P (.bin .gtr (.t 39) (.t 45)),(some (35,false))⟩,⟨some 47,.P (.pick (.t 35) (.c (.bool true)) (.t 46)),none⟩] [[],[],[],[],[],[],[],[],[],[],[],[],[],[],[],[],[],[],[],[],[],[],[],[]] [[],[],[],[],[],[],[],[],[],[],[],[],[],[],[],[],[],[],[],[],[],[],[],[]] [0,1,2,3,4,5,6,7,8,9,10,11,12,13,14,15,16,17,18,19,20,21,22,23]) (.kill [1,2,7,47] (.cond (.t 47) (.seq (.reg [qv 48 7,qi 4 0,qv 5 48,qi 6 20]) .ret) .skip)))) (.kill [1,2,7] (.reg [qv 22 7,qk 23 .add 22 1,qv 7 23])))))))))) (.kill [1,2] (.seq (.reg [⟨some 50,.R (.load 2 true (.t 2)),none⟩,qv 51 1,qc 52 57 [(.t 50),(.t 51),(qz 2147483648)],qv 49 52,qx 53 49 0,qx 54 49 1,qv 8 53,qv 9 54]) (.kill [8] (.seq (.reg [qv 55 8,qv 4 55,qi 5 0,qi 6 0]) .ret))))))))))) (E [(.tmp 4),(.tmp 5),(.tmp 6)] R .mk) .mk (mat 56 (sArgs 0 args)) m) (hl:Nat.ble args.length 56=true:=by rfl):ACalls Tryd.prog 29 args m R:=walk mix (by kernel_rfl) (Nat.le_of_ble_eq_true hl) h
abbrev h29_0 (t1 t2 t7:AVal):AFrame:=mat 56 [(1,t1),(2,t2),(7,t7)]
theorem w30 {args m R} (h:W Tryd.prog (.seq (.reg [qb 4 false]) (.kill [0,1] (.seq (.seq (.reg [qv 6 0,qn 7 6,qv 8 1,qn 9 8,qo 10 .neq 7 9]) (.kill [0,1,10] (.cond (.t 10) (.seq (.reg [qb 4 false]) .ret) .skip))) (.kill [0,1] (.seq (.seq (.reg [qi 5 0]) (.block 0 (.kill [0,1,5] (.loop (.fin [0,1,5] (.seq (.seq (.reg [qv 11 5,qv 12 0,qn 13 12,qo 14 .lss 11 13]) (.kill [0,1,5,14] (.cond (.t 14) .skip (.exit 0)))) (.kill [0,1,5] (.seq (.block 1 (.seq (.draw true [qv 17 0,qv 18 5,qa 19 1 17 18,ql 20 19,qv 21 1,qv 22 5,qa 23 1 21 22,ql 24 23,qo 25 .neq 20 24] [[],[],[],[],[],[],[],[],[]] [[],[],[],[],[],[],[],[],[]] [0,1,2,3,4,5,6,7,8]) (.kill [0,1,5,25] (.cond (.t 25) (.seq (.reg [qb 4 false]) .ret) .skip)))) (.kill [0,1,5] (.reg [qv 15 5,qk 16 .add 15 1,qv 5 16])))))))))) (.kill [] (.seq (.reg [qb 4 true]) .ret))))))) (E [(.tmp 4)] R .mk) .mk (mat 26 (sArgs 0 args)) m) (hl:Nat.ble args.length 26=true:=by rfl):ACalls Tryd.prog 30 args m R:=walk mix (by kernel_rfl) (Nat.le_of_ble_eq_true hl) h
abbrev h30_0 (t0 t1 t5:AVal):AFrame:=mat 26 [(0,t0),(1,t1),(5,t5)]
theorem w31 {args m R} (h:W Tryd.prog (.seq (.reg [⟨some 1,.A (.box 26 (.t 0)),none⟩,⟨some 2,.P (.mov (.c .nilslice)),none⟩]) (.kill [1] (.seq (.seq (.reg [⟨some 5,.R (.load 2 true (.t 1)),none⟩,qc 6 58 [(.t 5)]]) (.kill [1,6] (.cond (.t 6) (.seq (.reg [⟨some 2,.P (.mov (.c .nilslice)),none⟩]) .ret) .skip))) (.kill [1] (.seq (.reg [⟨some 3,.A (.alloc 56 [.nilslice]),none⟩]) (.seq (.seq (.reg [⟨some 7,.R (.load 2 true (.t 1)),none⟩,qc 8 62 [(.t 7)]]) (.kill [3,8] (.block 0 (.rfn (.t 8) [9] (.reg [qv 4 9]) (.block 1 (.reg [ql 10 3,qv 11 4,⟨some 12,.A (.bslice 3 1 [(.int .i64 0)] [(0,(1,(.t 11)))]),none⟩,⟨some 13,.W (.append 1 8 3 false (.t 10) (.t 12)),none⟩,⟨none,.W (.store 1 (.t 3) (.t 13)),none⟩])))))) (.kill [3] (.seq (.reg [ql 14 3,qv 2 14]) .ret)))))))) (E [(.tmp 2)] R .mk) .mk (mat 15 (sArgs 0 args)) m) (hl:Nat.ble args.length 15=true:=by rfl):ACalls Tryd.prog 31 args m R:=walk mix (by kernel_rfl) (Nat.le_of_ble_eq_true hl) h
theorem w32 {args m R} (h:W Tryd.prog (.seq (.reg [⟨some 1,.A (.box 32 (.t 0)),none⟩,⟨some 2,.P (.mov (.c .nilslice)),none⟩]) (.kill [1] (.seq (.seq (.reg [⟨some 8,.R (.load 2 true (.t 1)),none⟩,qc 9 59 [(.t 8)]]) (.kill [1,9] (.cond (.t 9) (.seq (.reg [⟨some 2,.P (.mov (.c .nilslice)),none⟩]) .ret) .skip))) (.kill [1] (.seq (.reg [⟨some 10,.R (.load 2 true (.t 1)),none⟩,qc 11 39 [(.t 10)],qv 3 11]) (.kill [1,3] (.seq (.reg [⟨some 4,.P (.mov (.c .nilslice)),none⟩]) (.seq (.seq (.reg [qi 5 0]) (.block 0 (.kill [1,3,4,5] (.loop (.fin [1,3,4,5] (.seq (.seq (.reg [qv 12 5,qv 13 3,qn 14 13,qo 15 .lss 12 14]) (.kill [1,3,4,5,15] (.cond (.t 15) .skip (.exit 0)))) (.kill [1,3,4,5] (.seq (.block 1 (.seq (.draw true [⟨some 19,.R (.load 2 true (.t 1)),none⟩,qv 20 3,qv 21 5,qa 22 1 20 21,ql 23 22,qc 24 57 [(.t 19),(.t 23),(qz 2147483648)],qv 18 24,qx 25 18 0,qx 26 18 1,qv 6 25,qv 7 26] [[],[],[],[],[],[],[5],[5],[5],[5],[5]] [[],[],[],[],[],[],[],[],[],[],[]] [0,1,2,3,4,5,6,7,8,9,10]) (.kill [1,3,4,5,6] (.reg [qv 27 4,qv 28 6,⟨some 29,.A (.bslice 3 1 [(.int .i64 0)] [(0,(1,(.t 28)))]),none⟩,⟨some 30,.W (.append 1 8 3 false (.t 27) (.t 29)),none⟩,qv 4 30])))) (.kill [1,3,4,5] (.reg [qv 16 5,qk 17 .add 16 1,qv 5 17])))))))))) (.kill [4] (.seq (.reg [qv 31 4,qv 2 31]) .ret)))))))))) (E [(.tmp 2)] R .mk) .mk (mat 32 (sArgs 0 args)) m) (hl:Nat.ble args.length 32=true:=by rfl):ACalls Tryd.prog 32 args m R:=walk mix (by kernel_rfl) (Nat.le_of_ble_eq_true hl) h
abbrev h32_0 (t1 t3 t4 t5:AVal):AFrame:=mat 32 [(1,t1),(3,t3),(4,t4),(5,t5)]
theorem w33 {args m R} (h:W Tryd.prog (.seq (.reg [⟨some 2,.A (.box 26 (.t 0)),none⟩,⟨some 3,.A (.box 26 (.t 1)),none⟩,qb 4 false]) (.kill [2,3] (.seq (.draw false [⟨some 5,.R (.load 2 true (.t 2)),none⟩,qc 6 58 [(.t 5)],⟨some 7,.P (.un .not (.t 6)),none⟩,qv 8 7,⟨some 9,.R (.load 2 true (.t 3)),(some (8,true))⟩,⟨some 10,.C (.c (.func (.func 58) [] [])) [(.t 9)],(some (8,true))⟩,⟨some 11,.P (.un .not (.t 10)),(some (8,true))⟩,⟨some 12,.P (.pick (.t 8) (.t 11) (.c (.bool false))),none⟩,qv 13 12,⟨some 14,.R (.load 2 true (.t 2)),(some (13,true))⟩,⟨some 15,.C (.c (.func (.func 54) [] [])) [(.t 14)],(some (13,true))⟩,⟨some 16,.R (.load 2 true (.t 3)),(some (13,true))⟩,⟨some 17,.C (.c (.func (.func 54) [] [])) [(.t 16)],(some (13,true))⟩,⟨some 18,.C (.c (.func (.func 18) [] [])) [(.t 15),(.t 17)],(some (13,true))⟩,⟨some 19,.P (.pick (.t 13) (.t 18) (.c (.bool false))),none⟩,qv 20 19,⟨some 21,.R (.load 2 true (.t 2)),(some (20,true))⟩,⟨some 22,.C (.c (.func (.func 31) [] [])) [(.t 21)],(some (20,true))⟩,⟨some 23,.R (.load 2 true (.t 3)),(some (20,true))⟩,⟨some 24,.C (.c (.func (.func 31) [] [])) [(.t 23)],(some (20,true))⟩,⟨some 25,.C (.c (.func (.func 63) [] [])) [(.t 22),(.t 24)],(some (20,true))⟩,⟨some 26,.P (.pick (.t 20) (.t 25) (.c (.bool false))),none⟩,qv 4 26] [[],[],[1],[1],[1],[1],[1,5],[1,5],[1,5],[1,5],[1,5],[1,5],[1,5,10],[1,5,10,12],[1,5,10,12,13],[1,5,10,12,13],[1,5,10,12,13],[1,5,10,12,13],[1,5,10,12,13],[1,5,10,12,13,17],[1,5,10,12,13,17,19],[1,5,10,12,13,17,19,20],[1,5,10,12,13,17,19,20]] [[],[],[],[],[],[],[],[],[],[],[],[],[],[],[],[],[],[],[],[],[],[],[]] [0,1,2,3,4,5,6,7,8,9,10,11,12,13,14,15,16,17,18,19,20,21,22]) .ret))) (E [(.tmp 4)] R .mk) .mk (mat 27 (sArgs 0 args)) m) (hl:Nat.ble args.length 27=true:=by rfl):ACalls Tryd.prog 33 args m R:=walk mix (by kernel_rfl) (Nat.le_of_ble_eq_true hl) h
theorem w34 {args m R} (h:W Tryd.prog (.seq (.reg [⟨some 2,.A (.box 32 (.t 0)),none⟩,⟨some 3,.A (.box 32 (.t 1)),none⟩,qb 4 false]) (.kill [2,3] (.seq (.seq (.draw false [⟨some 8,.R (.load 2 true (.t 2)),none⟩,qc 9 59 [(.t 8)],qv 10 9,⟨some 11,.R (.load 2 true (.t 3)),(some (10,false))⟩,⟨some 12,.C (.c (.func (.func 59) [] [])) [(.t 11)],(some (10,false))⟩,⟨some 13,.P (.pick (.t 10) (.c (.bool true)) (.t 12)),none⟩,qv 14 13,⟨some 15,.R (.load 2 true (.t 2)),(some (14,false))⟩,⟨some 16,.C (.c (.func (.func 26) [] [])) [(.t 15)],(some (14,false))⟩,⟨some 17,.R (.load 2 true (.t 3)),(some (14,false))⟩,⟨some 18,.C (.c (.func (.func 26) [] [])) [(.t 17)],(some (14,false))⟩,⟨some 19,.C (.c (.func (.func 19) [] [])) [(.t 16),(.t 18)],(some (14,false))⟩,⟨some 20,.P (.un .not (.t 19)),(some (14,false))⟩,⟨some 21,.P (.pick (.t 14) (.c (.bool true)) (.t 20)),none⟩] [[],[],[1],[1],[1],[1,4],[1,4],[1,4],[1,4],[1,4],[1,4,8],[1,4,8,10],[1,4,8,10,11],[1,4,8,10,11]] [[],[],[],[],[],[],[],[],[],[],[],[],[],[]] [0,1,2,3,4,5,6,7,8,9,10,11,12,13]) (.kill [2,3,21] (.cond (.t 21) (.seq (.reg [qb 4 false]) .ret) .skip))) (.kill [2,3] (.seq (.draw true [⟨some 22,.R (.load 2 true (.t 2)),none⟩,qc 23 32 [(.t 22)],⟨some 24,.R (.load 2 true (.t 3)),none⟩,qc 25 32 [(.t 24)],qv 5 23,qv 6 25] [[],[],[],[1],[1,3],[1,3]] [[],[2],[],[],[],[]] [0,2,1,3,4,5]) (.kill [5,6] (.seq (.seq (.reg [qi 7 0]) (.block 0 (.kill [5,6,7] (.loop (.fin [5,6,7] (.seq (.seq (.reg [qv 26 7,qv 27 5,qn 28 27,qo 29 .lss 26 28]) (.kill [5,6,7,29] (.cond (.t 29) .skip (.exit 0)))) (.kill [5,6,7] (.seq (.block 1 (.seq (.draw true [qv 32 5,qv 33 7,qa 34 1 32 33,ql 35 34,qv 36 6,qv 37 7,qa 38 1 36 37,ql 39 38,qo 40 .neq 35 39] [[],[],[],[],[],[],[],[],[]] [[],[],[],[],[],[],[],[],[]] [0,1,2,3,4,5,6,7,8]) (.kill [5,6,7,40] (.cond (.t 40) (.seq (.reg [qb 4 false]) .ret) .skip)))) (.kill [5,6,7] (.reg [qv 30 7,qk 31 .add 30 1,qv 7 31])))))))))) (.kill [] (.seq (.reg [qb 4 true]) .ret))))))))) (E [(.tmp 4)] R .mk) .mk (mat 41 (sArgs 0 args)) m) (hl:Nat.ble args.length 41=true:=by rfl):ACalls Tryd.prog 34 args m R:=walk mix (by kernel_rfl) (Nat.le_of_ble_eq_true hl) h
abbrev h34_0 (t5 t6 t7:AVal):AFrame:=mat 41 [(5,t5),(6,t6),(7,t7)]
theorem w35 {args m R} (h:W Tryd.prog (.seq (.reg [⟨some 2,.A (.box 26 (.t 0)),none⟩,⟨some 3,.A (.box 26 (.t 1)),none⟩,⟨some 4,.A (.alloc 4 [(.bool false)]),none⟩]) (.kill [1,2,3,4] (.seq (.seq (.reg [⟨some 8,.R (.load 2 true (.t 2)),none⟩,qc 9 58 [(.t 8)],qv 10 9,⟨some 11,.R (.load 2 true (.t 3)),(some (10,false))⟩,⟨some 12,.C (.c (.func (.func 58) [] [])) [(.t 11)],(some (10,false))⟩,⟨some 13,.P (.pick (.t 10) (.c (.bool true)) (.t 12)),none⟩]) (.kill [1,2,3,4,13] (.cond (.t 13) (.seq (.reg [⟨none,.W (.store 1 (.t 4) (.c (.bool false))),none⟩]) .ret) .skip))) (.kill [1,2,3,4] (.seq (.reg [⟨some 14,.W .mkmap,none⟩,⟨some 5,.A (.alloc 109 [.nilmap]),none⟩,⟨none,.W (.store 1 (.t 5) (.t 14)),none⟩]) (.kill [1,2,3,4,5] (.seq (.seq (.reg [⟨some 15,.R (.load 2 true (.t 2)),none⟩,qc 16 62 [(.t 15)]]) (.kill [1,3,4,5,16] (.block 0 (.rfn (.t 16) [17] (.reg [qv 6 17]) (.block 1 (.reg [ql 18 5,qv 19 6,⟨none,.W (.mapset (.t 18) (.t 19) (.c (.bool true))),none⟩])))))) (.kill [1,3,4,5] (.seq (.seq (.reg [⟨some 20,.R (.load 2 true (.t 3)),none⟩,qc 21 62 [(.t 20)]]) (.kill [1,4,5,21] (.block 2 (.rfn (.t 21) [22] (.reg [qv 7 22]) (.block 3 (.seq (.reg [ql 23 5,qv 24 7,⟨some 25,.R (.lookup (.bool false) false (.t 23) (.t 24)),none⟩]) (.cond (.t 25) (.seq (.reg [⟨none,.W (.store 1 (.t 4) (.c (.bool true))),none⟩]) .ret) .skip))))))) (.kill [1,4] (.seq (.reg [⟨none,.W (.store 1 (.t 4) (.c (.bool false))),none⟩]) .ret))))))))))) (E [(.cell 4 1 false)] R .mk) .mk (mat 26 (sArgs 0 args)) m) (hl:Nat.ble args.length 26=true:=by rfl):ACalls Tryd.prog 35 args m R:=walk mix (by kernel_rfl) (Nat.le_of_ble_eq_true hl) h
theorem w36 {args m R} (h:W Tryd.prog (.seq (.reg [⟨some 2,.A (.box 32 (.t 0)),none⟩,⟨some 3,.A (.box 32 (.t 1)),none⟩,qb 4 false]) (.kill [2,3] (.seq (.draw true [⟨some 9,.R (.load 2 true (.t 2)),none⟩,qc 10 32 [(.t 9)],⟨some 11,.R (.load 2 true (.t 3)),none⟩,qc 12 32 [(.t 11)],qv 5 10,qv 6 12] [[],[],[],[1],[1,3],[1,3]] [[],[2],[],[],[],[]] [0,2,1,3,4,5]) (.kill [5,6] (.seq (.seq (.reg [qi 7 0]) (.block 0 (.kill [5,6,7] (.loop (.fin [5,6,7] (.seq (.seq (.reg [qv 13 7,qv 14 5,qn 15 14,qo 16 .lss 13 15]) (.kill [5,6,7,16] (.cond (.t 16) .skip (.exit 0)))) (.kill [5,6,7] (.seq (.block 1 (.seq (.reg [qi 8 0]) (.block 2 (.kill [5,6,7,8] (.loop (.fin [5,6,7,8] (.seq (.seq (.reg [qv 19 8,qv 20 6,qn 21 20,qo 22 .lss 19 21]) (.kill [5,6,7,8,22] (.cond (.t 22) .skip (.exit 2)))) (.kill [5,6,7,8] (.seq (.block 3 (.seq (.draw true [qv 25 5,qv 26 7,qa 27 1 25 26,ql 28 27,qv 29 6,qv 30 8,qa 31 1 29 30,ql 32 31,qo 33 .eql 28 32] [[],[],[],[],[],[],[],[],[]] [[],[],[],[],[],[],[],[],[]] [0,1,2,3,4,5,6,7,8]) (.kill [5,6,7,8,33] (.cond (.t 33) (.seq (.reg [qb 4 true]) .ret) .skip)))) (.kill [5,6,7,8] (.reg [qv 23 8,qk 24 .add 23 1,qv 8 24]))))))))))) (.kill [5,6,7] (.reg [qv 17 7,qk 18 .add 17 1,qv 7 18])))))))))) (.kill [] (.seq (.reg [qb 4 false]) .ret))))))) (E [(.tmp 4)] R .mk) .mk (mat 34 (sArgs 0 args)) m) (hl:Nat.ble args.length 34=true:=by rfl):ACalls Tryd.prog 36 args m R:=walk mix (by kernel_rfl) (Nat.le_of_ble_eq_true hl) h
abbrev h36_0 (t5 t6 t7:AVal):AFrame:=mat 34 [(5,t5),(6,t6),(7,t7)]
abbrev h36_1 (t5 t6 t7 t8:AVal):AFrame:=mat 34 [(5,t5),(6,t6),(7,t7),(8,t8)]
theorem w37 {args m R} (h:W Tryd.prog (.seq (.reg [⟨some 4,.A (.alloc 26 [(.int .i64 0),.nilslice]),none⟩,qi 5 0]) (.kill [0,1,2,4] (.seq (.seq (.reg [qv 6 0,qk 7 .lss 6 0]) (.kill [0,1,2,4,7] (.cond (.t 7) (.seq (.reg [⟨some 8,.P (.build [(.int .i64 0),.nilslice] []),none⟩,⟨none,.W (.store 2 (.t 4) (.t 8)),none⟩,qi 5 11]) .ret) .skip))) (.kill [0,1,2,4] (.seq (.reg [qv 9 0,⟨some 10,.P (.build [(.int .i64 0),(.int .i64 0)] [(0,(1,(qz 1))),(1,(1,(.t 9)))]),none⟩,⟨some 11,.A (.bslice 83 1 [(.int .i64 0),(.int .i64 0)] [(0,(2,(.t 10)))]),none⟩,qv 12 1,⟨some 13,.W (.append 2 16 83 false (.t 11) (.t 12)),none⟩,qc 14 12 [(.t 13)],qx 15 14 0,qx 16 14 1,⟨none,.W (.store 2 (.t 4) (.t 15)),none⟩,qv 5 16]) .ret))))) (E [(.cell 4 2 true),(.tmp 5)] R .mk) .mk (mat 17 (sArgs 0 args)) m) (hl:Nat.ble args.length 17=true:=by rfl):ACalls Tryd.prog 37 args m R:=walk mix (by kernel_rfl) (Nat.le_of_ble_eq_true hl) h
end Go.Proofs.YtodhalcpnmddjaaDoor
namespace Go.Proofs.YtodhalcpnmddjaaDoor
open Go Ax
set_option maxRecDepth 100000
theorem w38 {args m R} (h:W Tryd.prog (.seq (.reg [⟨some 4,.A (.alloc 32 [(.int .i64 0),.nilslice]),none⟩,qi 5 0]) (.kill [0,1,2,4] (.seq (.seq (.reg [qv 6 0,qk 7 .lss 6 0]) (.kill [0,1,2,4,7] (.cond (.t 7) (.seq (.reg [⟨some 8,.P (.build [(.int .i64 0),.nilslice] []),none⟩,⟨none,.W (.store 2 (.t 4) (.t 8)),none⟩,qi 5 11]) .ret) .skip))) (.kill [0,1,2,4] (.seq (.reg [qv 9 0,⟨some 10,.P (.build [(.int .i64 0),(.int .i64 0)] [(0,(1,(qz 1))),(1,(1,(.t 9)))]),none⟩,⟨some 11,.A (.bslice 88 1 [(.int .i64 0),(.int .i64 0)] [(0,(2,(.t 10)))]),none⟩,qv 12 1,⟨some 13,.W (.append 2 16 88 false (.t 11) (.t 12)),none⟩,qc 14 13 [(.t 13)],qx 15 14 0,qx 16 14 1,⟨none,.W (.store 2 (.t 4) (.t 15)),none⟩,qv 5 16]) .ret))))) (E [(.cell 4 2 true),(.tmp 5)] R .mk) .mk (mat 17 (sArgs 0 args)) m) (hl:Nat.ble args.length 17=true:=by rfl):ACalls Tryd.prog 38 args m R:=walk mix (by kernel_rfl) (Nat.le_of_ble_eq_true hl) h
theorem w39 {args m R} (h:W Tryd.prog (.seq (.reg [⟨some 1,.A (.box 32 (.t 0)),none⟩,⟨some 2,.P (.mov (.c .nilslice)),none⟩]) (.kill [1] (.seq (.seq (.reg [⟨some 7,.R (.load 2 true (.t 1)),none⟩,qc 8 26 [(.t 7)],qc 9 60 [(.t 8)],qk 10 .leq 9 0]) (.kill [1,10] (.cond (.t 10) (.seq (.reg [⟨some 2,.P (.mov (.c .nilslice)),none⟩]) .ret) .skip))) (.kill [1] (.seq (.reg [⟨some 3,.P (.mov (.c .nilslice)),none⟩]) (.seq (.seq (.reg [qi 4 0]) (.block 0 (.kill [1,3,4] (.loop (.fin [1,3,4] (.seq (.seq (.reg [qv 11 4,⟨some 12,.P (.faddr 1 (.t 1)),none⟩,ql 13 12,qn 14 13,qo 15 .lss 11 14]) (.kill [1,3,4,15] (.cond (.t 15) .skip (.exit 0)))) (.kill [1,3,4] (.seq (.block 1 (.reg [qv 18 3,⟨some 19,.P (.faddr 1 (.t 1)),none⟩,ql 20 19,qv 21 4,qa 22 3 20 21,⟨some 23,.P (.faddr 0 (.t 22)),none⟩,ql 24 23,⟨some 25,.A (.bslice 2 1 [(.int .i64 0)] [(0,(1,(.t 24)))]),none⟩,⟨some 26,.W (.append 1 8 2 false (.t 18) (.t 25)),none⟩,qv 3 26])) (.kill [1,3,4] (.reg [qv 16 4,qk 17 .add 16 1,qv 4 17])))))))))) (.kill [1,3] (.seq (.reg [⟨some 5,.P (.mov (.c .nilslice)),none⟩]) (.seq (.seq (.reg [qb 6 true]) (.block 2 (.kill [1,3,5,6] (.loop (.fin [1,3,5,6] (.seq (.seq (.reg [qv 27 6]) (.kill [1,3,5,27] (.cond (.t 27) .skip (.exit 2)))) (.kill [1,3,5] (.seq (.block 3 (.reg [qv 31 5,⟨some 32,.A (.bslice 2 0 [(.int .i64 0)] []),none⟩,qv 33 3,⟨some 34,.W (.append 1 8 2 false (.t 32) (.t 33)),none⟩,⟨some 35,.A (.bslice 50 1 [.nilslice] [(0,(1,(.t 34)))]),none⟩,⟨some 36,.W (.append 1 24 50 false (.t 31) (.t 35)),none⟩,qv 5 36])) (.kill [1,3,5] (.reg [⟨some 28,.R (.load 2 true (.t 1)),none⟩,qv 29 3,qc 30 64 [(.t 28),(.t 29)],qv 6 30])))))))))) (.kill [5] (.seq (.reg [qv 37 5,qv 2 37]) .ret))))))))))) (E [(.tmp 2)] R .mk) .mk (mat 38 (sArgs 0 args)) m) (hl:Nat.ble args.length 38=true:=by rfl):ACalls Tryd.prog 39 args m R:=walk mix (by kernel_rfl) (Nat.le_of_ble_eq_true hl) h
abbrev h39_0 (t1 t3 t4:AVal):AFrame:=mat 38 [(1,t1),(3,t3),(4,t4)]
abbrev h39_1 (t1 t3 t5 t6:AVal):AFrame:=mat 38 [(1,t1),(3,t3),(5,t5),(6,t6)]
theorem w40 {args m R} (h:W Tryd.prog (.seq (.reg [⟨some 3,.A (.box 26 (.t 0)),none⟩,⟨some 6,.A (.alloc 26 [(.int .i64 0),.nilslice]),none⟩,qi 7 0]) (.kill [1,2,3,6] (.seq (.seq (.reg [⟨some 11,.R (.load 2 true (.t 3)),none⟩,qv 12 1,qc 13 65 [(.t 11),(.t 12)],qv 8 13]) (.kill [1,2,3,6,8] (.seq (.reg [qv 14 8,qk 15 .neq 14 0]) (.kill [1,2,3,6,8,15] (.cond (.t 15) (.seq (.reg [⟨some 16,.P (.build [(.int .i64 0),.nilslice] []),none⟩,qv 17 8,⟨none,.W (.store 2 (.t 6) (.t 16)),none⟩,qv 7 17]) .ret) .skip))))) (.kill [1,2,3,6] (.seq (.reg [⟨some 18,.P (.faddr 1 (.t 3)),none⟩,ql 19 18,qv 20 1,qa 21 3 19 20,⟨some 22,.R (.load 3 true (.t 21)),none⟩,⟨some 9,.A (.alloc 92 [(.int .i64 0),(.int .i64 0),(.int .i64 0)]),none⟩,⟨none,.W (.store 3 (.t 9) (.t 22)),none⟩]) (.kill [1,2,3,6,9] (.seq (.seq (.reg [⟨some 23,.P (.faddr 0 (.t 9)),none⟩,⟨some 24,.R (.load 2 true (.t 23)),none⟩,qv 25 2,qc 26 61 [(.t 24),(.t 25)],⟨some 27,.P (.un .not (.t 26)),none⟩]) (.kill [1,2,3,6,9,27] (.cond (.t 27) (.seq (.reg [⟨some 28,.P (.build [(.int .i64 0),.nilslice] []),none⟩,⟨none,.W (.store 2 (.t 6) (.t 28)),none⟩,qi 7 20]) .ret) .skip))) (.kill [1,2,3,6,9] (.seq (.reg [⟨some 29,.R (.load 2 true (.t 3)),none⟩,qc 30 67 [(.t 29)],⟨some 31,.P (.field 1 1 false (.t 30)),none⟩,qv 32 1,qv 33 1,qk 34 .add 33 1,qc 35 66 [(.t 31),(.t 32),(.t 34)],⟨some 36,.P (.build [(.int .i64 0),.nilslice] [(1,(1,(.t 35)))]),none⟩,⟨some 10,.A (.alloc 26 [(.int .i64 0),.nilslice]),none⟩,⟨none,.W (.store 2 (.t 10) (.t 36)),none⟩]) (.kill [2,3,6,9,10] (.seq (.seq (.reg [⟨some 37,.R (.load 2 true (.t 3)),none⟩,qc 38 23 [(.t 37)],qk 39 .gtr 38 0]) (.kill [2,3,6,9,10,39] (.cond (.t 39) (.reg [⟨some 40,.P (.faddr 0 (.t 3)),none⟩,ql 41 40,qv 42 2,⟨some 43,.P (.faddr 0 (.t 9)),none⟩,⟨some 44,.P (.faddr 0 (.t 43)),none⟩,ql 45 44,qo 46 .sub 42 45,⟨some 47,.P (.faddr 2 (.t 9)),none⟩,ql 48 47,qo 49 .mul 46 48,qo 50 .add 41 49,⟨some 51,.P (.faddr 0 (.t 10)),none⟩,⟨none,.W (.store 1 (.t 51) (.t 50)),none⟩]) .skip))) (.kill [2,6,10] (.seq (.reg [⟨some 52,.R (.load 2 true (.t 10)),none⟩,⟨none,.W (.store 2 (.t 6) (.t 52)),none⟩,qi 7 0]) .ret))))))))))))) (E [(.cell 6 2 true),(.tmp 7)] R .mk) .mk (mat 53 (sArgs 0 args)) m) (hl:Nat.ble args.length 53=true:=by rfl):ACalls Tryd.prog 40 args m R:=walk mix (by kernel_rfl) (Nat.le_of_ble_eq_true hl) h
theorem w46 {args m R} (h:W Tryd.prog (.seq (.reg [qi 2 0]) (.kill [0] (.seq (.seq (.reg [qv 5 0,qn 6 5,qk 7 .gtr 6 3]) (.kill [0,7] (.cond (.t 7) (.seq (.reg [qi 2 14]) .ret) .skip))) (.kill [0] (.seq (.seq (.reg [qv 8 0,⟨some 9,.C (.c (.func (.func 74) [] [])) [(.t 8),(.c (.func (.func 75) [] []))],none⟩]) (.kill [0,9] (.cond (.t 9) (.seq (.reg [qi 2 20]) .ret) .skip))) (.kill [0] (.seq (.seq (.reg [qv 11 0,qc 12 55 [(.t 11)],qv 10 12,qx 13 10 0,qx 14 10 1,qv 3 13,qv 4 14]) (.kill [4] (.seq (.reg [qv 15 4,⟨some 16,.P (.un .not (.t 15)),none⟩]) (.kill [16] (.cond (.t 16) (.seq (.reg [qi 2 3]) .ret) .skip))))) (.kill [] (.seq (.reg [qi 2 0]) .ret))))))))) (E [(.tmp 2)] R .mk) .mk (mat 17 (sArgs 0 args)) m) (hl:Nat.ble args.length 17=true:=by rfl):ACalls Tryd.prog 46 args m R:=walk mix (by kernel_rfl) (Nat.le_of_ble_eq_true hl) h
theorem w47 {args m R} (h:W Tryd.prog (.seq (.reg [⟨some 2,.A (.alloc 26 [(.int .i64 0),.nilslice]),none⟩]) (.kill [0,2] (.seq (.reg [qv 6 0,qn 7 6,⟨some 8,.A (.mkslice 92 24 [(.int .i64 0),(.int .i64 0),(.int .i64 0)] (.t 7) (.t 7)),none⟩,⟨some 9,.P (.build [(.int .i64 0),.nilslice] [(1,(1,(.t 8)))]),none⟩,⟨some 3,.A (.alloc 26 [(.int .i64 0),.nilslice]),none⟩,⟨none,.W (.store 2 (.t 3) (.t 9)),none⟩]) (.kill [0,2,3] (.seq (.reg [qi 4 1]) (.seq (.seq (.reg [qv 10 0,qn 11 10,qk 12 .sub 11 1,qv 5 12]) (.kill [0,2,3,4,5] (.block 0 (.kill [0,2,3,4,5] (.loop (.fin [0,2,3,4,5] (.seq (.seq (.reg [qv 13 5,qk 14 .geq 13 0]) (.kill [0,2,3,4,5,14] (.cond (.t 14) .skip (.exit 0)))) (.kill [0,2,3,4,5] (.seq (.block 1 (.seq (.draw true [⟨some 17,.P (.faddr 1 (.t 3)),none⟩,ql 18 17,qv 19 5,qv 20 0,qv 21 5,qa 22 2 20 21,⟨some 23,.R (.load 2 true (.t 22)),none⟩,qv 24 4,⟨some 25,.P (.build [(.int .i64 0),(.int .i64 0),(.int .i64 0)] [(0,(2,(.t 23))),(2,(1,(.t 24)))]),none⟩,qa 26 3 18 19,⟨none,.W (.store 3 (.t 26) (.t 25)),none⟩] [[],[],[],[],[],[],[],[],[],[],[]] [[],[],[],[],[],[],[],[],[],[],[]] [0,1,2,3,4,5,6,7,8,9,10]) (.kill [0,2,3,4,5] (.reg [qv 27 4,qv 28 0,qv 29 5,qa 30 2 28 29,⟨some 31,.R (.load 2 true (.t 30)),none⟩,qc 32 71 [(.t 31)],qo 33 .mul 27 32,qv 4 33])))) (.kill [0,2,3,4,5] (.reg [qv 15 5,qk 16 .sub 15 1,qv 5 16]))))))))))) (.kill [2,3] (.seq (.reg [⟨some 34,.R (.load 2 true (.t 3)),none⟩,⟨none,.W (.store 2 (.t 2) (.t 34)),none⟩]) .ret)))))))) (E [(.cell 2 2 true)] R .mk) .mk (mat 35 (sArgs 0 args)) m) (hl:Nat.ble args.length 35=true:=by rfl):ACalls Tryd.prog 47 args m R:=walk mix (by kernel_rfl) (Nat.le_of_ble_eq_true hl) h
abbrev h47_0 (t0 t2 t3 t4 t5:AVal):AFrame:=mat 35 [(0,t0),(2,t2),(3,t3),(4,t4),(5,t5)]
theorem w48 {args m R} (h:W Tryd.prog (.seq (.reg [qi 2 0]) (.kill [0] (.seq (.seq (.reg [qv 4 0,qn 5 4,qk 6 .gtr 5 3]) (.kill [0,6] (.cond (.t 6) (.seq (.reg [qi 2 14]) .ret) .skip))) (.kill [0] (.seq (.seq (.reg [qi 3 0]) (.block 0 (.kill [0,3] (.loop (.fin [0,3] (.seq (.seq (.reg [qv 7 3,qv 8 0,qn 9 8,qo 10 .lss 7 9]) (.kill [0,3,10] (.cond (.t 10) .skip (.exit 0)))) (.kill [0,3] (.seq (.block 1 (.seq (.reg [qv 13 0,qv 14 3,qa 15 2 13 14,⟨some 16,.P (.faddr 0 (.t 15)),none⟩,ql 17 16,qc 18 73 [(.t 17)],⟨some 19,.P (.un .not (.t 18)),none⟩,qv 20 19,⟨some 21,.P (.mov (.t 0)),(some (20,false))⟩,⟨some 22,.P (.mov (.t 3)),(some (20,false))⟩,⟨some 23,.P (.iaddr 2 (.t 21) (.t 22)),(some (20,false))⟩,⟨some 24,.P (.faddr 1 (.t 23)),(some (20,false))⟩,⟨some 25,.R (.load 1 false (.t 24)),(some (20,false))⟩,⟨some 26,.C (.c (.func (.func 73) [] [])) [(.t 25)],(some (20,false))⟩,⟨some 27,.P (.un .not (.t 26)),(some (20,false))⟩,⟨some 28,.P (.pick (.t 20) (.c (.bool true)) (.t 27)),none⟩]) (.kill [0,3,28] (.cond (.t 28) (.seq (.reg [qi 2 20]) .ret) .skip)))) (.kill [0,3] (.reg [qv 11 3,qk 12 .add 11 1,qv 3 12])))))))))) (.kill [0] (.seq (.seq (.reg [qv 29 0,qc 30 60 [(.t 29)],qk 31 .lss 30 0]) (.kill [31] (.cond (.t 31) (.seq (.reg [qi 2 3]) .ret) .skip))) (.kill [] (.seq (.reg [qi 2 0]) .ret))))))))) (E [(.tmp 2)] R .mk) .mk (mat 32 (sArgs 0 args)) m) (hl:Nat.ble args.length 32=true:=by rfl):ACalls Tryd.prog 48 args m R:=walk mix (by kernel_rfl) (Nat.le_of_ble_eq_true hl) h
abbrev h48_0 (t0 t3:AVal):AFrame:=mat 32 [(0,t0),(3,t3)]
theorem w49 {args m R} (h:W Tryd.prog (.seq (.reg [qi 4 0]) (.kill [0,1] (.seq (.seq (.reg [qv 5 1,qv 6 0,qo 7 .lss 5 6]) (.kill [0,1,7] (.cond (.t 7) (.seq (.reg [qi 4 0]) .ret) .skip))) (.kill [0,1] (.seq (.reg [qv 8 1,qv 9 0,qo 10 .sub 8 9,qk 11 .add 10 1,qv 4 11]) .ret))))) (E [(.tmp 4)] R .mk) .mk (mat 12 (sArgs 0 args)) m) (hl:Nat.ble args.length 12=true:=by rfl):ACalls Tryd.prog 49 args m R:=walk mix (by kernel_rfl) (Nat.le_of_ble_eq_true hl) h
theorem w52 {args m R} (h:W Tryd.prog (.seq (.reg [⟨some 2,.P (.mov (.c (.str ⟨#[]⟩))),none⟩]) (.kill [0] (.seq (.reg [qv 6 0,⟨some 7,.P (.i2i .u64 (.t 6)),none⟩,qv 3 7,⟨some 4,.P (.mov (.c (.str ⟨#[]⟩))),none⟩]) (.kill [0,3,4] (.seq (.seq (.reg [qv 8 0,qk 9 .lss 8 0]) (.kill [3,4,9] (.cond (.t 9) (.reg [qv 10 3,⟨some 11,.P (.un .neg (.t 10)),none⟩,qv 3 11,⟨some 4,.P (.mov (.c (.str ⟨#[45]⟩))),none⟩]) .skip))) (.kill [3,4] (.seq (.reg [⟨some 5,.P (.mov (.c (.str ⟨#[]⟩))),none⟩]) (.seq (.block 0 (.kill [3,4,5] (.loop (.fin [3,4,5] (.seq (.seq (.reg [qv 12 3,⟨some 13,.P (.bin .gtr (.t 12) (.c (.int .u64 9))),none⟩]) (.kill [3,4,5,13] (.cond (.t 13) .skip (.exit 0)))) (.kill [3,4,5] (.block 1 (.seq (.reg [qv 14 3,⟨some 15,.P (.bin .rem (.t 14) (.c (.int .u64 10))),none⟩,⟨some 16,.P (.bin .add (.c (.int .u64 48)) (.t 15)),none⟩,⟨some 17,.P (.i2i .u8 (.t 16)),none⟩,⟨some 18,.A (.bslice 5 1 [(.int .u8 0)] [(0,(1,(.t 17)))]),none⟩,⟨some 19,.R (.rk .b2s (.t 18)),none⟩,qv 20 5,qo 21 .add 19 20,qv 5 21]) (.kill [3,4,5] (.reg [qv 22 3,⟨some 23,.P (.bin .quo (.t 22) (.c (.int .u64 10))),none⟩,qv 3 23])))))))))) (.kill [3,4,5] (.seq (.reg [qv 24 4,qv 25 3,⟨some 26,.P (.bin .add (.c (.int .u64 48)) (.t 25)),none⟩,⟨some 27,.P (.i2i .u8 (.t 26)),none⟩,⟨some 28,.A (.bslice 5 1 [(.int .u8 0)] [(0,(1,(.t 27)))]),none⟩,⟨some 29,.R (.rk .b2s (.t 28)),none⟩,qo 30 .add 24 29,qv 31 5,qo 32 .add 30 31,qv 2 32]) .ret)))))))))) (E [(.tmp 2)] R .mk) .mk (mat 33 (sArgs 0 args)) m) (hl:Nat.ble args.length 33=true:=by rfl):ACalls Tryd.prog 52 args m R:=walk mix (by kernel_rfl) (Nat.le_of_ble_eq_true hl) h
abbrev h52_0 (t3 t4 t5:AVal):AFrame:=mat 33 [(3,t3),(4,t4),(5,t5)]
theorem w53 {args m R} (h:W Tryd.prog (.seq (.reg [qb 4 false]) (.kill [0,1] (.seq (.seq (.reg [qv 6 0,qn 7 6,qv 8 1,qn 9 8,qo 10 .neq 7 9]) (.kill [0,1,10] (.cond (.t 10) (.seq (.reg [qb 4 false]) .ret) .skip))) (.kill [0,1] (.seq (.seq (.reg [qv 11 0,qn 12 11,qi 13 0]) (.kill [0,1,12,13] (.block 0 (.kill [0,1,12,13] (.loop (.fin [0,1,12,13] (.seq (.reg [qo 14 .lss 13 12]) (.seq (.cond (.t 14) .skip (.exit 0)) (.kill [0,1,12,13] (.seq (.block 1 (.seq (.reg [qv 15 13,qv 5 15]) (.kill [0,1,5,12,13] (.seq (.draw true [qv 16 0,qv 17 5,qa 18 2 16 17,⟨some 19,.R (.load 2 true (.t 18)),none⟩,qv 20 1,qv 21 5,qa 22 2 20 21,⟨some 23,.R (.load 2 true (.t 22)),none⟩,⟨some 24,.P (.eqS true [false,false] (.t 19) (.t 23)),none⟩] [[],[],[],[],[],[],[],[],[]] [[],[],[],[],[],[],[],[],[]] [0,1,2,3,4,5,6,7,8]) (.kill [0,1,12,13,24] (.cond (.t 24) (.seq (.reg [qb 4 false]) .ret) .skip)))))) (.kill [0,1,12,13] (.reg [qk 25 .add 13 1,qv 13 25])))))))))))) (.kill [] (.seq (.reg [qb 4 true]) .ret))))))) (E [(.tmp 4)] R .mk) .mk (mat 26 (sArgs 0 args)) m) (hl:Nat.ble args.length 26=true:=by rfl):ACalls Tryd.prog 53 args m R:=walk mix (by kernel_rfl) (Nat.le_of_ble_eq_true hl) h
abbrev h53_0 (t0 t1 t12 t13:AVal):AFrame:=mat 26 [(0,t0),(1,t1),(12,t12),(13,t13)]
theorem w54 {args m R} (h:W Tryd.prog (.seq (.reg [⟨some 1,.A (.box 26 (.t 0)),none⟩,⟨some 2,.P (.mov (.c .nilslice)),none⟩]) (.kill [1] (.seq (.reg [⟨some 3,.P (.mov (.c .nilslice)),none⟩]) (.seq (.seq (.reg [⟨some 6,.P (.faddr 1 (.t 1)),none⟩,ql 7 6,qn 8 7,qi 9 0]) (.kill [3,7,8,9] (.block 0 (.kill [3,7,8,9] (.loop (.fin [3,7,8,9] (.seq (.reg [qo 10 .lss 9 8]) (.seq (.cond (.t 10) .skip (.exit 0)) (.kill [3,7,8,9] (.seq (.block 1 (.seq (.reg [qa 11 3 7 9,⟨some 12,.R (.load 3 true (.t 11)),none⟩,⟨some 5,.A (.alloc 92 [(.int .i64 0),(.int .i64 0),(.int .i64 0)]),none⟩,⟨none,.W (.store 3 (.t 5) (.t 12)),none⟩]) (.kill [3,5,7,8,9] (.reg [qv 13 3,⟨some 14,.P (.faddr 0 (.t 5)),none⟩,⟨some 15,.R (.load 2 true (.t 14)),none⟩,⟨some 16,.A (.bslice 83 1 [(.int .i64 0),(.int .i64 0)] [(0,(2,(.t 15)))]),none⟩,⟨some 17,.W (.append 2 16 83 false (.t 13) (.t 16)),none⟩,qv 3 17])))) (.kill [3,7,8,9] (.reg [qk 18 .add 9 1,qv 9 18])))))))))))) (.kill [3] (.seq (.reg [qv 19 3,qv 2 19]) .ret)))))) (E [(.tmp 2)] R .mk) .mk (mat 20 (sArgs 0 args)) m) (hl:Nat.ble args.length 20=true:=by rfl):ACalls Tryd.prog 54 args m R:=walk mix (by kernel_rfl) (Nat.le_of_ble_eq_true hl) h
abbrev h54_0 (t3 t7 t8 t9:AVal):AFrame:=mat 20 [(3,t3),(7,t7),(8,t8),(9,t9)]
end Go.Proofs.YtodhalcpnmddjaaDoor
namespace Go.Proofs.YtodhalcpnmddjaaDoor
open Go Ax
set_option maxRecDepth 100000
theorem w55 {args m R} (h:W Tryd.prog (.seq (.reg [qi 2 0,qb 3 false]) (.kill [0] (.seq (.reg [qi 4 1,qb 5 false]) (.seq (.seq (.reg [qv 12 0,qn 13 12,qi 14 0]) (.block 0 (.kill [0,4,5,12,13,14] (.loop (.fin [0,4,5,12,13,14] (.seq (.reg [qo 15 .lss 14 13]) (.seq (.cond (.t 15) .skip (.exit 0)) (.kill [0,4,5,12,13,14] (.seq (.block 1 (.seq (.reg [qa 16 2 12 14,⟨some 17,.R (.load 2 true (.t 16)),none⟩,⟨some 7,.A (.alloc 83 [(.int .i64 0),(.int .i64 0)]),none⟩,⟨none,.W (.store 2 (.t 7) (.t 17)),none⟩]) (.kill [0,4,5,7,12,13,14] (.seq (.reg [⟨some 18,.R (.load 2 true (.t 7)),none⟩,qc 19 71 [(.t 18)],qv 8 19]) (.kill [0,4,5,8,12,13,14] (.seq (.reg [qv 20 8,qk 21 .eql 20 0]) (.kill [0,4,5,12,13,14,21] (.cond (.t 21) (.reg [qb 5 true]) .skip)))))))) (.kill [0,4,5,12,13,14] (.reg [qk 22 .add 14 1,qv 14 22]))))))))))) (.kill [0,4,5] (.seq (.seq (.reg [qv 23 5]) (.kill [0,4,23] (.cond (.t 23) (.seq (.reg [qi 2 0,qb 3 true]) .ret) .skip))) (.kill [0,4] (.seq (.seq (.reg [qv 24 0,qn 25 24,qi 26 0]) (.kill [4,24,25,26] (.block 2 (.kill [4,24,25,26] (.loop (.fin [4,24,25,26] (.seq (.reg [qo 27 .lss 26 25]) (.seq (.cond (.t 27) .skip (.exit 2)) (.kill [4,24,25,26] (.seq (.block 3 (.seq (.reg [qa 28 2 24 26,⟨some 29,.R (.load 2 true (.t 28)),none⟩,⟨some 10,.A (.alloc 83 [(.int .i64 0),(.int .i64 0)]),none⟩,⟨none,.W (.store 2 (.t 10) (.t 29)),none⟩]) (.kill [4,10,24,25,26] (.seq (.reg [⟨some 30,.R (.load 2 true (.t 10)),none⟩,qc 31 71 [(.t 30)],qv 11 31]) (.kill [4,11,24,25,26] (.seq (.seq (.reg [qv 32 11,qk 33 .gtr 32 65536]) (.kill [4,11,24,25,26,33] (.cond (.t 33) (.seq (.reg [qi 2 0,qb 3 false]) .ret) .skip))) (.kill [4,11,24,25,26] (.seq (.reg [qv 34 4,qv 35 11,qo 36 .mul 34 35,qv 4 36]) (.kill [4,24,25,26] (.seq (.reg [qv 37 4,qk 38 .gtr 37 65536]) (.kill [4,24,25,26,38] (.cond (.t 38) (.seq (.reg [qi 2 0,qb 3 false]) .ret) .skip)))))))))))) (.kill [4,24,25,26] (.reg [qk 39 .add 26 1,qv 26 39])))))))))))) (.kill [4] (.seq (.reg [qv 40 4,qv 2 40,qb 3 true]) .ret)))))))))) (E [(.tmp 2),(.tmp 3)] R .mk) .mk (mat 41 (sArgs 0 args)) m) (hl:Nat.ble args.length 41=true:=by rfl):ACalls Tryd.prog 55 args m R:=walk mix (by kernel_rfl) (Nat.le_of_ble_eq_true hl) h
abbrev h55_0 (t0 t4 t5 t12 t13 t14:AVal):AFrame:=mat 41 [(0,t0),(4,t4),(5,t5),(12,t12),(13,t13),(14,t14)]
abbrev h55_1 (t4 t24 t25 t26:AVal):AFrame:=mat 41 [(4,t4),(24,t24),(25,t25),(26,t26)]
theorem w56 {args m R} (h:W Tryd.prog (.seq (.reg [⟨some 1,.A (.box 26 (.t 0)),none⟩,qi 2 0,qi 3 0,qb 4 false]) (.kill [1] (.seq (.draw true [⟨some 11,.P (.faddr 0 (.t 1)),none⟩,ql 12 11,⟨some 13,.P (.faddr 0 (.t 1)),none⟩,ql 14 13,qv 5 12,qv 6 14] [[],[],[],[],[],[]] [[],[],[],[],[],[]] [0,1,2,3,4,5]) (.kill [1,5,6] (.seq (.seq (.reg [qv 15 5,qk 16 .gtr 15 1152921504606846976,qv 17 16,⟨some 18,.P (.mov (.t 5)),(some (17,false))⟩,⟨some 19,.P (.bin .lss (.t 18) (.c (.int .i64 (-1152921504606846976)))),(some (17,false))⟩,⟨some 20,.P (.pick (.t 17) (.c (.bool true)) (.t 19)),none⟩]) (.kill [1,5,6,20] (.cond (.t 20) (.seq (.reg [qi 2 0,qi 3 0,qb 4 false]) .ret) .skip))) (.kill [1,5,6] (.seq (.seq (.reg [⟨some 21,.P (.faddr 1 (.t 1)),none⟩,ql 22 21,qn 23 22,qi 24 0]) (.kill [5,6,22,23,24] (.block 0 (.kill [5,6,22,23,24] (.loop (.fin [5,6,22,23,24] (.seq (.reg [qo 25 .lss 24 23]) (.seq (.cond (.t 25) .skip (.exit 0)) (.kill [5,6,22,23,24] (.seq (.block 1 (.seq (.reg [qa 26 3 22 24,⟨some 27,.R (.load 3 true (.t 26)),none⟩,⟨some 8,.A (.alloc 92 [(.int .i64 0),(.int .i64 0),(.int .i64 0)]),none⟩,⟨none,.W (.store 3 (.t 8) (.t 27)),none⟩]) (.kill [5,6,8,22,23,24] (.seq (.reg [⟨some 28,.P (.faddr 0 (.t 8)),none⟩,⟨some 29,.R (.load 2 true (.t 28)),none⟩,qc 30 71 [(.t 29)],qk 31 .sub 30 1,qv 9 31]) (.kill [5,6,8,9,22,23,24] (.seq (.seq (.reg [qv 32 9,qk 33 .eql 32 0]) (.kill [5,6,8,9,22,23,24,33] (.cond (.t 33) (.exit 1) .skip))) (.kill [5,6,8,9,22,23,24] (.seq (.seq (.reg [⟨some 34,.P (.faddr 2 (.t 8)),none⟩,ql 35 34,qk 36 .gtr 35 1099511627776,qv 37 36,⟨some 38,.P (.faddr 2 (.t 8)),(some (37,false))⟩,⟨some 39,.R (.load 1 false (.t 38)),(some (37,false))⟩,⟨some 40,.P (.bin .lss (.t 39) (.c (.int .i64 (-1099511627776)))),(some (37,false))⟩,⟨some 41,.P (.pick (.t 37) (.c (.bool true)) (.t 40)),none⟩]) (.kill [5,6,8,9,22,23,24,41] (.cond (.t 41) (.seq (.reg [qi 2 0,qi 3 0,qb 4 false]) .ret) .skip))) (.kill [5,6,8,9,22,23,24] (.seq (.reg [qv 42 9,⟨some 43,.P (.faddr 2 (.t 8)),none⟩,ql 44 43,qo 45 .mul 42 44,qv 10 45]) (.kill [5,6,10,22,23,24] (.seq (.reg [qv 46 10,qk 47 .gtr 46 0]) (.kill [5,6,10,22,23,24,47] (.cond (.t 47) (.reg [qv 48 6,qv 49 10,qc 50 80 [(.t 48),(.t 49)],qv 6 50]) (.reg [qv 51 5,qv 52 10,qc 53 80 [(.t 51),(.t 52)],qv 5 53]))))))))))))))) (.kill [5,6,22,23,24] (.reg [qk 54 .add 24 1,qv 24 54])))))))))))) (.kill [5,6] (.seq (.reg [qv 55 5,qv 56 6,qv 2 55,qv 3 56,qb 4 true]) .ret))))))))) (E [(.tmp 2),(.tmp 3),(.tmp 4)] R .mk) .mk (mat 57 (sArgs 0 args)) m) (hl:Nat.ble args.length 57=true:=by rfl):ACalls Tryd.prog 56 args m R:=walk mix (by kernel_rfl) (Nat.le_of_ble_eq_true hl) h
abbrev h56_0 (t5 t6 t22 t23 t24:AVal):AFrame:=mat 57 [(5,t5),(6,t6),(22,t22),(23,t23),(24,t24)]
theorem w57 {args m R} (h:W Tryd.prog (.seq (.reg [⟨some 3,.A (.box 32 (.t 0)),none⟩,qi 6 0,qb 7 false]) (.kill [1,2,3] (.seq (.reg [⟨some 12,.P (.faddr 0 (.t 3)),none⟩,ql 13 12,qv 8 13]) (.kill [1,2,3,8] (.seq (.seq (.reg [qv 14 8,⟨some 15,.P (.bin .lss (.t 14) (.c (.int .i64 (-1152921504606846976)))),none⟩,qv 16 15,⟨some 17,.P (.mov (.t 8)),(some (16,false))⟩,⟨some 18,.P (.bin .gtr (.t 17) (qz 1152921504606846976)),(some (16,false))⟩,⟨some 19,.P (.pick (.t 16) (.c (.bool true)) (.t 18)),none⟩]) (.kill [1,2,3,8,19] (.cond (.t 19) (.seq (.reg [qi 6 0,qb 7 false]) .ret) .skip))) (.kill [1,2,3,8] (.seq (.seq (.reg [qi 9 0]) (.block 0 (.kill [1,2,3,8,9] (.loop (.fin [1,2,3,8,9] (.seq (.seq (.reg [qv 20 9,qv 21 1,qn 22 21,qo 23 .lss 20 22]) (.kill [1,2,3,8,9,23] (.cond (.t 23) .skip (.exit 0)))) (.kill [1,2,3,8,9] (.seq (.block 1 (.seq (.draw true [qv 26 1,qv 27 9,qa 28 1 26 27,ql 29 28,⟨some 30,.P (.faddr 1 (.t 3)),none⟩,ql 31 30,qv 32 9,qa 33 3 31 32,⟨some 34,.P (.faddr 0 (.t 33)),none⟩,ql 35 34,qo 36 .sub 29 35,⟨some 37,.P (.faddr 1 (.t 3)),none⟩,ql 38 37,qv 39 9,qa 40 3 38 39,⟨some 41,.P (.faddr 2 (.t 40)),none⟩,ql 42 41,qv 10 36,qv 11 42] [[],[],[],[],[],[],[],[],[],[],[],[],[],[],[],[],[],[],[]] [[],[],[],[],[],[],[],[],[],[],[],[],[],[],[],[],[],[],[]] [0,1,2,3,4,5,6,7,8,9,10,11,12,13,14,15,16,17,18]) (.kill [1,2,3,8,9,10,11] (.seq (.seq (.reg [qv 43 10,qk 44 .eql 43 0]) (.kill [1,2,3,8,9,10,11,44] (.cond (.t 44) (.exit 1) .skip))) (.kill [1,2,3,8,9,10,11] (.seq (.seq (.reg [qv 45 11,qk 46 .gtr 45 1099511627776,qv 47 46,⟨some 48,.P (.mov (.t 11)),(some (47,false))⟩,⟨some 49,.P (.bin .lss (.t 48) (.c (.int .i64 (-1099511627776)))),(some (47,false))⟩,⟨some 50,.P (.pick (.t 47) (.c (.bool true)) (.t 49)),none⟩]) (.kill [1,2,3,8,9,10,11,50] (.cond (.t 50) (.seq (.reg [qi 6 0,qb 7 false]) .ret) .skip))) (.kill [1,2,3,8,9,10,11] (.reg [qv 51 8,qv 52 10,qv 53 11,qo 54 .mul 52 53,qo 55 .add 51 54,qv 8 55])))))))) (.kill [1,2,3,8,9] (.reg [qv 24 9,qk 25 .add 24 1,qv 9 25])))))))))) (.kill [2,8] (.seq (.reg [qv 56 8,qv 57 8,qk 58 .geq 57 0,qv 59 58,⟨some 60,.P (.mov (.t 8)),(some (59,true))⟩,⟨some 61,.P (.mov (.t 2)),(some (59,true))⟩,⟨some 62,.P (.bin .lss (.t 60) (.t 61)),(some (59,true))⟩,⟨some 63,.P (.pick (.t 59) (.t 62) (.c (.bool false))),none⟩,qv 6 56,qv 7 63]) .ret))))))))) (E [(.tmp 6),(.tmp 7)] R .mk) .mk (mat 64 (sArgs 0 args)) m) (hl:Nat.ble args.length 64=true:=by rfl):ACalls Tryd.prog 57 args m R:=walk mix (by kernel_rfl) (Nat.le_of_ble_eq_true hl) h
abbrev h57_0 (t1 t2 t3 t8 t9:AVal):AFrame:=mat 64 [(1,t1),(2,t2),(3,t3),(8,t8),(9,t9)]
theorem w58 {args m R} (h:W Tryd.prog (.seq (.reg [⟨some 1,.A (.box 26 (.t 0)),none⟩,qb 2 false]) (.kill [1] (.seq (.reg [⟨some 3,.R (.load 2 true (.t 1)),none⟩,qc 4 21 [(.t 3),(qz 2147483648)],qk 5 .neq 4 0,qv 2 5]) .ret))) (E [(.tmp 2)] R .mk) .mk (mat 6 (sArgs 0 args)) m) (hl:Nat.ble args.length 6=true:=by rfl):ACalls Tryd.prog 58 args m R:=walk mix (by kernel_rfl) (Nat.le_of_ble_eq_true hl) h
theorem w59 {args m R} (h:W Tryd.prog (.seq (.reg [⟨some 1,.A (.box 32 (.t 0)),none⟩,qb 2 false]) (.kill [1] (.seq (.reg [⟨some 3,.R (.load 2 true (.t 1)),none⟩,qc 4 22 [(.t 3),(qz 2147483648)],qk 5 .neq 4 0,qv 2 5]) .ret))) (E [(.tmp 2)] R .mk) .mk (mat 6 (sArgs 0 args)) m) (hl:Nat.ble args.length 6=true:=by rfl):ACalls Tryd.prog 59 args m R:=walk mix (by kernel_rfl) (Nat.le_of_ble_eq_true hl) h
theorem w60 {args m R} (h:W Tryd.prog (.seq (.reg [qi 2 0]) (.kill [0] (.seq (.seq (.reg [qi 3 0]) (.block 0 (.kill [0,3] (.loop (.fin [0,3] (.seq (.seq (.reg [qv 7 3,qv 8 0,qn 9 8,qo 10 .lss 7 9]) (.kill [0,3,10] (.cond (.t 10) .skip (.exit 0)))) (.kill [0,3] (.seq (.block 1 (.seq (.draw true [qv 13 0,qv 14 3,qa 15 2 13 14,⟨some 16,.P (.faddr 0 (.t 15)),none⟩,ql 17 16,qv 18 0,qv 19 3,qa 20 2 18 19,⟨some 21,.P (.faddr 1 (.t 20)),none⟩,ql 22 21,qc 23 49 [(.t 17),(.t 22)],qk 24 .eql 23 0] [[],[],[],[],[],[],[],[],[],[],[],[10]] [[],[],[],[],[],[],[],[],[],[],[],[]] [0,1,2,3,4,5,6,7,8,9,10,11]) (.kill [0,3,24] (.cond (.t 24) (.seq (.reg [qi 2 0]) .ret) .skip)))) (.kill [0,3] (.reg [qv 11 3,qk 12 .add 11 1,qv 3 12])))))))))) (.kill [0] (.seq (.reg [qi 4 1]) (.seq (.seq (.reg [qi 5 0]) (.block 2 (.kill [0,4,5] (.loop (.fin [0,4,5] (.seq (.seq (.reg [qv 25 5,qv 26 0,qn 27 26,qo 28 .lss 25 27]) (.kill [0,4,5,28] (.cond (.t 28) .skip (.exit 2)))) (.kill [0,4,5] (.seq (.block 3 (.seq (.draw true [qv 31 0,qv 32 5,qa 33 2 31 32,⟨some 34,.P (.faddr 0 (.t 33)),none⟩,ql 35 34,qv 36 0,qv 37 5,qa 38 2 36 37,⟨some 39,.P (.faddr 1 (.t 38)),none⟩,ql 40 39,qc 41 49 [(.t 35),(.t 40)],qv 6 41] [[],[],[],[],[],[],[],[],[],[],[],[10]] [[],[],[],[],[],[],[],[],[],[],[],[]] [0,1,2,3,4,5,6,7,8,9,10,11]) (.kill [0,4,5,6] (.seq (.seq (.reg [qv 42 6,qk 43 .gtr 42 65536,qv 44 43,⟨some 45,.P (.mov (.t 4)),(some (44,false))⟩,⟨some 46,.P (.mov (.t 6)),(some (44,false))⟩,⟨some 47,.P (.bin .mul (.t 45) (.t 46)),(some (44,false))⟩,⟨some 48,.P (.bin .gtr (.t 47) (qz 65536)),(some (44,false))⟩,⟨some 49,.P (.pick (.t 44) (.c (.bool true)) (.t 48)),none⟩]) (.kill [0,4,5,6,49] (.cond (.t 49) (.seq (.reg [⟨some 2,.P (.mov (.c (.int .i64 (-1)))),none⟩]) .ret) .skip))) (.kill [0,4,5,6] (.reg [qv 50 4,qv 51 6,qo 52 .mul 50 51,qv 4 52])))))) (.kill [0,4,5] (.reg [qv 29 5,qk 30 .add 29 1,qv 5 30])))))))))) (.kill [4] (.seq (.reg [qv 53 4,qv 2 53]) .ret)))))))) (E [(.tmp 2)] R .mk) .mk (mat 54 (sArgs 0 args)) m) (hl:Nat.ble args.length 54=true:=by rfl):ACalls Tryd.prog 60 args m R:=walk mix (by kernel_rfl) (Nat.le_of_ble_eq_true hl) h
abbrev h60_0 (t0 t3:AVal):AFrame:=mat 54 [(0,t0),(3,t3)]
abbrev h60_1 (t0 t4 t5:AVal):AFrame:=mat 54 [(0,t0),(4,t4),(5,t5)]
theorem w61 {args m R} (h:W Tryd.prog (.seq (.reg [⟨some 2,.A (.box 83 (.t 0)),none⟩,qb 4 false]) (.kill [1,2] (.seq (.reg [qv 5 1,⟨some 6,.P (.faddr 0 (.t 2)),none⟩,ql 7 6,qo 8 .geq 5 7,qv 9 8,⟨some 10,.P (.mov (.t 1)),(some (9,true))⟩,⟨some 11,.P (.faddr 1 (.t 2)),(some (9,true))⟩,⟨some 12,.R (.load 1 false (.t 11)),(some (9,true))⟩,⟨some 13,.P (.bin .leq (.t 10) (.t 12)),(some (9,true))⟩,⟨some 14,.P (.pick (.t 9) (.t 13) (.c (.bool false))),none⟩,qv 4 14]) .ret))) (E [(.tmp 4)] R .mk) .mk (mat 15 (sArgs 0 args)) m) (hl:Nat.ble args.length 15=true:=by rfl):ACalls Tryd.prog 61 args m R:=walk mix (by kernel_rfl) (Nat.le_of_ble_eq_true hl) h
theorem w62 {args m R} (h:W Tryd.prog (.seq (.reg [⟨some 1,.A (.box 26 (.t 0)),none⟩,⟨some 2,.P (.mov (.c .nilfunc)),none⟩]) (.kill [1] (.seq (.reg [⟨some 3,.P (.mkfn (.func 81) [] [(.t 1)]),none⟩,qv 2 3]) .ret))) (E [(.tmp 2)] R .mk) .mk (mat 4 (sArgs 0 args)) m) (hl:Nat.ble args.length 4=true:=by rfl):ACalls Tryd.prog 62 args m R:=walk mix (by kernel_rfl) (Nat.le_of_ble_eq_true hl) h
theorem w64 {args m R} (h:W Tryd.prog (.seq (.reg [⟨some 2,.A (.box 32 (.t 0)),none⟩,qb 4 false]) (.kill [1,2] (.seq (.seq (.reg [qv 6 1,qn 7 6,qk 8 .sub 7 1,qv 5 8]) (.kill [1,2,5] (.block 0 (.kill [1,2,5] (.loop (.fin [1,2,5] (.seq (.seq (.reg [qv 9 5,qk 10 .geq 9 0]) (.kill [1,2,5,10] (.cond (.t 10) .skip (.exit 0)))) (.kill [1,2,5] (.seq (.block 1 (.seq (.reg [qv 13 1,qv 14 5,qa 15 1 13 14,ql 16 15,qk 17 .add 16 1,qa 18 1 13 14,⟨none,.W (.store 1 (.t 18) (.t 17)),none⟩]) (.kill [1,2,5] (.seq (.seq (.draw true [qv 19 1,qv 20 5,qa 21 1 19 20,ql 22 21,⟨some 23,.P (.faddr 1 (.t 2)),none⟩,ql 24 23,qv 25 5,qa 26 3 24 25,⟨some 27,.P (.faddr 1 (.t 26)),none⟩,ql 28 27,qo 29 .leq 22 28] [[],[],[],[],[],[],[],[],[],[],[]] [[],[],[],[],[],[],[],[],[],[],[]] [0,1,2,3,4,5,6,7,8,9,10]) (.kill [1,2,5,29] (.cond (.t 29) (.seq (.reg [qb 4 true]) .ret) .skip))) (.kill [1,2,5] (.reg [qv 30 1,qv 31 5,⟨some 32,.P (.faddr 1 (.t 2)),none⟩,ql 33 32,qv 34 5,qa 35 3 33 34,⟨some 36,.P (.faddr 0 (.t 35)),none⟩,ql 37 36,qa 38 1 30 31,⟨none,.W (.store 1 (.t 38) (.t 37)),none⟩])))))) (.kill [1,2,5] (.reg [qv 11 5,qk 12 .sub 11 1,qv 5 12]))))))))))) (.kill [] (.seq (.reg [qb 4 false]) .ret))))) (E [(.tmp 4)] R .mk) .mk (mat 39 (sArgs 0 args)) m) (hl:Nat.ble args.length 39=true:=by rfl):ACalls Tryd.prog 64 args m R:=walk mix (by kernel_rfl) (Nat.le_of_ble_eq_true hl) h
abbrev h64_0 (t1 t2 t5:AVal):AFrame:=mat 39 [(1,t1),(2,t2),(5,t5)]
theorem w65 {args m R} (h:W Tryd.prog (.seq (.reg [⟨some 2,.A (.box 26 (.t 0)),none⟩,qi 4 0]) (.kill [1,2] (.seq (.block 0 (.seq (.reg [⟨some 6,.R (.load 2 true (.t 2)),none⟩,qc 7 58 [(.t 6)],qv 5 7]) (.kill [1,2,5] (.cond (.t 5) (.seq (.reg [qi 4 2]) .ret) (.seq (.reg [qv 9 1,qk 10 .lss 9 0,qv 11 10,⟨some 12,.P (.mov (.t 1)),(some (11,false))⟩,⟨some 13,.P (.faddr 1 (.t 2)),(some (11,false))⟩,⟨some 14,.R (.load 1 false (.t 13)),(some (11,false))⟩,⟨some 15,.P (.len (.t 14)),(some (11,false))⟩,⟨some 16,.P (.bin .geq (.t 12) (.t 15)),(some (11,false))⟩,⟨some 17,.P (.pick (.t 11) (.c (.bool true)) (.t 16)),none⟩,qv 8 17]) (.kill [8] (.cond (.t 8) (.seq (.reg [qi 4 14]) .ret) .skip))))))) (.kill [] (.seq (.reg [qi 4 0]) .ret))))) (E [(.tmp 4)] R .mk) .mk (mat 18 (sArgs 0 args)) m) (hl:Nat.ble args.length 18=true:=by rfl):ACalls Tryd.prog 65 args m R:=walk mix (by kernel_rfl) (Nat.le_of_ble_eq_true hl) h
theorem w66 {args m R} (h:W Tryd.prog (.seq (.reg [⟨some 6,.P (.mov (.c .nilslice)),none⟩]) (.kill [0,1,2] (.seq (.reg [qv 8 0,qv 9 1,qv 10 2,qv 11 0,qn 12 11,⟨some 13,.P (.slice 3 (.t 8) (some (.t 9)) (some (.t 10)) (some (.t 12))),none⟩]) (.kill [0,1,2] (.seq (.seq (.reg [qv 14 1,qv 15 2,qo 16 .eql 14 15]) (.kill [0,1,2,16] (.cond (.t 16) (.seq (.reg [qv 17 0,qv 6 17]) .ret) .skip))) (.kill [0,1,2] (.seq (.reg [qv 18 0,qn 19 18,qv 7 19]) (.kill [0,1,2,7] (.seq (.draw true [qv 20 0,qv 21 1,⟨some 22,.P (.slice 3 (.t 20) none (some (.t 21)) none),none⟩,qv 23 0,qv 24 2,⟨some 25,.P (.slice 3 (.t 23) (some (.t 24)) none none),none⟩,⟨some 26,.W (.append 3 24 92 false (.t 22) (.t 25)),none⟩,qv 0 26] [[],[],[],[],[],[],[],[]] [[],[],[],[],[],[],[],[]] [0,1,2,3,4,5,6,7]) (.kill [0,7] (.seq (.reg [qv 27 0,qv 28 0,qn 29 28,qv 30 7,⟨some 31,.P (.slice 3 (.t 27) (some (.t 29)) (some (.t 30)) none),none⟩,⟨none,.W (.clear [(.int .i64 0),(.int .i64 0),(.int .i64 0)] (.t 31)),none⟩]) (.kill [0] (.seq (.reg [qv 32 0,qv 6 32]) .ret))))))))))))) (E [(.tmp 6)] R .mk) .mk (mat 33 (sArgs 0 args)) m) (hl:Nat.ble args.length 33=true:=by rfl):ACalls Tryd.prog 66 args m R:=walk mix (by kernel_rfl) (Nat.le_of_ble_eq_true hl) h
theorem w67 {args m R} (h:W Tryd.prog (.seq (.reg [⟨some 1,.A (.box 26 (.t 0)),none⟩,⟨some 2,.A (.alloc 26 [(.int .i64 0),.nilslice]),none⟩]) (.kill [1,2] (.seq (.draw true [⟨some 3,.P (.faddr 0 (.t 1)),none⟩,ql 4 3,⟨some 5,.A (.bslice 92 0 [(.int .i64 0),(.int .i64 0),(.int .i64 0)] []),none⟩,⟨some 6,.P (.faddr 1 (.t 1)),none⟩,ql 7 6,⟨some 8,.W (.append 3 24 92 false (.t 5) (.t 7)),none⟩,⟨some 9,.P (.build [(.int .i64 0),.nilslice] [(0,(1,(.t 4))),(1,(1,(.t 8)))]),none⟩,⟨none,.W (.store 2 (.t 2) (.t 9)),none⟩] [[],[],[],[],[],[2],[2],[2]] [[],[],[],[],[],[1],[],[]] [0,1,2,3,4,5,6,7]) .ret))) (E [(.cell 2 2 true)] R .mk) .mk (mat 10 (sArgs 0 args)) m) (hl:Nat.ble args.length 10=true:=by rfl):ACalls Tryd.prog 67 args m R:=walk mix (by kernel_rfl) (Nat.le_of_ble_eq_true hl) h
theorem w69 {args m R} (h:W Tryd.prog (.seq (.reg [⟨some 1,.A (.box 83 (.t 0)),none⟩,qb 2 false]) (.kill [1] (.seq (.reg [⟨some 3,.P (.faddr 0 (.t 1)),none⟩,ql 4 3,qc 5 70 [(.t 4)],qv 6 5,⟨some 7,.P (.faddr 1 (.t 1)),(some (6,true))⟩,⟨some 8,.R (.load 1 false (.t 7)),(some (6,true))⟩,⟨some 9,.C (.c (.func (.func 70) [] [])) [(.t 8)],(some (6,true))⟩,⟨some 10,.P (.pick (.t 6) (.t 9) (.c (.bool false))),none⟩,qv 2 10]) .ret))) (E [(.tmp 2)] R .mk) .mk (mat 11 (sArgs 0 args)) m) (hl:Nat.ble args.length 11=true:=by rfl):ACalls Tryd.prog 69 args m R:=walk mix (by kernel_rfl) (Nat.le_of_ble_eq_true hl) h
theorem w70 {args m R} (h:W Tryd.prog (.seq (.reg [qb 2 false]) (.kill [0] (.seq (.reg [qv 3 0,⟨some 4,.P (.bin .geq (.t 3) (.c (.int .i64 (-2147483647)))),none⟩,qv 5 4,⟨some 6,.P (.mov (.t 0)),(some (5,true))⟩,⟨some 7,.P (.bin .leq (.t 6) (qz 2147483647)),(some (5,true))⟩,⟨some 8,.P (.pick (.t 5) (.t 7) (.c (.bool false))),none⟩,qv 2 8]) .ret))) (E [(.tmp 2)] R .mk) .mk (mat 9 (sArgs 0 args)) m) (hl:Nat.ble args.length 9=true:=by rfl):ACalls Tryd.prog 70 args m R:=walk mix (by kernel_rfl) (Nat.le_of_ble_eq_true hl) h
theorem w71 {args m R} (h:W Tryd.prog (.seq (.reg [⟨some 1,.A (.box 83 (.t 0)),none⟩,qi 2 0]) (.kill [1] (.seq (.reg [⟨some 3,.P (.faddr 1 (.t 1)),none⟩,ql 4 3,⟨some 5,.P (.faddr 0 (.t 1)),none⟩,ql 6 5,qo 7 .sub 4 6,qk 8 .add 7 1,⟨some 9,.P (.max (qz 0) (.t 8)),none⟩,qv 2 9]) .ret))) (E [(.tmp 2)] R .mk) .mk (mat 10 (sArgs 0 args)) m) (hl:Nat.ble args.length 10=true:=by rfl):ACalls Tryd.prog 71 args m R:=walk mix (by kernel_rfl) (Nat.le_of_ble_eq_true hl) h
theorem w73 {args m R} (h:W Tryd.prog (.seq (.reg [qb 2 false]) (.kill [0] (.seq (.reg [qv 3 0,⟨some 4,.P (.bin .geq (.t 3) (.c (.int .i64 (-2147483647)))),none⟩,qv 5 4,⟨some 6,.P (.mov (.t 0)),(some (5,true))⟩,⟨some 7,.P (.bin .leq (.t 6) (qz 2147483647)),(some (5,true))⟩,⟨some 8,.P (.pick (.t 5) (.t 7) (.c (.bool false))),none⟩,qv 2 8]) .ret))) (E [(.tmp 2)] R .mk) .mk (mat 9 (sArgs 0 args)) m) (hl:Nat.ble args.length 9=true:=by rfl):ACalls Tryd.prog 73 args m R:=walk mix (by kernel_rfl) (Nat.le_of_ble_eq_true hl) h
end Go.Proofs.YtodhalcpnmddjaaDoor
namespace Go.Proofs.YtodhalcpnmddjaaDoor
open Go Ax
set_option maxRecDepth 100000
theorem w74 {args m R} (h:W Tryd.prog (.seq (.reg [qb 4 false]) (.kill [0,1] (.seq (.reg [qv 5 0,qv 6 1,qc 7 85 [(.t 5),(.t 6)],qk 8 .geq 7 0,qv 4 8]) .ret))) (E [(.tmp 4)] R .mk) .mk (mat 9 (sArgs 0 args)) m) (hl:Nat.ble args.length 9=true:=by rfl):ACalls Tryd.prog 74 args m R:=walk mix (by kernel_rfl) (Nat.le_of_ble_eq_true hl) h
theorem w75 {args m R} (h:W Tryd.prog (.seq (.reg [⟨some 1,.A (.box 83 (.t 0)),none⟩,qb 2 false]) (.kill [1] (.seq (.reg [⟨some 3,.R (.load 2 true (.t 1)),none⟩,qc 4 69 [(.t 3)],⟨some 5,.P (.un .not (.t 4)),none⟩,qv 2 5]) .ret))) (E [(.tmp 2)] R .mk) .mk (mat 6 (sArgs 0 args)) m) (hl:Nat.ble args.length 6=true:=by rfl):ACalls Tryd.prog 75 args m R:=walk mix (by kernel_rfl) (Nat.le_of_ble_eq_true hl) h
theorem w80 {args m R} (h:W Tryd.prog (.seq (.reg [qi 4 0]) (.kill [0,1] (.seq (.reg [qv 6 0,qv 7 1,qo 8 .add 6 7,qv 5 8]) (.kill [0,1,5] (.block 0 (.seq (.reg [qv 11 1,qk 12 .gtr 11 0,qv 13 12,⟨some 14,.P (.mov (.t 5)),(some (13,true))⟩,⟨some 15,.P (.mov (.t 0)),(some (13,true))⟩,⟨some 16,.P (.bin .lss (.t 14) (.t 15)),(some (13,true))⟩,⟨some 17,.P (.pick (.t 13) (.t 16) (.c (.bool false))),none⟩,qv 10 17]) (.kill [0,1,5,10] (.cond (.t 10) (.seq (.reg [qi 4 9223372036854775807]) .ret) (.seq (.reg [qv 19 1,qk 20 .lss 19 0,qv 21 20,⟨some 22,.P (.mov (.t 5)),(some (21,true))⟩,⟨some 23,.P (.mov (.t 0)),(some (21,true))⟩,⟨some 24,.P (.bin .gtr (.t 22) (.t 23)),(some (21,true))⟩,⟨some 25,.P (.pick (.t 21) (.t 24) (.c (.bool false))),none⟩,qv 18 25]) (.kill [5,18] (.cond (.t 18) (.seq (.reg [⟨some 4,.P (.mov (.c (.int .i64 (-9223372036854775808)))),none⟩]) .ret) (.seq (.reg [qv 9 5,qv 4 9]) .ret)))))))))))) (E [(.tmp 4)] R .mk) .mk (mat 26 (sArgs 0 args)) m) (hl:Nat.ble args.length 26=true:=by rfl):ACalls Tryd.prog 80 args m R:=walk mix (by kernel_rfl) (Nat.le_of_ble_eq_true hl) h
theorem w81 {args m R} (h:W Tryd.prog (.seq (.reg [⟨some 6,.R (.load 2 true (.t 1)),none⟩,qc 7 54 [(.t 6)],qc 8 55 [(.t 7)],qv 5 8,qx 9 5 0,qx 10 5 1,qv 3 9,qv 4 10]) (.kill [0,1,3] (.seq (.reg [qv 11 3,qk 12 .gtr 11 0]) (.kill [0,1,12] (.cond (.t 12) (.reg [⟨some 13,.R (.load 2 true (.t 1)),none⟩,⟨some 14,.P (.faddr 0 (.t 1)),none⟩,ql 15 14,qv 16 0,qc 17 82 [(.t 13),(qz 0),(.t 15),(.t 16)]]) .skip))))) (E [] R .mk) .mk (mat 18 (sArgs 0 args)) m) (hl:Nat.ble args.length 18=true:=by rfl):ACalls Tryd.prog 81 args m R:=walk mix (by kernel_rfl) (Nat.le_of_ble_eq_true hl) h
theorem w82 {args m R} (h:W Tryd.prog (.seq (.reg [⟨some 4,.A (.box 26 (.t 0)),none⟩,qb 8 false]) (.kill [1,2,3,4] (.seq (.seq (.reg [qv 11 1,⟨some 12,.P (.faddr 1 (.t 4)),none⟩,ql 13 12,qn 14 13,qo 15 .eql 11 14]) (.kill [1,2,3,4,15] (.cond (.t 15) (.seq (.reg [qv 16 3,qv 17 2,⟨some 18,.C (.t 16) [(.t 17)],none⟩,qv 8 18]) .ret) .skip))) (.kill [1,2,3,4] (.seq (.reg [⟨some 19,.P (.faddr 1 (.t 4)),none⟩,ql 20 19,qv 21 1,qa 22 3 20 21,⟨some 23,.R (.load 3 true (.t 22)),none⟩,⟨some 9,.A (.alloc 92 [(.int .i64 0),(.int .i64 0),(.int .i64 0)]),none⟩,⟨none,.W (.store 3 (.t 9) (.t 23)),none⟩]) (.kill [1,2,3,4,9] (.seq (.seq (.reg [⟨some 24,.P (.faddr 0 (.t 9)),none⟩,⟨some 25,.R (.load 2 true (.t 24)),none⟩,qc 26 71 [(.t 25)],qi 27 0]) (.kill [1,2,3,4,9,26,27] (.block 0 (.kill [1,2,3,4,9,26,27] (.loop (.fin [1,2,3,4,9,26,27] (.seq (.reg [qo 28 .lss 27 26]) (.seq (.cond (.t 28) .skip (.exit 0)) (.kill [1,2,3,4,9,26,27] (.seq (.block 1 (.seq (.reg [qv 29 27,qv 10 29]) (.kill [1,2,3,4,9,10,26,27] (.seq (.reg [⟨some 30,.R (.load 2 true (.t 4)),none⟩,qv 31 1,qk 32 .add 31 1,qv 33 2,qv 34 10,⟨some 35,.P (.faddr 2 (.t 9)),none⟩,ql 36 35,qo 37 .mul 34 36,qo 38 .add 33 37,qv 39 3,qc 40 82 [(.t 30),(.t 32),(.t 38),(.t 39)],⟨some 41,.P (.un .not (.t 40)),none⟩]) (.kill [1,2,3,4,9,26,27,41] (.cond (.t 41) (.seq (.reg [qb 8 false]) .ret) .skip)))))) (.kill [1,2,3,4,9,26,27] (.reg [qk 42 .add 27 1,qv 27 42])))))))))))) (.kill [] (.seq (.reg [qb 8 true]) .ret))))))))) (E [(.tmp 8)] R .mk) .mk (mat 43 (sArgs 0 args)) m) (hl:Nat.ble args.length 43=true:=by rfl):ACalls Tryd.prog 82 args m R:=walk mix (by kernel_rfl) (Nat.le_of_ble_eq_true hl) h
abbrev h82_0 (t1 t2 t3 t4 t9 t26 t27:AVal):AFrame:=mat 43 [(1,t1),(2,t2),(3,t3),(4,t4),(9,t9),(26,t26),(27,t27)]
theorem w85 {args m R} (h:W Tryd.prog (.seq (.reg [qi 4 0]) (.kill [0,1] (.seq (.seq (.reg [qv 6 0,qn 7 6,qi 8 0]) (.kill [0,1,7,8] (.block 0 (.kill [0,1,7,8] (.loop (.fin [0,1,7,8] (.seq (.reg [qo 9 .lss 8 7]) (.seq (.cond (.t 9) .skip (.exit 0)) (.kill [0,1,7,8] (.seq (.block 1 (.seq (.reg [qv 10 8,qv 5 10]) (.kill [0,1,5,7,8] (.seq (.reg [qv 11 1,qv 12 0,qv 13 5,qa 14 2 12 13,⟨some 15,.R (.load 2 true (.t 14)),none⟩,⟨some 16,.C (.t 11) [(.t 15)],none⟩]) (.kill [0,1,5,7,8,16] (.cond (.t 16) (.seq (.reg [qv 17 5,qv 4 17]) .ret) .skip)))))) (.kill [0,1,7,8] (.reg [qk 18 .add 8 1,qv 8 18])))))))))))) (.kill [] (.seq (.reg [⟨some 4,.P (.mov (.c (.int .i64 (-1)))),none⟩]) .ret))))) (E [(.tmp 4)] R .mk) .mk (mat 19 (sArgs 0 args)) m) (hl:Nat.ble args.length 19=true:=by rfl):ACalls Tryd.prog 85 args m R:=walk mix (by kernel_rfl) (Nat.le_of_ble_eq_true hl) h
abbrev h85_0 (t0 t1 t7 t8:AVal):AFrame:=mat 19 [(0,t0),(1,t1),(7,t7),(8,t8)]
end Go.Proofs.YtodhalcpnmddjaaDoor
namespace Go.Proofs.YtodhalcpnmddjaaDoor
open Go Ax
set_option maxRecDepth 100000
theorem k70 (n:Int) (m:AMem):ACalls Tryd.prog 70 [.int .i64 n] m fun v m'=>v= .bool (nearI n)∧m'=m:=by
 refine w70 ?_
 by_cases h: -2147483647≤n
 ·simp[nearI,h]
 ·simp[nearI,h]
theorem k73 (n:Int) (m:AMem):ACalls Tryd.prog 73 [.int .i64 n] m fun v m'=>v= .bool (nearI n)∧m'=m:=by
 refine w73 ?_
 by_cases h: -2147483647≤n
 ·simp[nearI,h]
 ·simp[nearI,h]
theorem k49 (l u:Int) (m:AMem) (h:u<l∨(-(2^61)≤l∧u≤2^61)):ACalls Tryd.prog 49 [.int .i64 l,.int .i64 u] m fun v m'=>v= .int .i64 (lenI l u)∧m'=m:=by
 refine w49 ?_
 by_cases h1:u<l
 ·simp[lenI,h1]
 ·have h2:IntKind.i64.wrap (u-l)=u-l:=wrap64 (by omega) (by omega)
  have h3:IntKind.i64.wrap (u-l+1)=u-l+1:=wrap64 (by omega) (by omega)
  simp[lenI,h1,h2,h3]
theorem k71 (l u:Int) (m:AMem) (h:nearI l=true∧nearI u=true):ACalls Tryd.prog 71 [.agg [.int .i64 l,.int .i64 u]] m fun v m'=>v= .int .i64 (lenI l u)∧m<+:m':=by
 refine w71 ?_
 obtain ⟨h1,h2⟩:=h
 unfold nearI at h1 h2
 rw[Bool.and_eq_true,decide_eq_true_iff,decide_eq_true_iff] at h1 h2
 have w1:IntKind.i64.wrap (u-l)=u-l:=wrap64 (by omega) (by omega)
 have w2:IntKind.i64.wrap (u-l+1)=u-l+1:=wrap64 (by omega) (by omega)
 have hb:=readB_new m [AVal.int .i64 l,AVal.int .i64 u] 83 none
 simp[bx hb,w1,w2]
 unfold lenI
 split<;>split<;>omega
theorem k69 (l u:Int) (m:AMem):ACalls Tryd.prog 69 [.agg [.int .i64 l,.int .i64 u]] m fun v m'=>v= .bool (nearI l&&nearI u)∧m<+:m':=by
 refine w69 ?_
 have hb:=readB_new m [AVal.int .i64 l,AVal.int .i64 u] 83 none
 have hm:m<+:m++ [ABlk.own [AVal.int .i64 l,AVal.int .i64 u] 83 none]:=List.prefix_append _ _
 simp
 generalize m++ [ABlk.own [AVal.int .i64 l,AVal.int .i64 u] 83 none]=m1 at*
 generalize m.length=b at*
 simp[bx hb]
 refine C_of (k70 l m1) ?_
 rintro _ m1 ⟨rfl,rfl⟩
 cases h:nearI l
 ·simp[hm]
 ·simp[bx hb]
  refine C_of (k70 u m1) ?_
  rintro _ m1 ⟨rfl,rfl⟩
  simp[hm]
theorem k75 (l u:Int) (m:AMem):ACalls Tryd.prog 75 [.agg [.int .i64 l,.int .i64 u]] m fun v m'=>v= .bool (!(nearI l&&nearI u))∧m<+:m':=by
 refine w75 ?_
 have hb:=readB_new m [AVal.int .i64 l,AVal.int .i64 u] 83 none
 have hm:m<+:m++ [ABlk.own [AVal.int .i64 l,AVal.int .i64 u] 83 none]:=List.prefix_append _ _
 simp
 generalize m++ [ABlk.own [AVal.int .i64 l,AVal.int .i64 u] 83 none]=m1 at*
 generalize m.length=b at*
 have hbw:=bxW hb 2
 simp[readN] at hbw
 simp[hbw]
 refine C_of (k69 l u m1) ?_
 rintro _ m2 ⟨rfl,hm2⟩
 simp[hm.trans hm2]
theorem k61 (l u i:Int) (m:AMem):ACalls Tryd.prog 61 [.agg [.int .i64 l,.int .i64 u],.int .i64 i] m fun v m'=>v= .bool (decide (l≤i)&&decide (i≤u))∧m<+:m':=by
 refine w61 ?_
 have hb:=readB_new m [AVal.int .i64 l,AVal.int .i64 u] 83 none
 have hm:m<+:m++ [ABlk.own [AVal.int .i64 l,AVal.int .i64 u] 83 none]:=List.prefix_append _ _
 simp
 generalize m++ [ABlk.own [AVal.int .i64 l,AVal.int .i64 u] 83 none]=m1 at*
 generalize m.length=b at*
 by_cases h:l≤i
 ·simp[bx hb,h,hm]
 ·simp[bx hb,h,hm]
end Go.Proofs.YtodhalcpnmddjaaDoor
namespace Go.Proofs.YtodhalcpnmddjaaDoor
open Go Ax
set_option maxRecDepth 100000
def bdC (b:Int×Int):List AVal:= [.int .i64 b.1,.int .i64 b.2]
def dmC (d:Dm):List AVal:= [.int .i64 d.l,.int .i64 d.u,.int .i64 d.s]
instance:SCell 2 bdC:=⟨fun _=>rfl,fun _=>rfl⟩
instance:SCell 3 dmC:=⟨fun _=>rfl,fun _=>rfl⟩
set_option maxHeartbeats 2000000 in
theorem k54 (s:AVal) (b:Int) (ds:List Dm) (m:AMem) (hs:SlF 3 dmC m s ds) (hn:ds.length<2^30):ACalls Tryd.prog 54 [.agg [.int .i64 b,s]] m fun v m'=>m<+:m'∧OwF 2 bdC m.length m' 83 v (bndsD ds):=by
 refine w54 ?_
 obtain ⟨h1,h2⟩:=hs.one
 simp[h1,h2]
 have hb:=readB_new m [AVal.int .i64 b,s] 26 none
 have hm:m<+:m++ [ABlk.own [AVal.int .i64 b,s] 26 none]:=List.prefix_append _ _
 simp[bx hb,hs.len]
 generalize m++ [ABlk.own [AVal.int .i64 b,s] 26 none]=m1 at*
 obtain ⟨I,hI⟩: ∃I:Nat→AFrame→AMem→Prop,∀q f m',I q f m'↔(∃(i:Nat) (o:AVal),i+q=ds.length∧f=h54_0 o s (.int .i64 ds.length) (.int .i64 i)∧m<+:m'∧OwF 2 bdC m.length m' 83 o (bndsD (ds.take i))):=⟨_,fun _ _ _=>Iff.rfl⟩
 refine W_loop I ds.length ((hI _ _ _).2 ⟨0,.nilslice,by simp,by simp,hm,OwF.nil⟩) ?_
 rintro q f m2 hIn
 obtain ⟨i,o,hq,rfl,hm2,hO⟩:=(hI _ _ _).1 hIn
 clear hIn
 simp
 refine bbind_dec (fun hil=>?_) fun hil=>?_
 rotate_left
 ·have:i=ds.length:=by omega
  subst this
  rw[List.take_length] at hO
  simp
  exact ⟨hm2,hO⟩
 have hil:i<ds.length:=by omega
 have hw:IntKind.i64.wrap ((i:Int)+1)=(i:Int)+1:=wrap64 (by omega) (by omega)
 obtain ⟨b1,o1,p1,_,p3⟩:=(hs.mono hm2).at (i:=i) hil
 have htk:bndsD (ds.take (i+1))=bndsD (ds.take i)++ [(ds[i].l,ds[i].u)]:=by
  unfold bndsD
  rw[List.take_add_one,List.getElem?_eq_getElem hil,List.map_append]
  rfl
 have hlen:(bndsD (ds.take i)).length=i:=by simp[bndsD];omega
 generalize ds[i]=d at*
 simp only[dmC] at p3
 simp[p1,p3]
 rw[store_new _ _ [AVal.int .i64 d.l,AVal.int .i64 d.u,AVal.int .i64 d.s] _ _ 3 rfl rfl rfl]
 have hb3:=readB_new m2 [AVal.int .i64 d.l,AVal.int .i64 d.u,AVal.int .i64 d.s] 92 none
 have hm3:m2<+:m2++ [ABlk.own [AVal.int .i64 d.l,AVal.int .i64 d.u,AVal.int .i64 d.s] 92 none]:=List.prefix_append _ _
 generalize m2++ [ABlk.own [AVal.int .i64 d.l,AVal.int .i64 d.u,AVal.int .i64 d.s] 92 none]=m3 at*
 generalize m2.length=b3 at*
 have hb3w:=bxW hb3 2
 simp[readN] at hb3w
 simp[hb3w,fillA,setN]
 have hm4:m3<+:m3++ [ABlk.own [AVal.int .i64 d.l,AVal.int .i64 d.u] 83 none]:=List.prefix_append _ _
 have hsc:sliceCells (m3++ [ABlk.own [AVal.int .i64 d.l,AVal.int .i64 d.u] 83 none]) 2 (.slice m3.length 0 1 1 none)=some (1,[AVal.int .i64 d.l,AVal.int .i64 d.u]):=by simp[sliceCells,readB,ABlk.cells,readN]
 generalize m3++ [ABlk.own [AVal.int .i64 d.l,AVal.int .i64 d.u] 83 none]=m4 at*
 have hm24:=hm3.trans hm4
 obtain ⟨o',m5,happ,hch,hO5,_⟩:=(hO.mono hm24).push (by have:=(hm2.trans hm24).length_le;omega) (by_:=16) (by omega) (d.l,d.u) (by omega)
 simp only[bdC] at happ
 simp[hsc,happ,hw]
 refine ⟨q-1,by omega,(hI _ _ _).2 ⟨i+1,o',by omega,by simp,hch.pre (hm2.trans hm24) fun b hb e=>by have:=(hO.blk_lo e).1;omega,?_⟩⟩
 rw[htk]
 exact hO5
end Go.Proofs.YtodhalcpnmddjaaDoor
namespace Go.Proofs.YtodhalcpnmddjaaDoor
open Go Ax
set_option maxRecDepth 100000
theorem any_take_succ {α:Type} {xs:List α} {i:Nat} (h:i<xs.length) (p:α→Bool):(xs.take (i+1)).any p=((xs.take i).any p||p xs[i]):=by
 rw[List.take_add_one,List.getElem?_eq_getElem h,List.any_append]
 simp
theorem any_take_le {α:Type} {xs:List α} {i:Nat} {p:α→Bool} (h:(xs.take i).any p=true):xs.any p=true:=by
 rw[List.any_eq_true] at h ⊢
 obtain ⟨x,hx,hp⟩:=h
 exact ⟨x,List.mem_of_mem_take hx,hp⟩
theorem k85 (s:AVal) (bs:List (Int×Int)) (p:Int×Int→Bool) (m:AMem) (hs:SlF 2 bdC m s bs) (hn:bs.length<2^62) (g:FuncId) (fs cs:List AVal)
  (hf: ∀x m',m<+:m'→ACalls Tryd.prog g (fs++ [.agg (bdC x)]++cs) m' fun v m''=>v= .bool (p x)∧m'<+:m''):
  ACalls Tryd.prog 85 [s,.func (.func g) fs cs] m fun v m'=> ∃r:Int,v= .int .i64 r∧(0≤r↔bs.any p=true)∧m<+:m':=by
 refine w85 ?_
 simp[hs.len]
 refine W_loop (fun n a m'=> ∃k:Nat,k+n=bs.length∧a=h85_0 s (.func (.func g) fs cs) (.int .i64 bs.length) (.int .i64 k)∧m<+:m'∧(bs.take k).any p=false) bs.length ⟨0,by simp,by simp,List.prefix_refl _,by simp⟩ ?_
 rintro n a m' ⟨k,hk,rfl,hm,hi⟩
 simp
 refine bbind_dec (fun h=>?_) fun h=>?_
 ·simp
  have h:k<bs.length:=by omega
  obtain ⟨b,o,h1,_,h3⟩:=(hs.mono hm).at h
  simp[h1,h3]
  have:=hf bs[k] m' hm
  simp only[List.append_assoc,List.singleton_append] at this
  refine C_of this ?_
  rintro _ m'' ⟨rfl,hm'⟩
  have hany:=any_take_succ h p
  rw[hi,Bool.false_or] at hany
  simp
  refine bbind_intro (fun he=>?_) fun he=>?_
  ·rw[he] at hany
   have h2:=any_take_le hany
   rw[List.any_eq_true] at h2
   simp only[Prod.exists] at h2
   simp[h2,hm.trans hm']
  ·have hw:IntKind.i64.wrap ((k:Int)+1)=(k:Int)+1:=wrap64 (by omega) (by omega)
   simp[hw]
   exact ⟨n-1,by omega,k+1,by omega,by simp,hm.trans hm',by have:=hany.trans he;simpa using this⟩
 ·simp
  have:k=bs.length:=by omega
  subst this
  rw[List.take_length] at hi
  refine ⟨?_,hm⟩
  simpa using hi
theorem k74 (s:AVal) (bs:List (Int×Int)) (p:Int×Int→Bool) (m:AMem) (hs:SlF 2 bdC m s bs) (hn:bs.length<2^62) (g:FuncId) (fs cs:List AVal)
  (hf: ∀x m',m<+:m'→ACalls Tryd.prog g (fs++ [.agg (bdC x)]++cs) m' fun v m''=>v= .bool (p x)∧m'<+:m''):
  ACalls Tryd.prog 74 [s,.func (.func g) fs cs] m fun v m'=>v= .bool (bs.any p)∧m<+:m':=by
 refine w74 ?_
 simp
 refine C_of (k85 s bs p m hs hn g fs cs hf) ?_
 rintro _ m' ⟨r,rfl,hr,hm⟩
 simp
 refine ⟨?_,hm⟩
 rw[Bool.eq_iff_iff,decide_eq_true_iff]
 exact hr
theorem near_len {b:Int×Int} (h:(nearI b.1&&nearI b.2)=true):lenI b.1 b.2=(lenB b:Int)∧lenB b≤4294967295:=by
 simp only[nearI,Bool.and_eq_true,decide_eq_true_eq] at h
 unfold lenB lenI
 split<;>omega
set_option maxHeartbeats 2000000 in
theorem k55 (s:AVal) (bs:List (Int×Int)) (m:AMem) (hs:SlF 2 bdC m s bs) (hn:bs.length<2^62) (hnear: ∀x∈bs,(nearI x.1&&nearI x.2)=true):
  ACalls Tryd.prog 55 [s] m fun v m'=>m<+:m'∧v= .tuple [.int .i64 ((cntI bs).getD 0:Nat),.bool (cntI bs).isSome]:=by
 refine w55 ?_
 simp[hs.len]
 obtain ⟨I,hI⟩: ∃I:Nat→AFrame→AMem→Prop,∀q f m',I q f m'↔(∃(i:Nat),i+q=bs.length∧f=h55_0 s (.int .i64 1) (.bool (emptyB (bs.take i))) s (.int .i64 bs.length) (.int .i64 i)∧m<+:m'):=⟨_,fun _ _ _=>Iff.rfl⟩
 refine W_loop I bs.length ((hI _ _ _).2 ⟨0,by simp,by simp[emptyB],List.prefix_refl _⟩) ?_
 rintro q f m2 hIn
 obtain ⟨i,hq,rfl,hm2⟩:=(hI _ _ _).1 hIn
 clear hIn
 simp
 refine bbind_dec (fun hil=>?_) fun hil=>?_
 ·have hil:i<bs.length:=by omega
  have hw:IntKind.i64.wrap ((i:Int)+1)=(i:Int)+1:=wrap64 (by omega) (by omega)
  obtain ⟨b1,o1,p1,_,p3⟩:=(hs.mono hm2).at hil
  have hx:=hnear bs[i] (List.getElem_mem hil)
  have htk:emptyB (bs.take (i+1))=(emptyB (bs.take i)||lenB bs[i]==0):=any_take_succ hil _
  obtain ⟨hl1,hl2⟩:=near_len hx
  generalize bs[i]=x at*
  simp only[bdC] at p3
  simp[p1,p3]
  rw[store_new _ _ [AVal.int .i64 x.1,AVal.int .i64 x.2] _ _ 2 rfl rfl rfl]
  have hb3:=readB_new m2 [AVal.int .i64 x.1,AVal.int .i64 x.2] 83 none
  have hm3:m2<+:m2++ [ABlk.own [AVal.int .i64 x.1,AVal.int .i64 x.2] 83 none]:=List.prefix_append _ _
  generalize m2++ [ABlk.own [AVal.int .i64 x.1,AVal.int .i64 x.2] 83 none]=m3 at*
  generalize m2.length=b3 at*
  have hb3w:=bxW hb3 2
  simp[readN] at hb3w
  simp[hb3w]
  refine C_of (k71 x.1 x.2 m3 (by simpa using hx)) ?_
  rintro _ m4 ⟨rfl,hm4⟩
  rw[hl1]
  simp
  refine bbind_intro (fun h0=>?_) fun h0=>?_
  ·have h0:lenB x=0:=by simpa using h0
   simp[hw]
   exact ⟨q-1,by omega,(hI _ _ _).2 ⟨i+1,by omega,by simp[htk,h0],hm2.trans (hm3.trans hm4)⟩⟩
  ·have h0:lenB x≠0:=by simpa using h0
   have h0':(lenB x==0)=false:=by simpa using h0
   simp[hw]
   exact ⟨q-1,by omega,(hI _ _ _).2 ⟨i+1,by omega,by simp[htk,h0'],hm2.trans (hm3.trans hm4)⟩⟩
 have:i=bs.length:=by omega
 subst this
 clear hI
 rw[List.take_length]
 simp
 refine bbind_intro (fun he=>?_) fun he=>?_
 ·simp[cntI,he,hm2]
 simp[hs.len]
 obtain ⟨I,hI⟩: ∃I:Nat→AFrame→AMem→Prop,∀q f m',I q f m'↔(∃(i:Nat),i+q=bs.length∧f=h55_1 (.int .i64 (prodN (bs.take i):Nat)) s (.int .i64 bs.length) (.int .i64 i)∧m<+:m'∧prodN (bs.take i)≤65536):=⟨_,fun _ _ _=>Iff.rfl⟩
 refine W_loop I bs.length ((hI _ _ _).2 ⟨0,by simp,by simp[prodN],hm2,by simp[prodN]⟩) ?_
 clear hm2
 rintro q f m2 hIn
 obtain ⟨i,hq,rfl,hm2,hp⟩:=(hI _ _ _).1 hIn
 clear hIn
 simp
 refine bbind_dec (fun hil=>?_) fun hil=>?_
 ·have hil:i<bs.length:=by omega
  have hw:IntKind.i64.wrap ((i:Int)+1)=(i:Int)+1:=wrap64 (by omega) (by omega)
  obtain ⟨b1,o1,p1,_,p3⟩:=(hs.mono hm2).at hil
  have hx:=hnear bs[i] (List.getElem_mem hil)
  have htk:=prodN_take hil
  have hle:=lenB_le he hil
  have hple:=prodN_le he (i:=i+1) (by omega)
  obtain ⟨hl1,hl2⟩:=near_len hx
  generalize bs[i]=x at*
  simp only[bdC] at p3
  simp[p1,p3]
  rw[store_new _ _ [AVal.int .i64 x.1,AVal.int .i64 x.2] _ _ 2 rfl rfl rfl]
  have hb3:=readB_new m2 [AVal.int .i64 x.1,AVal.int .i64 x.2] 83 none
  have hm3:m2<+:m2++ [ABlk.own [AVal.int .i64 x.1,AVal.int .i64 x.2] 83 none]:=List.prefix_append _ _
  generalize m2++ [ABlk.own [AVal.int .i64 x.1,AVal.int .i64 x.2] 83 none]=m3 at*
  generalize m2.length=b3 at*
  have hb3w:=bxW hb3 2
  simp[readN] at hb3w
  simp[hb3w]
  refine C_of (k71 x.1 x.2 m3 (by simpa using hx)) ?_
  rintro _ m4 ⟨rfl,hm4⟩
  rw[hl1]
  have hm24:=hm2.trans (hm3.trans hm4)
  simp
  refine bbind_dec (fun h0=>?_) fun h0=>?_
  ·have hc:cntI bs=none:=by
    unfold cntI
    rw[if_neg (by simp[he]),if_neg (by omega)]
   simp[hc,hm24]
  have h0:lenB x≤65536:=by omega
  have hmul:(prodN (bs.take i):Int)*(lenB x:Int)=(prodN (bs.take (i+1)):Int):=by rw[htk,Int.natCast_mul]
  have hb:prodN (bs.take (i+1))≤65536*65536:=by rw[htk];exact Nat.mul_le_mul hp h0
  have hw2:IntKind.i64.wrap ((prodN (bs.take i):Int)*(lenB x:Int))=(prodN (bs.take (i+1)):Int):=by rw[hmul];exact wrap64 (by omega) (by omega)
  simp[hw2]
  refine bbind_dec (fun h1=>?_) fun h1=>?_
  ·have hc:cntI bs=none:=by
    unfold cntI
    rw[if_neg (by simp[he]),if_neg (by omega)]
   simp[hc,hm24]
  ·simp[hw]
   exact ⟨q-1,by omega,(hI _ _ _).2 ⟨i+1,by omega,by simp,hm24,by omega⟩⟩
 ·have:i=bs.length:=by omega
  subst this
  rw[List.take_length] at hp ⊢
  have hc:cntI bs=some (prodN bs):=by
   unfold cntI
   rw[if_neg (by simp[he]),if_pos hp]
  simp[hc,hm2]
theorem k46 (s:AVal) (bs:List (Int×Int)) (m:AMem) (hs:SlF 2 bdC m s bs) (hn:bs.length<2^62):
  ACalls Tryd.prog 46 [s] m fun v m'=>m<+:m'∧v= .int .i64 (checkB bs):=by
 refine w46 ?_
 simp[hs.len]
 refine bbind_dec (fun h=>?_) fun h=>?_
 ·have:3<bs.length:=by omega
  simp[checkB,this]
 have hlen: ¬3<bs.length:=by omega
 simp
 refine C_of (k74 s bs (fun b=> !(nearI b.1&&nearI b.2)) m hs hn _ [] [] fun x m' _=>?_) ?_
 ·simpa[bdC] using k75 x.1 x.2 m'
 rintro _ m1 ⟨rfl,hm1⟩
 generalize hf:(bs.any fun b=> !(nearI b.1&&nearI b.2))=e
 simp
 refine bbind_intro (fun he=>?_) fun he=>?_
 ·subst he
  have hc:checkB bs=20:=by
   unfold checkB
   rw[if_neg hlen,if_pos hf]
  simp[hc,hm1]
 ·subst he
  have hnear: ∀x∈bs,(nearI x.1&&nearI x.2)=true:=by
   intro x hx
   have:=List.any_eq_false.1 hf x hx
   simpa using this
  simp
  refine C_of (k55 s bs m1 (hs.mono hm1) hn hnear) ?_
  rintro _ m2 ⟨hm2,rfl⟩
  have hc:checkB bs=if cntI bs=none then 3 else 0:=by
   unfold checkB
   rw[if_neg hlen,if_neg (by rw[hf];simp)]
  cases h3:cntI bs with
  |none=>simp[hc,h3,hm1.trans hm2]
  |some n=>simp[hc,h3,hm1.trans hm2]
end Go.Proofs.YtodhalcpnmddjaaDoor
namespace Go.Proofs.YtodhalcpnmddjaaDoor
open Go Ax
set_option maxRecDepth 100000
theorem right_zero {b n:Int} {ds:List Dm}:rightD b ds n=0↔checkB (bndsD ds)=0∧(emptyB (bndsD ds)=false→farB b=false∧ds.any farS=false∧ ∀o∈offs ds,0≤b+o∧b+o<n):=by
 unfold rightD
 by_cases hc:checkB (bndsD ds)=0
 ·rw[if_neg (by simp[hc])]
  cases he:emptyB (bndsD ds)
  ·rw[if_neg (by simp)]
   constructor
   ·intro h
    refine ⟨hc,fun _=>?_⟩
    have h1:farB b=false∧ds.any farS=false:=by
     unfold rangeI at h
     split at h
     ·cases h
     ·rename_i hh
      simp only[not_or,Bool.not_eq_true] at hh
      exact hh
    exact ⟨h1.1,h1.2,(range_iff he h1.1 h1.2).1 h⟩
   ·rintro ⟨_,h⟩
    obtain ⟨h1,h2,h3⟩:=h rfl
    exact (range_iff he h1 h2).2 h3
  ·rw[if_pos rfl]
   simp[hc]
 ·rw[if_pos hc]
  constructor
  ·intro h;exact absurd h hc
  ·intro h;exact absurd h.1 hc
theorem check_zero {bs:List (Int×Int)}:checkB bs=0↔bs.length≤3∧(∀x∈bs,nearI x.1=true∧nearI x.2=true)∧(emptyB bs=false→prodN bs≤65536):=by
 have hn:(bs.any fun b=> !(nearI b.1&&nearI b.2))=true↔ ¬ ∀x∈bs,nearI x.1=true∧nearI x.2=true:=by
  rw[List.any_eq_true]
  constructor
  ·rintro ⟨x,hx,h⟩ hh
   obtain ⟨h1,h2⟩:=hh x hx
   rw[h1,h2] at h
   cases h
  ·intro h
   simp only[Classical.not_forall] at h
   obtain ⟨x,hx,h⟩:=h
   refine ⟨x,hx,?_⟩
   cases h1:nearI x.1<;>cases h2:nearI x.2<;>simp_all
 have hc:cntI bs=none↔ ¬(emptyB bs=false→prodN bs≤65536):=by
  unfold cntI
  cases he:emptyB bs
  ·rw[if_neg (by simp)]
   by_cases hp:prodN bs≤65536
   ·simp[hp]
   ·simp[hp]
  ·simp
 unfold checkB
 by_cases h1:3<bs.length
 ·rw[if_pos h1]
  constructor
  ·intro h;cases h
  ·intro h;omega
 ·rw[if_neg h1]
  split
  ·rename_i h2
   constructor
   ·intro h;cases h
   ·intro h;exact absurd h.2.1 (hn.1 h2)
  ·rename_i h2
   have h2': ∀x∈bs,nearI x.1=true∧nearI x.2=true:=Classical.byContradiction fun h=>h2 (hn.2 h)
   split
   ·rename_i h3
    constructor
    ·intro h;cases h
    ·intro h;exact absurd h.2.2 (hc.1 h3)
   ·rename_i h3
    have h3':emptyB bs=false→prodN bs≤65536:=Classical.byContradiction fun h=>h3 (hc.2 h)
    exact ⟨fun _=>⟨by omega,h2',h3'⟩,fun _=>rfl⟩
theorem offs_zero: ∀{ds:List Dm},(∀d∈ds,1≤d.n)→(0:Int)∈offs ds
 | [],_=>by simp[offs]
 |d::ds,h=>by
  rw[offs,List.mem_flatMap]
  refine ⟨0,List.mem_range.2 (by have:=h d List.mem_cons_self;omega),List.mem_map.2 ⟨0,offs_zero fun d hd=>h d (List.mem_cons_of_mem _ hd),by simp⟩⟩
end Go.Proofs.YtodhalcpnmddjaaDoor
namespace Go.Proofs.YtodhalcpnmddjaaDoor
open Go Ax
set_option maxRecDepth 100000
structure Dsc where
 b:Int
 ds:List Dm
abbrev Dsc.bnds (d:Dsc):List (Int×Int):=bndsD d.ds
def Dsc.rightI (d:Dsc) (n:Int):Int:=rightD d.b d.ds n
def Dsc.bad (d:Dsc):Bool:=d.rightI 2147483648 !=0
def Dsc.zero:Dsc:=⟨0,[]⟩
def Dsc.count (d:Dsc):Nat:=if d.bad=true then 0 else if emptyB d.bnds=true then 0 else prodN d.bnds
def Dsc.places (d:Dsc):List Int:=if d.bad=true∨emptyB d.bnds=true then [] else (offs d.ds).map (d.b+ ·)
def Dsc.dimE (d:Dsc) (k:Int):Int:=if d.bad=true then 2 else if k<0∨(d.ds.length:Int)≤k then 14 else 0
def Dsc.at (d:Dsc) (k:Int):Dm:=(d.ds[k.toNat]?).getD ⟨0,0,0⟩
def subD (d:Dsc) (k i:Int):Dsc×Int:=
 if d.dimE k≠0 then (.zero,d.dimE k)
 else if i<(d.at k).l∨(d.at k).u<i then (.zero,20)
 else (⟨if emptyB d.bnds=true then 0 else d.b+(i-(d.at k).l)*(d.at k).s,d.ds.eraseIdx k.toNat⟩,0)
structure Ct where
 has:Int
 lo:Int
 hi:Int
 at_:Int
def bitI (h:Int) (b:Nat):Bool:=h.toNat.testBit b
def Ct.l (c:Ct) (x:Dm):Int:=if bitI c.has 0=true then c.lo else x.l
def Ct.u (c:Ct) (x:Dm):Int:=if bitI c.has 1=true then c.hi else x.u
def Ct.f (c:Ct) (x:Dm):Int:=if bitI c.has 2=true then c.at_ else if bitI c.has 0=false∧bitI c.has 1=false then c.l x else 1
def sameD (d e:Dsc):Bool:= !d.bad&&(!e.bad&&(decide (d.bnds=e.bnds)&&decide (d.places=e.places)))
def meetD (d e:Dsc):Bool:=d.places.any fun p=>e.places.contains p
theorem Dsc.ok {d:Dsc} (h:d.bad=false):rightD d.b d.ds 2147483648=0:=by simpa[Dsc.bad,Dsc.rightI] using h
theorem Dsc.dim_zero {d:Dsc} {k:Int} (h:d.dimE k=0):d.bad=false∧0≤k∧k.toNat<d.ds.length∧d.ds[k.toNat]? =some (d.at k):=by
 unfold Dsc.dimE at h
 split at h
 ·cases h
 ·rename_i h1
  split at h
  ·cases h
  ·rename_i h2
   have h3:k.toNat<d.ds.length:=by omega
   refine ⟨by simpa using h1,by omega,h3,?_⟩
   unfold Dsc.at
   rw[List.getElem?_eq_getElem h3]
   rfl
end Go.Proofs.YtodhalcpnmddjaaDoor
namespace Go.Proofs.YtodhalcpnmddjaaDoor
open Go Ax
set_option maxRecDepth 100000
def DsR (m:AMem) (v:AVal) (d:Dsc):Prop:= ∃s,v= .agg [.int .i64 d.b,s]∧SlF 3 dmC m s d.ds∧ ∀b,s.blk=some b→b<m.length
theorem DsR.mono {m m':AMem} {v:AVal} {d:Dsc} (h:DsR m v d) (hm:m<+:m'):DsR m' v d:=let ⟨s,h1,h2,h3⟩:=h;⟨s,h1,h2.mono hm,fun b hb=>Nat.lt_of_lt_of_le (h3 b hb) hm.length_le⟩
theorem lowS_snoc (d:Dm): ∀ds:List Dm,lowS (ds++ [d])=lowS ds+min 0 (((d.n:Int)-1)*d.s)
 | []=>by simp[lowS]
 |x::ds=>by simp only[List.cons_append,lowS,lowS_snoc d ds];omega
theorem highS_snoc (d:Dm): ∀ds:List Dm,highS (ds++ [d])=highS ds+max 0 (((d.n:Int)-1)*d.s)
 | []=>by simp[highS]
 |x::ds=>by simp only[List.cons_append,highS,highS_snoc d ds];omega
theorem take_snoc {α:Type} {xs:List α} {i:Nat} (h:i<xs.length):xs.take (i+1)=xs.take i++ [xs[i]]:=by
 rw[List.take_add_one,List.getElem?_eq_getElem h];rfl
theorem mul_small {n:Nat} {s:Int} (h1:1≤n) (h2:n≤65536) (hs:n=1∨(-1099511627776≤s∧s≤1099511627776)): -72057594037927936≤((n:Int)-1)*s∧((n:Int)-1)*s≤72057594037927936:=by
 rcases hs with rfl|⟨h3,h4⟩
 ·simp
 have h5:(0:Int)≤(n:Int)-1:=by omega
 have h6:(n:Int)-1≤65536:=by omega
 have a:=Int.mul_le_mul_of_nonneg_left h4 h5
 have b:=Int.mul_le_mul_of_nonneg_left h3 h5
 generalize ((n:Int)-1)*s=x at*
 omega
theorem k80 (a b:Int) (m:AMem) (ha: -4611686018427387904≤a∧a≤4611686018427387904) (hb: -4611686018427387904<b∧b<4611686018427387904):
  ACalls Tryd.prog 80 [.int .i64 a,.int .i64 b] m fun v m'=>v= .int .i64 (a+b)∧m'=m:=by
 refine w80 ?_
 have hw:IntKind.i64.wrap (a+b)=a+b:=wrap64 (by omega) (by omega)
 by_cases h1:0<b
 ·have h2: ¬a+b<a:=by omega
  have h3: ¬b<0:=by omega
  simp[hw,h1,h2,h3]
 ·by_cases h3:b<0
  ·have h2: ¬a<a+b:=by omega
   simp[hw,h1,h2,h3]
  ·simp[hw,h1,h3]
set_option maxHeartbeats 4000000 in
theorem k56 (v:AVal) (d:Dsc) (m:AMem) (hv:DsR m v d) (hl:d.ds.length≤3) (hn: ∀x∈d.ds,1≤x.n∧x.n≤65536∧(nearI x.l&&nearI x.u)=true):
  ACalls Tryd.prog 56 [v] m fun r m'=>m<+:m'∧r=if farB d.b=true∨d.ds.any farS=true then .tuple [.int .i64 0,.int .i64 0,.bool false] else .tuple [.int .i64 (d.b+lowS d.ds),.int .i64 (d.b+highS d.ds),.bool true]:=by
 obtain ⟨s,rfl,hs,_⟩:=hv
 obtain ⟨b,ds⟩:=d
 simp only at*
 refine w56 ?_
 obtain ⟨h1,h2⟩:=hs.one
 simp[h1,h2]
 have hb:=readB_new m [AVal.int .i64 b,s] 26 none
 have hm:m<+:m++ [ABlk.own [AVal.int .i64 b,s] 26 none]:=List.prefix_append _ _
 generalize m++ [ABlk.own [AVal.int .i64 b,s] 26 none]=m1 at*
 generalize m.length=b0 at*
 refine W_drawPR (by simp[maxDst]) rfl rfl ?_
 simp[bx hb]
 intro m2 hm2
 have hs2:=hs.mono (hm.trans hm2)
 replace hm:=hm.trans hm2
 have hb2:readB m2 b0=some [AVal.int .i64 b,s]:=readB_mono hm2 hb
 clear hm2 hb
 by_cases hf:farB b=true
 ·have hf':=hf
  simp only[farB,Bool.or_eq_true,decide_eq_true_eq] at hf'
  by_cases hf2:1152921504606846976<b
  ·simp[hf,hf2,hm]
  ·have hf3:b< -1152921504606846976:=by omega
   simp[hf,hf2,hf3,hm]
 have hf':=hf
 simp only[farB,Bool.or_eq_true,decide_eq_true_eq,not_or] at hf'
 simp[hf',bx hb2,hs.len,hf]
 clear hb2 hs2
 obtain ⟨I,hI⟩: ∃I:Nat→AFrame→AMem→Prop,∀q f m',I q f m'↔(∃(i:Nat),i+q=ds.length∧f=h56_0 (.int .i64 (b+lowS (ds.take i))) (.int .i64 (b+highS (ds.take i))) s (.int .i64 ds.length) (.int .i64 i)∧m<+:m'∧(ds.take i).any farS=false∧ -72057594037927936*(i:Int)≤lowS (ds.take i)∧lowS (ds.take i)≤0∧0≤highS (ds.take i)∧highS (ds.take i)≤72057594037927936*(i:Int)):=⟨_,fun _ _ _=>Iff.rfl⟩
 refine W_loop I ds.length ((hI _ _ _).2 ⟨0,by simp,by simp[lowS,highS],hm,by simp,by simp[lowS,highS]⟩) ?_
 clear hm
 rintro q f m3 hIn
 obtain ⟨i,hq,rfl,hm3,hfar,e1,e2,e3,e4⟩:=(hI _ _ _).1 hIn
 clear hIn
 simp
 refine bbind_dec (fun hil=>?_) fun hil=>?_
 rotate_left
 ·have:i=ds.length:=by omega
  subst this
  rw[List.take_length] at hfar e1 e2 e3 e4 ⊢
  have hfar': ∀x∈ds,farS x=false:=by simpa using hfar
  simp[hm3]
  exact ⟨by simpa using hf,hfar'⟩
 have hil:i<ds.length:=by omega
 have hw:IntKind.i64.wrap ((i:Int)+1)=(i:Int)+1:=wrap64 (by omega) (by omega)
 obtain ⟨b1,o1,p1,_,p3⟩:=(hs.mono hm3).at hil
 obtain ⟨x1,x2,x3⟩:=hn ds[i] (List.getElem_mem hil)
 have hany:=any_take_succ hil farS
 have htk:=take_snoc hil
 have hmem:=List.getElem_mem hil
 rw[hfar,Bool.false_or] at hany
 generalize ds[i]=x at*
 have hlen:=near_len (b:=(x.l,x.u)) x3
 have hxn:lenB (x.l,x.u)=x.n:=rfl
 rw[hxn] at hlen
 simp only at hlen
 simp only[dmC] at p3
 simp[p1,p3]
 rw[store_new _ _ [AVal.int .i64 x.l,AVal.int .i64 x.u,AVal.int .i64 x.s] _ _ 3 rfl rfl rfl]
 have hb3:=readB_new m3 [AVal.int .i64 x.l,AVal.int .i64 x.u,AVal.int .i64 x.s] 92 none
 have hm4:m3<+:m3++ [ABlk.own [AVal.int .i64 x.l,AVal.int .i64 x.u,AVal.int .i64 x.s] 92 none]:=List.prefix_append _ _
 generalize m3++ [ABlk.own [AVal.int .i64 x.l,AVal.int .i64 x.u,AVal.int .i64 x.s] 92 none]=m4 at*
 generalize m3.length=b3 at*
 have hb3w:=bxW hb3 2
 simp[readN] at hb3w
 simp[hb3w]
 refine C_of (k71 x.l x.u m4 (by simpa using x3)) ?_
 rintro _ m5 ⟨rfl,hm5⟩
 rw[hlen.1]
 have hb5:=readB_mono hm5 hb3
 have hm35:=hm3.trans (hm4.trans hm5)
 have hw1:IntKind.i64.wrap ((x.n:Int)-1)=(x.n:Int)-1:=wrap64 (by omega) (by omega)
 simp[hw1]
 refine bbind_dec (fun h0=>?_) fun h0=>?_
 ·have h0:x.n=1:=by omega
  have hfx:farS x=false:=by simp[farS,h0]
  have hp0:((x.n:Int)-1)*x.s=0:=by rw[h0];simp
  simp[hw]
  refine ⟨q-1,by omega,(hI _ _ _).2 ⟨i+1,by omega,?_,hm35,by rw[hany];exact hfx,?_⟩⟩
  ·rw[htk,lowS_snoc,highS_snoc,hp0];simp
  ·rw[htk,lowS_snoc,highS_snoc,hp0];omega
 have hn2:2≤x.n:=by omega
 have hfx:farS x=(decide (1099511627776<x.s)||decide (x.s< -1099511627776)):=by simp[farS,hn2]
 simp[bx hb5]
 by_cases hs1:1099511627776<x.s
 ·have: ∃y,y∈ds∧farS y=true:=⟨x,hmem,by rw[hfx];simp[hs1]⟩
  simp[hs1,hm35,this]
 by_cases hs2:x.s< -1099511627776
 ·have: ∃y,y∈ds∧farS y=true:=⟨x,hmem,by rw[hfx];simp[hs2]⟩
  simp[hs1,hs2,hm35,this,bx hb5]
 have hfx0:farS x=false:=by rw[hfx];simp[hs1,hs2]
 have hsm:=mul_small x1 x2 (s:=x.s) (.inr (by omega))
 have hw2:IntKind.i64.wrap (((x.n:Int)-1)*x.s)=((x.n:Int)-1)*x.s:=wrap64 (by omega) (by omega)
 simp[hs1,hs2,hw2,bx hb5]
 have hlo:=lowS_snoc x (ds.take i)
 have hhi:=highS_snoc x (ds.take i)
 rw[←htk] at hlo hhi
 have hnf:(ds.take (i+1)).any farS=false:=by rw[hany];exact hfx0
 generalize ((x.n:Int)-1)*x.s=pr at*
 refine bbind_dec (fun hp=>?_) fun hp=>?_
 ·simp
  refine C_of (k80 (b+highS (ds.take i)) pr m5 (by omega) (by omega)) ?_
  rintro _ _ ⟨rfl,rfl⟩
  simp[hw]
  refine ⟨q-1,by omega,(hI _ _ _).2 ⟨i+1,by omega,?_,hm35,hnf,by omega⟩⟩
  rw[hlo,hhi,Int.min_eq_left (by omega),Int.max_eq_right (by omega)]
  simp[Int.add_assoc]
 ·simp
  refine C_of (k80 (b+lowS (ds.take i)) pr m5 (by omega) (by omega)) ?_
  rintro _ _ ⟨rfl,rfl⟩
  simp[hw]
  refine ⟨q-1,by omega,(hI _ _ _).2 ⟨i+1,by omega,?_,hm35,hnf,by omega⟩⟩
  rw[hlo,hhi,Int.min_eq_right (by omega),Int.max_eq_left (by omega)]
  simp[Int.add_assoc]
theorem k21 (v:AVal) (d:Dsc) (n:Int) (m:AMem) (hv:DsR m v d) (hl:d.ds.length<2^30):ACalls Tryd.prog 21 [v,.int .i64 n] m fun r m'=>m<+:m'∧r= .int .i64 (rightD d.b d.ds n):=by
 have hv0:=hv
 obtain ⟨s,rfl,hs,_⟩:=hv
 refine w21 ?_
 obtain ⟨h1,h2⟩:=hs.one
 simp[h1,h2]
 have hb:=readB_new m [AVal.int .i64 d.b,s] 26 none
 have hm:m<+:m++ [ABlk.own [AVal.int .i64 d.b,s] 26 none]:=List.prefix_append _ _
 generalize m++ [ABlk.own [AVal.int .i64 d.b,s] 26 none]=m1 at*
 generalize m.length=b0 at*
 have hbw:=bxW hb 2
 simp[readN] at hbw
 simp[hbw]
 refine C_of (k54 s d.b d.ds m1 (hs.mono hm) hl) ?_
 rintro v2 m2 ⟨hm2,hO⟩
 have hlb:(bndsD d.ds).length=d.ds.length:=by simp[bndsD]
 simp
 refine C_of (k46 v2 (bndsD d.ds) m2 hO.sl (by omega)) ?_
 rintro _ m3 ⟨hm3,rfl⟩
 have hm13:=hm2.trans hm3
 simp
 by_cases hc:checkB (bndsD d.ds)=0
 rotate_left
 ·have hr:rightD d.b d.ds n=checkB (bndsD d.ds):=by unfold rightD;rw[if_pos hc]
  simp[hc,bneT hc,hm.trans hm13,hr]
 simp[hc]
 obtain ⟨hc1,hc2,hc3⟩:=check_zero.1 hc
 have hb3:=readB_mono hm13 hb
 have hbw:=bxW hb3 2
 simp[readN] at hbw
 simp[hbw]
 have hs3:=hs.mono (hm.trans hm13)
 refine C_of (k54 s d.b d.ds m3 hs3 hl) ?_
 rintro v4 m4 ⟨hm4,hO4⟩
 simp
 refine C_of (k55 v4 (bndsD d.ds) m4 hO4.sl (by omega) (fun x hx=>by have:=hc2 x hx;simp[this])) ?_
 rintro _ m5 ⟨hm5,rfl⟩
 have hm35:=hm4.trans hm5
 by_cases he:emptyB (bndsD d.ds)=true
 ·have hcn:cntI (bndsD d.ds)=some 0:=by unfold cntI;rw[if_pos he]
  have hr:rightD d.b d.ds n=0:=by unfold rightD;rw[if_neg (by simp[hc]),if_pos he]
  simp[hcn,hr,hm.trans (hm13.trans hm35)]
 have he:emptyB (bndsD d.ds)=false:=by simpa using he
 have hcn:cntI (bndsD d.ds)=some (prodN (bndsD d.ds)):=by unfold cntI;rw[if_neg (by simp[he]),if_pos (hc3 he)]
 have hpp:=prodN_pos he
 have hpz: ¬((prodN (bndsD d.ds):Int)=0):=by omega
 have hr:rightD d.b d.ds n=rangeI d.b d.ds n:=by unfold rightD;rw[if_neg (by simp[hc]),if_neg (by simp[he])]
 simp[hcn,beqF hpz]
 have hb5:=readB_mono hm35 hb3
 have hbw:=bxW hb5 2
 simp[readN] at hbw
 simp[hbw]
 refine C_of (k56 _ d m5 (hv0.mono (hm.trans (hm13.trans hm35))) (by omega) (fun x hx=>?_)) ?_
 ·have hx':(x.l,x.u)∈bndsD d.ds:=List.mem_map.2 ⟨x,hx,rfl⟩
  obtain ⟨j,hj,hjx⟩:=List.getElem_of_mem hx'
  have hle:=lenB_le he hj
  rw[hjx] at hle
  have:=hc2 _ hx'
  exact ⟨empty_pos he x hx,Nat.le_trans hle (hc3 he),by simp[this]⟩
 rintro _ m6 ⟨hm6,rfl⟩
 have hm06:=hm.trans (hm13.trans (hm35.trans hm6))
 rw[hr]
 unfold rangeI
 by_cases hfr:farB d.b=true∨d.ds.any farS=true
 ·rw[if_pos hfr,if_pos hfr]
  simp[hm06]
 ·rw[if_neg hfr,if_neg hfr]
  by_cases hlo:d.b+lowS d.ds<0
  ·simp[hlo,hm06]
  ·by_cases hhi:n≤d.b+highS d.ds
   ·simp[hlo,hhi,hm06]
   ·simp[hlo,hhi,hm06]
end Go.Proofs.YtodhalcpnmddjaaDoor
namespace Go.Proofs.YtodhalcpnmddjaaDoor
open Go Ax
set_option maxRecDepth 100000
theorem k58 (v:AVal) (d:Dsc) (m:AMem) (hv:DsR m v d) (hl:d.ds.length<2^30):ACalls Tryd.prog 58 [v] m fun r m'=>m<+:m'∧r= .bool d.bad:=by
 have hv0:=hv
 obtain ⟨s,rfl,hs,_⟩:=hv
 refine w58 ?_
 obtain ⟨h1,h2⟩:=hs.one
 simp[h1,h2]
 have hb:=readB_new m [AVal.int .i64 d.b,s] 26 none
 have hm:m<+:m++ [ABlk.own [AVal.int .i64 d.b,s] 26 none]:=List.prefix_append _ _
 generalize m++ [ABlk.own [AVal.int .i64 d.b,s] 26 none]=m1 at*
 generalize m.length=b0 at*
 have hbw:=bxW hb 2
 simp[readN] at hbw
 simp[hbw]
 refine C_of (k21 _ d 2147483648 m1 (hv0.mono hm) hl) ?_
 rintro _ m2 ⟨hm2,rfl⟩
 simp[hm.trans hm2,Dsc.bad,Dsc.rightI]
theorem ch_trans2 {F F':Nat→Prop} {m m' m'':AMem} (h:Ch F m m') (h':Ch F' m' m'') (hg: ∀b,F' b→F b∨m.length≤b):Ch F m m'':=
 ⟨Nat.le_trans h.len h'.len,fun b blk k1 k2=>h'.keep b blk (h.keep b blk k1 k2) fun k=>by
  have:=(List.getElem?_eq_some_iff.1 k1).1
  rcases hg b k with h|h
  ·exact k2 h
  ·omega⟩
structure It (l:Nat) (full:List Int) (J:(Nat→Prop)→List Int→AMem→Prop) (Jx:AMem→Prop):Prop where
 lt: ∀{F pre m},J F pre m→ ∀b,F b→b<m.length
 mono: ∀{F pre m m'},J F pre m→m<+:m'→J F pre m'
 yield: ∀{F pre m x},pre++ [x]<+:full→J F pre m→AYields Tryd.prog l [.int .i64 x] m fun r m'=>(r= .bool true∧ ∃F',J F' (pre++ [x]) m'∧Ch F m m'∧ ∀b,F' b→F b∨m.length≤b)∨(r= .bool false∧Jx m')
def rngs (ds:List Dm):Prop:= ∀x∈ds,1≤x.n∧x.n≤65536∧(nearI x.l&&nearI x.u)=true∧(x.n=1∨(-1099511627776≤x.s∧x.s≤1099511627776))
theorem rngs_low: ∀{ds:List Dm},rngs ds→ -72057594037927936*(ds.length:Int)≤lowS ds∧lowS ds≤0∧0≤highS ds∧highS ds≤72057594037927936*(ds.length:Int)
 | [],_=>by simp[lowS,highS]
 |d::ds,h=>by
  obtain ⟨e1,e2,e3,e4⟩:=rngs_low (ds:=ds) fun x hx=>h x (List.mem_cons_of_mem _ hx)
  obtain ⟨h1,h2,_,h4⟩:=h d List.mem_cons_self
  obtain ⟨h5,h6⟩:=mul_small h1 h2 h4
  simp only[lowS,highS,List.length_cons]
  generalize ((d.n:Int)-1)*d.s=x at*
  omega
theorem offs_step (x:Dm) (rest:List Dm) (a:Int) (i:Nat):((List.range (i+1)).flatMap fun j:Nat=>(offs rest).map fun o=>(j:Int)*x.s+o).map (a+ ·)=(((List.range i).flatMap fun j:Nat=>(offs rest).map fun o=>(j:Int)*x.s+o).map (a+ ·))++(offs rest).map ((a+(i:Int)*x.s)+ ·):=by
 rw[List.range_succ,List.flatMap_append,List.map_append]
 congr 1
 simp only[List.flatMap_cons,List.flatMap_nil,List.append_nil,List.map_map]
 refine List.map_congr_left fun o _=>?_
 show a+((i:Int)*x.s+o)=a+(i:Int)*x.s+o
 omega
set_option maxHeartbeats 4000000 in
theorem k82 {l:Nat} {full:List Int} {J:(Nat→Prop)→List Int→AMem→Prop} {Jx:AMem→Prop} (h:It l full J Jx) (b:Int) (s:AVal) (ds:List Dm) (hr:rngs ds) (hl:ds.length≤3):
  ∀(q k:Nat),k+q=ds.length→ ∀(a:Int) (F:Nat→Prop) (pre:List Int) (m:AMem),J F pre m→SlF 3 dmC m s ds→(∀b,s.blk=some b→b<m.length∧ ¬F b)→pre++(offs (ds.drop k)).map (a+ ·)<+:full→ -1152921504606846976≤a+lowS (ds.drop k)→a+highS (ds.drop k)≤1152921504606846976→
  ACalls Tryd.prog 82 [.agg [.int .i64 b,s],.int .i64 k,.int .i64 a,.func (.yield l) [] []] m fun r m'=>(r= .bool true∧ ∃F',J F' (pre++(offs (ds.drop k)).map (a+ ·)) m'∧Ch F m m'∧ ∀b,F' b→F b∨m.length≤b)∨(r= .bool false∧Jx m'):=by
 intro q
 induction q with
 |zero=>
  intro k hk a F pre m hJ hs hsF hA h1 h2
  refine w82 ?_
  obtain ⟨g1,g2⟩:=hs.one
  simp[g1,g2]
  have hb:=readB_new m [AVal.int .i64 b,s] 26 none
  have hm:m<+:m++ [ABlk.own [AVal.int .i64 b,s] 26 none]:=List.prefix_append _ _
  generalize m++ [ABlk.own [AVal.int .i64 b,s] 26 none]=m1 at*
  generalize hb0:m.length=b0 at*
  have hkl:k=ds.length:=by omega
  subst hkl
  simp[bx hb,hs.len]
  rw[List.drop_length] at hA ⊢
  simp only[offs,List.map_cons,List.map_nil,Int.add_zero] at hA
  refine Y_of (h.yield hA (h.mono hJ hm)) ?_
  rintro r m2 (⟨rfl,F',k1,k2,k3⟩|⟨rfl,k1⟩)
  ·simp[offs]
   exact ⟨F',k1,(Ch.of_prefix hm).trans k2,fun b hb=>by
    rcases k3 b hb with h|h
    ·exact .inl h
    ·exact .inr (Nat.le_trans (by have:=hm.length_le;omega) h)⟩
  ·simp[k1]
 |succ q ih=>
  intro k hk a F pre m hJ hs hsF hA h1 h2
  refine w82 ?_
  obtain ⟨g1,g2⟩:=hs.one
  simp[g1,g2]
  have hb:=readB_new m [AVal.int .i64 b,s] 26 none
  have hm:m<+:m++ [ABlk.own [AVal.int .i64 b,s] 26 none]:=List.prefix_append _ _
  have hl1:m.length<(m++ [ABlk.own [AVal.int .i64 b,s] 26 none]).length:=by simp
  generalize m++ [ABlk.own [AVal.int .i64 b,s] 26 none]=m1 at*
  have hlt:=h.lt hJ
  generalize hb0:m.length=b0 at*
  have hkl:k<ds.length:=by omega
  have hkw:IntKind.i64.wrap ((k:Int)+1)=((k+1:Nat):Int):=by rw[wrap64 (by omega) (by omega)];rfl
  have hne: ¬((k:Int)=(ds.length:Int)):=by omega
  simp[bx hb,hs.len,beqF hne]
  obtain ⟨bk,ok,p1,_,p3⟩:=(hs.mono hm).at hkl
  have hdrop:=List.drop_eq_getElem_cons hkl
  obtain ⟨x1,x2,x3,x4⟩:=hr ds[k] (List.getElem_mem hkl)
  have hrr:rngs (ds.drop (k+1)):=fun y hy=>hr y (List.mem_of_mem_drop hy)
  have hlow:=rngs_low hrr
  rw[hdrop] at hA h1 h2 ⊢
  generalize ds[k]=x at*
  have hln:lenI x.l x.u=(x.n:Int):=(near_len (b:=(x.l,x.u)) x3).1
  simp only[dmC] at p3
  simp[p1,p3]
  rw[store_new _ _ [AVal.int .i64 x.l,AVal.int .i64 x.u,AVal.int .i64 x.s] _ _ 3 rfl rfl rfl]
  have hb9:=readB_new m1 [AVal.int .i64 x.l,AVal.int .i64 x.u,AVal.int .i64 x.s] 92 none
  have hm2:m1<+:m1++ [ABlk.own [AVal.int .i64 x.l,AVal.int .i64 x.u,AVal.int .i64 x.s] 92 none]:=List.prefix_append _ _
  generalize m1++ [ABlk.own [AVal.int .i64 x.l,AVal.int .i64 x.u,AVal.int .i64 x.s] 92 none]=m2 at*
  generalize hb9l:m1.length=b9 at*
  have hb9w:=bxW hb9 2
  simp[readN] at hb9w
  simp[hb9w]
  refine C_of (k71 x.l x.u m2 (by simpa using x3)) ?_
  rintro _ m3 ⟨rfl,hm3⟩
  rw[hln]
  have hb0r:=readB_mono (hm2.trans hm3) hb
  have hb9r:=readB_mono hm3 hb9
  have hm03:=hm.trans (hm2.trans hm3)
  have hJ3:=h.mono hJ hm03
  have hs3:=hs.mono hm03
  have hl13:=(hm2.trans hm3).length_le
  have hl23:=hm03.length_le
  clear hb hb9 hm hm2 hm3 hb9w hs hJ p1 p3
  simp
  have hsm:=mul_small x1 x2 x4
  obtain ⟨I,hI⟩: ∃I:Nat→AFrame→AMem→Prop,∀q f m',I q f m'↔(∃(i:Nat) (F':Nat→Prop),i+q=x.n∧f=h82_0 (.int .i64 k) (.int .i64 a) (.func (.yield l) [] []) (.ptr b0 0) (.ptr b9 0) (.int .i64 x.n) (.int .i64 i)∧
   J F' (pre++(((List.range i).flatMap fun j:Nat=>(offs (ds.drop (k+1))).map fun o=>(j:Int)*x.s+o).map (a+ ·))) m'∧Ch F m3 m'∧ ∀b,F' b→F b∨m3.length≤b):=⟨_,fun _ _ _=>Iff.rfl⟩
  refine W_loop I x.n ((hI _ _ _).2 ⟨0,F,by simp,by simp,by simpa using hJ3,.refl _ _,fun b hb=> .inl hb⟩) ?_
  rintro q2 f m4 hIn
  obtain ⟨i,F',hq2,rfl,hJ4,hc4,hg4⟩:=(hI _ _ _).1 hIn
  clear hIn
  have hn0: ¬F b0:=fun hf=>by have:=hlt _ hf;omega
  have hn9: ¬F b9:=fun hf=>by have:=hlt _ hf;omega
  have hb04:=hc4.read hn0 hb0r
  have hb94:=hc4.read hn9 hb9r
  simp
  refine bbind_dec (fun hil=>?_) fun hil=>?_
  rotate_left
  ·have hix:i=x.n:=by omega
   subst hix
   simp
   refine ⟨F',hJ4,(Ch.of_prefix hm03).trans hc4,fun b hb=>?_⟩
   rcases hg4 b hb with h|h
   ·exact .inl h
   ·exact .inr (by omega)
  have hil:i<x.n:=by omega
  have hw:IntKind.i64.wrap ((i:Int)+1)=(i:Int)+1:=wrap64 (by omega) (by omega)
  have hbt:=mul_between (s:=x.s) hil
  simp only[lowS,highS] at h1 h2
  have hw1:IntKind.i64.wrap ((i:Int)*x.s)=(i:Int)*x.s:=by
   generalize ((x.n:Int)-1)*x.s=y at*
   generalize (i:Int)*x.s=z at*
   exact wrap64 (by omega) (by omega)
  have hw2:IntKind.i64.wrap (a+(i:Int)*x.s)=a+(i:Int)*x.s:=by
   generalize ((x.n:Int)-1)*x.s=y at*
   generalize (i:Int)*x.s=z at*
   exact wrap64 (by omega) (by omega)
  have hb04w:=bxW hb04 2
  simp[readN] at hb04w
  simp[hb04w,bx hb94,hkw,hw1,hw2]
  refine C_of (ih (k+1) (by omega) (a+(i:Int)*x.s) F' _ m4 hJ4 (hs3.ch hc4 fun b hb=>(hsF b hb).2) (fun b hb=>?_) ?_ ?_ ?_) ?_
  ·have:=hsF b hb
   refine ⟨by have:=hc4.len;omega,fun hf=>?_⟩
   rcases hg4 b hf with h|h
   ·exact this.2 h
   ·omega
  ·refine List.IsPrefix.trans ?_ hA
   rw[List.append_assoc,←offs_step,offs]
   obtain ⟨c,hc⟩: ∃c,x.n=i+1+c:=⟨x.n-(i+1),by omega⟩
   have hrg:List.range x.n=List.range (i+1)++(List.range c).map (i+1+ ·):=by rw[hc];exact List.range_add ..
   rw[hrg,List.flatMap_append,List.map_append,←List.append_assoc]
   exact List.prefix_append _ _
  ·generalize ((x.n:Int)-1)*x.s=y at*
   generalize (i:Int)*x.s=z at*
   omega
  ·generalize ((x.n:Int)-1)*x.s=y at*
   generalize (i:Int)*x.s=z at*
   omega
  rintro r m5 (⟨rfl,F5,j1,j2,j3⟩|⟨rfl,j1⟩)
  ·simp[hw]
   refine ⟨q2-1,by omega,(hI _ _ _).2 ⟨i+1,F5,by omega,by simp,?_,?_,?_⟩⟩
   ·rw[offs_step,←List.append_assoc]
    exact j1
   ·exact ch_trans2 hc4 j2 hg4
   ·intro b hb
    rcases j3 b hb with h|h
    ·exact hg4 b h
    ·exact .inr (by have:=hc4.len;omega)
  ·simp[j1]
theorem Dsc.rngs {d:Dsc} (h:d.bad=false) (he:emptyB d.bnds=false):rngs d.ds∧d.ds.length≤3∧0≤d.b+lowS d.ds∧d.b+highS d.ds<2147483648:=by
 obtain ⟨hc,hr⟩:=right_zero.1 (d.ok h)
 obtain ⟨h1,h2,h3⟩:=check_zero.1 hc
 obtain ⟨_,f2,f3⟩:=hr he
 have hlb:(bndsD d.ds).length=d.ds.length:=by simp[bndsD]
 obtain ⟨g1,g2,g3⟩:=offs_range (ds:=d.ds) (empty_pos he)
 refine ⟨fun x hx=>?_,by omega,(f3 _ g2).1,(f3 _ g3).2⟩
 have hx':(x.l,x.u)∈bndsD d.ds:=List.mem_map.2 ⟨x,hx,rfl⟩
 obtain ⟨j,hj,hjx⟩:=List.getElem_of_mem hx'
 have hle:=lenB_le he hj
 rw[hjx] at hle
 have hfx:=List.any_eq_false.1 f2 x hx
 refine ⟨empty_pos he x hx,Nat.le_trans hle (h3 he),by simp[h2 _ hx'],?_⟩
 have hp:=empty_pos he x hx
 simp only[farS,Bool.and_eq_true,decide_eq_true_eq,Bool.or_eq_true,not_and,not_or] at hfx
 by_cases h1:x.n=1
 ·exact .inl h1
 ·exact .inr (by have:=hfx (by omega);omega)
theorem k81 {l:Nat} {full:List Int} {J:(Nat→Prop)→List Int→AMem→Prop} {Jx:AMem→Prop} (h:It l full J Jx) (d:Dsc) (s:AVal) (hd:d.bad=false) {bx0:Nat} {F:Nat→Prop} {m:AMem} (hJ:J F [] m) (hb:readB m bx0=some [.int .i64 d.b,s]) (hs:SlF 3 dmC m s d.ds) (hsF: ∀b,s.blk=some b→b<m.length∧ ¬F b)
  (hA:d.places<+:full):ACalls Tryd.prog 81 [.func (.yield l) [] [],.ptr bx0 0] m fun _ m'=>(∃F',J F' d.places m'∧Ch F m m'∧ ∀b,F' b→F b∨m.length≤b)∨Jx m':=by
 obtain ⟨hc,hr⟩:=right_zero.1 (d.ok hd)
 obtain ⟨hc1,hc2,hc3⟩:=check_zero.1 hc
 have hlb:(bndsD d.ds).length=d.ds.length:=by simp[bndsD]
 refine w81 ?_
 have hbw:=bxW hb 2
 simp[readN] at hbw
 simp[hbw]
 refine C_of (k54 s d.b d.ds m hs (by omega)) ?_
 rintro v2 m2 ⟨hm2,hO⟩
 simp
 refine C_of (k55 v2 (bndsD d.ds) m2 hO.sl (by omega) (fun x hx=>by have:=hc2 x hx;simp[this])) ?_
 rintro _ m3 ⟨hm3,rfl⟩
 have hm:=hm2.trans hm3
 by_cases he:emptyB d.bnds=true
 ·have hcn:cntI (bndsD d.ds)=some 0:=by unfold cntI;rw[if_pos he]
  have hp:d.places= []:=by unfold Dsc.places;rw[if_pos (.inr he)]
  simp[hcn,hp]
  exact .inl ⟨F,h.mono hJ hm,.of_prefix hm,fun b hb=> .inl hb⟩
 have he:emptyB d.bnds=false:=by simpa using he
 have hp:d.places=(offs d.ds).map (d.b+ ·):=by unfold Dsc.places;rw[if_neg (by simp[hd,he])]
 have hcn:cntI (bndsD d.ds)=some (prodN (bndsD d.ds)):=by unfold cntI;rw[if_neg (by simpa using he),if_pos (hc3 he)]
 have hpp:=prodN_pos he
 obtain ⟨r1,r2,r3,r4⟩:=d.rngs hd he
 have hlow:=rngs_low r1
 have hb3:=readB_mono hm hb
 have hbw:=bxW hb3 2
 simp[readN] at hbw
 have hpp':0<prodN (bndsD d.ds):=hpp
 simp[hcn,hbw,bx hb3,hpp']
 refine C_of (k82 h d.b s d.ds r1 r2 d.ds.length 0 (by omega) d.b F [] m3 (h.mono hJ hm) (hs.mono hm) (fun b hb=>?_) ?_ ?_ ?_) ?_
 ·exact ⟨Nat.lt_of_lt_of_le (hsF b hb).1 hm.length_le,(hsF b hb).2⟩
 ·rw[List.drop_zero,List.nil_append,←hp];exact hA
 ·simp only[List.drop_zero];omega
 ·simp only[List.drop_zero];omega
 rintro r m4 (⟨rfl,F',j1,j2,j3⟩|⟨rfl,j1⟩)
 ·rw[List.drop_zero,List.nil_append,←hp] at j1
  simp
  refine .inl ⟨F',j1,(Ch.of_prefix hm).trans j2,fun b hb=>?_⟩
  rcases j3 b hb with h|h
  ·exact .inl h
  ·exact .inr (by have:=hm.length_le;omega)
 ·simp[j1]
end Go.Proofs.YtodhalcpnmddjaaDoor
namespace Go.Proofs.YtodhalcpnmddjaaDoor
open Go Ax
set_option maxRecDepth 100000
theorem k62 (s:AVal) (d:Dsc) (m:AMem) (hs:SlF 3 dmC m s d.ds):ACalls Tryd.prog 62 [.agg [.int .i64 d.b,s]] m fun r m'=>m<+:m'∧ ∃b,r= .func (.func 81) [] [.ptr b 0]∧readB m' b=some [.int .i64 d.b,s]∧m'.length=m.length+1:=by
 refine w62 ?_
 obtain ⟨h1,h2⟩:=hs.one
 simp[h1,h2]
theorem rints_one {m:AMem} {o:AVal} {xs:List Int} (h:RInts m o xs):o.one=true∧o.cells= [o]:=by
 rcases h with ⟨rfl,_⟩|⟨_,_,_,_,rfl,_⟩<;>exact ⟨rfl,rfl⟩
theorem store_box {m:AMem} {b:Nat} {z v:AVal} {ty:TypeId} {g:Option Nat} (hb:m[b]? =some (.own [z] ty g)) (h1:v.cells= [v]) (h2:v.one=true):storeE m 1 (.ptr b 0) v=some (.undef,m.set b (.own [v] ty g)):=by
 simp[storeE,h1,writeB,hb,h2,setN]
theorem box_read {m:AMem} {b:Nat} {cs:List AVal} {ty:TypeId} {g:Option Nat} (hb:m[b]? =some (.own cs ty g)):readB m b=some cs:=by
 simp[readB,hb,ABlk.cells]
theorem places_len (d:Dsc):d.places.length≤65536:=by
 unfold Dsc.places
 split
 ·simp
 ·rename_i h
  simp only[not_or,Bool.not_eq_true] at h
  obtain ⟨hb,he⟩:=h
  obtain ⟨hc,_⟩:=right_zero.1 (d.ok hb)
  obtain ⟨_,_,h3⟩:=check_zero.1 hc
  have:=h3 he
  rw[List.length_map,←els_offs,List.length_map,els_count,←prodN_cnt]
  exact this
set_option maxHeartbeats 4000000 in
theorem k31 (v:AVal) (d:Dsc) (m:AMem) (hv:DsR m v d) (hl:d.ds.length<2^30):ACalls Tryd.prog 31 [v] m fun r m'=>m<+:m'∧OwL (AVal.int .i64) m.length m' 3 r d.places:=by
 have hv0:=hv
 obtain ⟨s,rfl,hs,hsb⟩:=hv
 refine w31 ?_
 obtain ⟨h1,h2⟩:=hs.one
 simp[h1,h2]
 have hb:=readB_new m [AVal.int .i64 d.b,s] 26 none
 have hm:m<+:m++ [ABlk.own [AVal.int .i64 d.b,s] 26 none]:=List.prefix_append _ _
 generalize m++ [ABlk.own [AVal.int .i64 d.b,s] 26 none]=m1 at*
 have hbw:=bxW hb 2
 simp[readN] at hbw
 simp[hbw]
 refine C_of (k58 _ d m1 (hv0.mono hm) hl) ?_
 rintro _ m2 ⟨hm2,rfl⟩
 simp
 refine bbind_intro (fun hd=>?_) fun hd=>?_
 ·have hp:d.places= []:=by unfold Dsc.places;rw[if_pos (.inl hd)]
  simp[hp,hm.trans hm2]
  exact OwL.nil
 have hb2:=readB_mono hm2 hb
 have hm02:=hm.trans hm2
 clear hbw hm hm2 hb
 simp
 have hm3:m2<+:m2++ [ABlk.own [AVal.nilslice] 56 none]:=List.prefix_append _ _
 have hx3:(m2++ [ABlk.own [AVal.nilslice] 56 none])[m2.length]? =some (.own [.nilslice] 56 none):=by simp
 have hl3:(m2++ [ABlk.own [AVal.nilslice] 56 none]).length=m2.length+1:=by simp
 have hm2l:=hm02.length_le
 generalize m2++ [ABlk.own [AVal.nilslice] 56 none]=m3 at*
 have hb3:=readB_mono hm3 hb2
 have hbw:=bxW hb3 2
 simp[readN] at hbw
 simp[hbw]
 refine C_of (k62 s d m3 (hs.mono (hm02.trans hm3))) ?_
 rintro _ m4 ⟨hm4,b4,rfl,hb4,hl4⟩
 have hx4:m4[m2.length]? =some (.own [.nilslice] 56 none):=by
  obtain ⟨t,rfl⟩:=hm4
  rw[List.getElem?_append_left (by omega)]
  exact hx3
 have hm24:=hm3.trans hm4
 generalize hb0:m2.length=b0 at*
 clear hb3 hbw hm3 hm4 hx3 hb2
 simp
 refine W_rfn (gf:=81) (cs:= [.ptr b4 0]) (by simp) ?_
 intro l R B X hY
 have hmR:m4<+:m4++ [R]:=List.prefix_append _ _
 have hR:(m4++ [R])[m4.length]? =some R:=by simp
 have hlR:(m4++ [R]).length=m4.length+1:=by simp
 have hxR:(m4++ [R])[b0]? =some (.own [.nilslice] 56 none):=by rw[List.getElem?_append_left (by omega)];exact hx4
 generalize m4++ [R]=mR at*
 obtain ⟨J,hJ⟩: ∃J:(Nat→Prop)→List Int→AMem→Prop,∀F pre m',J F pre m'↔ ∃o,F=(fun b=>b=m4.length∨b=b0∨o.blk=some b)∧m'[m4.length]? =some R∧m'[b0]? =some (.own [o] 56 none)∧OwL (AVal.int .i64) (m4.length+1) m' 3 o pre∧Ch (fun b=>b=b0∨b=m4.length) mR m':=⟨_,fun _ _ _=>Iff.rfl⟩
 have hIt:It l d.places J (fun _=>False):=by
  refine ⟨fun {F pre m'} h b hb=>?_,fun {F pre m' m''} h hp=>?_,fun {F pre m' x} hfull h=>?_⟩
  ·obtain ⟨o,rfl,k1,k2,k3,k4⟩:=(hJ _ _ _).1 h
   rcases hb with rfl|rfl|hb
   ·exact (List.getElem?_eq_some_iff.1 k1).1
   ·exact (List.getElem?_eq_some_iff.1 k2).1
   ·exact (k3.blk_lo hb).2
  ·obtain ⟨o,rfl,k1,k2,k3,k4⟩:=(hJ _ _ _).1 h
   exact (hJ _ _ _).2 ⟨o,rfl,prefix_get hp k1,prefix_get hp k2,k3.mono hp,k4.trans (.of_prefix hp)⟩
  ·obtain ⟨o,rfl,k1,k2,k3,k4⟩:=(hJ _ _ _).1 h
   refine hY [.int .i64 x] m' _ rfl k1 ?_
   simp[AFrame.puts,k1]
   have hlen:pre.length<65536:=by
    have:=hfull.length_le
    have hp:=places_len d
    simp at this
    omega
   have hne:b0≠m4.length:=by omega
   have hm'l:=(List.getElem?_eq_some_iff.1 k1).1
   have c1:Ch (fun b=>b=m4.length) m' (m'.set m4.length B):=Ch.setS B rfl
   have q1:(m'.set m4.length B)[m4.length]? =some B:=by rw[List.getElem?_set_self hm'l]
   have q2:(m'.set m4.length B)[b0]? =some (.own [o] 56 none):=by rw[List.getElem?_set_ne (Ne.symm hne)];exact k2
   have q3:OwL (AVal.int .i64) (m4.length+1) (m'.set m4.length B) 3 o pre:=k3.ch c1 fun b hb=>by have:=(k3.blk_lo hb).1;omega
   have q4:(m'.set m4.length B).length=m'.length:=by simp
   generalize m'.set m4.length B=mB at*
   simp[bx (box_read q2)]
   have hm5:mB<+:mB++ [ABlk.own [AVal.int .i64 x] 3 none]:=List.prefix_append _ _
   have hsc:sliceCells (mB++ [ABlk.own [AVal.int .i64 x] 3 none]) 1 (.slice mB.length 0 1 1 none)=some (1,[AVal.int .i64 x]):=by simp[sliceCells,readB,ABlk.cells,readN]
   have hm5l:(mB++ [ABlk.own [AVal.int .i64 x] 3 none]).length=mB.length+1:=by simp
   simp[fillA,setN]
   generalize mB++ [ABlk.own [AVal.int .i64 x] 3 none]=m5 at*
   obtain ⟨o',m6,happ,hch,hO6,hg6⟩:=OwL.append (q3.mono hm5) (by omega) (by_:=8) (by omega) [x] (by simp;omega)
   simp at happ
   simp[hsc,happ]
   have nb: ¬o.blk=some b0:=fun hb=>by have:=(q3.blk_lo hb).1;omega
   have ni: ¬o.blk=some m4.length:=fun hb=>by have:=(q3.blk_lo hb).1;omega
   have r2:=hch.keep b0 _ (prefix_get hm5 q2) nb
   have r1:=hch.keep m4.length _ (prefix_get hm5 q1) ni
   obtain ⟨o1,o2⟩:=rints_one hO6.ints
   rw[store_box r2 o2 o1]
   simp
   have r3:=(List.getElem?_eq_some_iff.1 r2).1
   have r4:=(List.getElem?_eq_some_iff.1 r1).1
   have nb': ¬o'.blk=some b0:=fun hb=>by have:=(hO6.blk_lo hb).1;omega
   have ni': ¬o'.blk=some m4.length:=fun hb=>by have:=(hO6.blk_lo hb).1;omega
   have hF:Ch (fun b=>b=m4.length∨b=b0∨o.blk=some b) m' ((m6.set b0 (.own [o'] 56 none)).set m4.length R):=by
    refine Ch.set (Ch.set ?_ (.inl (.inr (.inl rfl))) _) (.inl (.inl rfl)) _
    refine (c1.weaken fun b _ h=> .inl h).trans (Ch.trans (.of_prefix hm5) (hch.weaken fun b _ h=> .inr (.inr h)))
   refine ⟨by rw[List.getElem?_set_ne hne];exact r1,_,(hJ _ _ _).2 ⟨o',rfl,?_,?_,?_,?_⟩,hF,fun b hb=>?_⟩
   ·rw[List.getElem?_set_self (by simpa using r4)]
   ·rw[List.getElem?_set_ne (Ne.symm hne),List.getElem?_set_self r3]
   ·refine hO6.ch ((Ch.refl (fun b=>b=m4.length∨b=b0) m6|>.set (.inl (.inr rfl)) _).set (.inl (.inl rfl)) _) fun b hb h=>?_
    rcases h with rfl|rfl
    ·exact ni' hb
    ·exact nb' hb
   ·refine ch_trans2 k4 hF fun b h=>?_
    rcases h with rfl|rfl|h
    ·exact .inl (.inr rfl)
    ·exact .inl (.inl rfl)
    ·exact .inr (by have:=(k3.blk_lo h).1;omega)
   ·rcases hb with rfl|rfl|hb
    ·exact .inl (.inl rfl)
    ·exact .inl (.inr (.inl rfl))
    ·rcases hg6 b hb with h|h
     ·exact .inl (.inr (.inr h))
     ·exact .inr (by omega)
 have hst:J (fun b=>b=m4.length∨b=b0∨AVal.nilslice.blk=some b) [] mR:=(hJ _ _ _).2 ⟨.nilslice,rfl,hR,hxR,OwL.nil,.refl _ _⟩
 refine (k81 hIt d s hd hst (readB_mono hmR hb4) (hs.mono (hm02.trans (hm24.trans hmR))) (fun b hb=>?_) (List.prefix_refl _)).mono ?_
 ·have:=hsb b hb
  refine ⟨by omega,?_⟩
  rintro (h|h|h)
  ·omega
  ·omega
  ·cases h
 rintro _ m7 (⟨F',j1,j2,j3⟩|hf)
 ·obtain ⟨o,rfl,k1,k2,k3,k4⟩:=(hJ _ _ _).1 j1
  refine .inl ⟨k1,?_⟩
  have hne:b0≠m4.length:=by omega
  have q2:(m7.set m4.length .dead)[b0]? =some (.own [o] 56 none):=by rw[List.getElem?_set_ne (Ne.symm hne)];exact k2
  have q3:OwL (AVal.int .i64) (m4.length+1) (m7.set m4.length .dead) 3 o d.places:=k3.ch (Ch.setS (S:=fun b=>b=m4.length) .dead rfl) fun b hb=>by have:=(k3.blk_lo hb).1;omega
  have q4:Ch (fun b=>b=b0∨b=m4.length) mR (m7.set m4.length .dead):=k4.set (.inl (.inr rfl)) _
  simp[bx (box_read q2)]
  refine ⟨q4.pre (hm02.trans (hm24.trans hmR)) fun b hb h=>by omega,q3.lo' (by omega)⟩
 ·exact hf.elim
end Go.Proofs.YtodhalcpnmddjaaDoor
namespace Go.Proofs.YtodhalcpnmddjaaDoor
open Go Ax
set_option maxRecDepth 100000
theorem find_set (es:List (Int×AVal)) (n k:Int) (v:AVal):findE (setE es n v) k=if n=k then some v else findE es k:=by
 induction es with
 |nil=>simp[setE,findE]
 |cons p es ih=>
  obtain ⟨j,x⟩:=p
  simp only[setE]
  by_cases h:j=n
  ·subst h
   by_cases hk:j=k<;>simp[findE,hk]
  ·rw[if_neg h]
   by_cases hk:j=k
   ·subst hk
    simp[findE,Ne.symm h]
   ·simp[findE,hk,ih]
set_option maxHeartbeats 4000000 in
theorem k35 (v v':AVal) (d e:Dsc) (m:AMem) (hv:DsR m v d) (hv':DsR m v' e) (hl:d.ds.length<2^30) (hl':e.ds.length<2^30):ACalls Tryd.prog 35 [v,v'] m fun r m'=>m<+:m'∧r= .bool (meetD d e):=by
 have hv0:=hv
 have hv0':=hv'
 obtain ⟨s,rfl,hs,hsb⟩:=hv
 obtain ⟨s',rfl,hs',hsb'⟩:=hv'
 refine w35 ?_
 obtain ⟨h1,h2⟩:=hs.one
 obtain ⟨h1',h2'⟩:=hs'.one
 simp[h1,h2,h1',h2']
 have hm:m<+:m++ [ABlk.own [AVal.int .i64 d.b,s] 26 none,ABlk.own [AVal.int .i64 e.b,s'] 26 none,ABlk.own [AVal.bool false] 4 none]:=List.prefix_append _ _
 have hb:readB (m++ [ABlk.own [AVal.int .i64 d.b,s] 26 none,ABlk.own [AVal.int .i64 e.b,s'] 26 none,ABlk.own [AVal.bool false] 4 none]) m.length=some [.int .i64 d.b,s]:=by simp[readB,ABlk.cells]
 have hb':readB (m++ [ABlk.own [AVal.int .i64 d.b,s] 26 none,ABlk.own [AVal.int .i64 e.b,s'] 26 none,ABlk.own [AVal.bool false] 4 none]) (m.length+1)=some [.int .i64 e.b,s']:=by simp[readB,ABlk.cells]
 have hr:(m++ [ABlk.own [AVal.int .i64 d.b,s] 26 none,ABlk.own [AVal.int .i64 e.b,s'] 26 none,ABlk.own [AVal.bool false] 4 none])[m.length+2]? =some (.own [.bool false] 4 none):=by simp
 have hlen:(m++ [ABlk.own [AVal.int .i64 d.b,s] 26 none,ABlk.own [AVal.int .i64 e.b,s'] 26 none,ABlk.own [AVal.bool false] 4 none]).length=m.length+3:=by simp
 generalize m++ [ABlk.own [AVal.int .i64 d.b,s] 26 none,ABlk.own [AVal.int .i64 e.b,s'] 26 none,ABlk.own [AVal.bool false] 4 none]=m1 at*
 have hbw:=bxW hb 2
 simp[readN] at hbw
 simp[hbw]
 refine C_of (k58 _ d m1 (hv0.mono hm) hl) ?_
 rintro _ m2 ⟨hm2,rfl⟩
 by_cases hd:d.bad=true
 ·have hp:meetD d e=false:=by unfold meetD Dsc.places;rw[if_pos (.inl hd)];rfl
  simp[hd,hp]
  rw[store_box (prefix_get hm2 hr) rfl rfl]
  have hx:=prefix_get hm2 hr
  have hlt:=(List.getElem?_eq_some_iff.1 hx).1
  simp[loadE,readB,hlt,ABlk.cells]
  exact ⟨(Ch.set (Ch.of_prefix (S:=fun b=>b=m.length+2) (hm.trans hm2)) (.inl rfl) _).pre (List.prefix_refl _) fun b hb h=>by omega,hp⟩
 have hd:d.bad=false:=by simpa using hd
 have hbw:=bxW (readB_mono hm2 hb') 2
 simp[readN] at hbw
 simp[hd,hbw]
 refine C_of (k58 _ e m2 (hv0'.mono (hm.trans hm2)) hl') ?_
 rintro _ m3 ⟨hm3,rfl⟩
 by_cases he:e.bad=true
 ·have hp:meetD d e=false:=by
   have:e.places= []:=by unfold Dsc.places;rw[if_pos (.inl he)]
   unfold meetD
   simp[this]
  simp[he,hp]
  have hx:=prefix_get (hm2.trans hm3) hr
  rw[store_box hx rfl rfl]
  have hlt:=(List.getElem?_eq_some_iff.1 hx).1
  simp[loadE,readB,hlt,ABlk.cells]
  exact ⟨(Ch.set (Ch.of_prefix (S:=fun b=>b=m.length+2) (hm.trans (hm2.trans hm3))) (.inl rfl) _).pre (List.prefix_refl _) fun b hb h=>by omega,hp⟩
 have he:e.bad=false:=by simpa using he
 have hm13:=hm2.trans hm3
 have hm03:=hm.trans hm13
 have hb3:=readB_mono hm13 hb
 have hb3':=readB_mono hm13 hb'
 have hr3:=prefix_get hm13 hr
 have hl3:m.length+3≤m3.length:=by have:=hm13.length_le;omega
 clear hbw hb hb' hr hm2 hm3 hm hm13 hlen
 simp[he]
 have hm4:m3<+:m3++ [ABlk.mp [],ABlk.own [AVal.map m3.length] 109 none]:=List.prefix_append _ _
 have hst:storeE (m3++ [ABlk.mp [],ABlk.own [AVal.nilmap] 109 none]) 1 (.ptr (m3.length+1) 0) (.map m3.length)=some (.undef,m3++ [ABlk.mp [],ABlk.own [AVal.map m3.length] 109 none]):=by
  have:(m3++ [ABlk.mp [],ABlk.own [AVal.nilmap] 109 none])[m3.length+1]? =some (.own [.nilmap] 109 none):=by simp
  rw[store_box this rfl rfl]
  simp
 simp[hst]
 have hmp:(m3++ [ABlk.mp [],ABlk.own [AVal.map m3.length] 109 none])[m3.length]? =some (.mp []):=by simp
 have hmb:(m3++ [ABlk.mp [],ABlk.own [AVal.map m3.length] 109 none])[m3.length+1]? =some (.own [.map m3.length] 109 none):=by simp
 have hl4:(m3++ [ABlk.mp [],ABlk.own [AVal.map m3.length] 109 none]).length=m3.length+2:=by simp
 generalize m3++ [ABlk.mp [],ABlk.own [AVal.map m3.length] 109 none]=m4 at*
 clear hst
 have hbw:=bxW (readB_mono hm4 hb3) 2
 simp[readN] at hbw
 simp[hbw]
 refine C_of (k62 s d m4 (hs.mono (hm03.trans hm4))) ?_
 rintro _ m5 ⟨hm5,b5,rfl,hb5,hl5⟩
 clear hbw
 have hm45:=hm4.trans hm5
 have hmp5:=prefix_get hm5 hmp
 have hmb5:=prefix_get hm5 hmb
 have hr5:=prefix_get hm45 hr3
 have hb5':=readB_mono hm45 hb3'
 clear hmp hmb hr3 hb3 hb3' hm5 hm4
 simp
 refine W_rfn (gf:=81) (cs:= [.ptr b5 0]) (by simp) ?_
 intro l R B X hY
 have hmR:m5<+:m5++ [R]:=List.prefix_append _ _
 have hR:(m5++ [R])[m5.length]? =some R:=by simp
 have hlR:(m5++ [R]).length=m5.length+1:=by simp
 have hmpR:=prefix_get hmR hmp5
 have hmbR:=prefix_get hmR hmb5
 have hrR:=prefix_get hmR hr5
 have hbR':=readB_mono hmR hb5'
 generalize m5++ [R]=mR at*
 generalize hbM:m3.length=bM at*
 generalize hiR:m5.length=iR at*
 obtain ⟨J,hJ⟩: ∃J:(Nat→Prop)→List Int→AMem→Prop,∀F pre m',J F pre m'↔F=(fun b=>b=iR∨b=bM)∧m'[iR]? =some R∧(∃es,m'[bM]? =some (.mp es)∧ ∀n,(findE es n).getD (.bool false)= .bool (pre.contains n))∧Ch (fun b=>b=bM∨b=iR) mR m':=⟨_,fun _ _ _=>Iff.rfl⟩
 have hIt:It l d.places J (fun _=>False):=by
  refine ⟨fun {F pre m'} h b hb=>?_,fun {F pre m' m''} h hp=>?_,fun {F pre m' x} hfull h=>?_⟩
  ·obtain ⟨rfl,k1,⟨es,k2,k3⟩,k4⟩:=(hJ _ _ _).1 h
   rcases hb with rfl|rfl
   ·exact (List.getElem?_eq_some_iff.1 k1).1
   ·exact (List.getElem?_eq_some_iff.1 k2).1
  ·obtain ⟨rfl,k1,⟨es,k2,k3⟩,k4⟩:=(hJ _ _ _).1 h
   exact (hJ _ _ _).2 ⟨rfl,prefix_get hp k1,⟨es,prefix_get hp k2,k3⟩,k4.trans (.of_prefix hp)⟩
  ·obtain ⟨rfl,k1,⟨es,k2,k3⟩,k4⟩:=(hJ _ _ _).1 h
   refine hY [.int .i64 x] m' _ rfl k1 ?_
   simp[AFrame.puts,k1]
   have hne:bM≠iR:=by omega
   have hm'l:=(List.getElem?_eq_some_iff.1 k1).1
   have kb:=k4.keep (bM+1) _ hmbR (by omega)
   have c1:Ch (fun b=>b=iR∨b=bM) m' (m'.set iR B):=Ch.setS B (.inl rfl)
   have q1:(m'.set iR B)[iR]? =some B:=by rw[List.getElem?_set_self hm'l]
   have q2:(m'.set iR B)[bM]? =some (.mp es):=by rw[List.getElem?_set_ne (Ne.symm hne)];exact k2
   have q3:(m'.set iR B)[bM+1]? =some (.own [.map bM] 109 none):=by rw[List.getElem?_set_ne (by omega)];exact kb
   generalize m'.set iR B=mB at*
   simp[bx (box_read q3),mapsetE,q2]
   have r2:=(List.getElem?_eq_some_iff.1 q2).1
   have r1:=(List.getElem?_eq_some_iff.1 q1).1
   have hF:Ch (fun b=>b=iR∨b=bM) m' ((mB.set bM (.mp (setE es x (.bool true)))).set iR R):=(c1.set (.inl (.inr rfl)) _).set (.inl (.inl rfl)) _
   refine ⟨by rw[List.getElem?_set_ne hne];exact q1,_,(hJ _ _ _).2 ⟨rfl,by rw[List.getElem?_set_self (by simpa using r1)],⟨_,by rw[List.getElem?_set_ne (Ne.symm hne),List.getElem?_set_self r2],fun n=>?_⟩,k4.trans (hF.weaken fun b _ h=>h.symm)⟩,hF,fun b hb=> .inl hb⟩
   rw[find_set]
   by_cases hn:x=n
   ·subst hn;simp
   ·rw[if_neg hn,k3]
    simp[Ne.symm hn]
 have hst:J (fun b=>b=iR∨b=bM) [] mR:=(hJ _ _ _).2 ⟨rfl,hR,⟨[],hmpR,fun n=>by simp[findE]⟩,.refl _ _⟩
 refine (k81 hIt d s hd hst (readB_mono hmR hb5) (hs.mono (hm03.trans (hm45.trans hmR))) (fun b hb=>?_) (List.prefix_refl _)).mono ?_
 ·have:=hsb b hb
  refine ⟨by omega,?_⟩
  rintro (h|h)<;>omega
 rintro _ m7 (⟨F',j1,j2,j3⟩|hf)
 rotate_left
 ·exact hf.elim
 obtain ⟨rfl,k1,⟨es,k2,k3⟩,k4⟩:=(hJ _ _ _).1 j1
 refine .inl ⟨k1,?_⟩
 have q2:(m7.set iR .dead)[bM]? =some (.mp es):=by rw[List.getElem?_set_ne (by omega)];exact k2
 have q4:Ch (fun b=>b=bM∨b=iR) mR (m7.set iR .dead):=k4.set (.inl (.inr rfl)) _
 have q5:=q4.keep _ _ hmbR (by omega)
 have q6:=q4.keep _ _ hrR (by omega)
 have q7:readB (m7.set iR .dead) (m.length+1)=some [.int .i64 e.b,s']:=q4.read (by omega) hbR'
 have q8:m<+:m7.set iR .dead:=q4.pre (hm03.trans (hm45.trans hmR)) fun b hb h=>by omega
 have q9:=q4.len
 clear k1 k2 k4 j1 j2 j3 hst hIt hJ hY hmpR hmbR hrR hbR' hmp5 hmb5 hr5 hb5'
 generalize m7.set iR .dead=m8 at*
 have hbw:=bxW q7 2
 simp[readN] at hbw
 simp[hbw]
 refine C_of (k62 s' e m8 (hs'.mono q8)) ?_
 rintro _ m9 ⟨hm9,b9,rfl,hb9,hl9⟩
 have p2:=prefix_get hm9 q2
 have p5:=prefix_get hm9 q5
 have p6:=prefix_get hm9 q6
 have p8:=q8.trans hm9
 clear q2 q4 q5 q6 q7 q8 hbw
 simp
 refine W_rfn (gf:=81) (cs:= [.ptr b9 0]) (by simp) ?_
 clear hR R B X
 intro l R B X hY
 have hmR:m9<+:m9++ [R]:=List.prefix_append _ _
 have hR:(m9++ [R])[m9.length]? =some R:=by simp
 have hlR':(m9++ [R]).length=m9.length+1:=by simp
 have p2:=prefix_get hmR p2
 have p5:=prefix_get hmR p5
 have p6:=prefix_get hmR p6
 generalize m9++ [R]=mS at*
 generalize hiS:m9.length=iS at*
 obtain ⟨J,hJ⟩: ∃J:(Nat→Prop)→List Int→AMem→Prop,∀F pre m',J F pre m'↔F=(fun b=>b=iS∨b=m.length+2)∧m'[iS]? =some R∧(∀x∈pre,d.places.contains x=false)∧Ch (fun b=>b=iS) mS m':=⟨_,fun _ _ _=>Iff.rfl⟩
 obtain ⟨Jx,hJx⟩: ∃Jx:AMem→Prop,∀m',Jx m'↔m'[iS]? =some (X .ret)∧m'[m.length+2]? =some (.own [.bool true] 4 none)∧meetD d e=true∧Ch (fun b=>b=iS∨b=m.length+2) mS m':=⟨_,fun _=>Iff.rfl⟩
 have hIt:It l e.places J Jx:=by
  refine ⟨fun {F pre m'} h b hb=>?_,fun {F pre m' m''} h hp=>?_,fun {F pre m' x} hfull h=>?_⟩
  ·obtain ⟨rfl,k1,k2,k4⟩:=(hJ _ _ _).1 h
   rcases hb with rfl|rfl
   ·exact (List.getElem?_eq_some_iff.1 k1).1
   ·exact Nat.lt_of_lt_of_le (List.getElem?_eq_some_iff.1 p6).1 k4.len
  ·obtain ⟨rfl,k1,k2,k4⟩:=(hJ _ _ _).1 h
   exact (hJ _ _ _).2 ⟨rfl,prefix_get hp k1,k2,k4.trans (.of_prefix hp)⟩
  ·obtain ⟨rfl,k1,k2,k4⟩:=(hJ _ _ _).1 h
   refine hY [.int .i64 x] m' _ rfl k1 ?_
   simp[AFrame.puts,k1]
   have hm'l:=(List.getElem?_eq_some_iff.1 k1).1
   have c1:Ch (fun b=>b=iS) m' (m'.set iS B):=Ch.setS B rfl
   have c2:=k4.trans c1
   have q1:(m'.set iS B)[iS]? =some B:=by rw[List.getElem?_set_self hm'l]
   have r2:=c2.keep _ _ p2 (by omega)
   have r5:=c2.keep _ _ p5 (by omega)
   have r6:=c2.keep _ _ p6 (by omega)
   generalize m'.set iS B=mB at*
   simp[bx (box_read r5),lookupE,r2,k3]
   have hlB:=(List.getElem?_eq_some_iff.1 q1).1
   have hl6:=(List.getElem?_eq_some_iff.1 r6).1
   have hxe:x∈e.places:=hfull.subset (by simp)
   refine bbind_dec (fun hx=>?_) fun hx=>?_
   ·simp
    rw[store_box r6 rfl rfl]
    simp
    refine ⟨by rw[List.getElem?_set_ne (by omega)];exact q1,(hJx _).2 ⟨by rw[List.getElem?_set_self (by simpa using hlB)],by rw[List.getElem?_set_ne (by omega),List.getElem?_set_self hl6],?_,?_⟩⟩
    ·unfold meetD
     rw[List.any_eq_true]
     exact ⟨x,by simpa using hx,by simpa using hxe⟩
    ·exact ((c2.weaken fun b _ h=> .inl h).set (.inl (.inr rfl)) _).set (.inl (.inl rfl)) _
   ·simp
    have hF:Ch (fun b=>b=iS∨b=m.length+2) m' (mB.set iS R):=(c1.weaken fun b _ h=> .inl h).set (.inl (.inl rfl)) _
    refine ⟨q1,_,(hJ _ _ _).2 ⟨rfl,by rw[List.getElem?_set_self hlB],fun y hy=>?_,c2.set (.inl rfl) _⟩,hF,fun b hb=> .inl hb⟩
    rw[List.mem_append,List.mem_singleton] at hy
    rcases hy with hy|rfl
    ·exact k2 y hy
    ·simpa using hx
 have hst:J (fun b=>b=iS∨b=m.length+2) [] mS:=(hJ _ _ _).2 ⟨rfl,hR,by simp,.refl _ _⟩
 refine (k81 hIt e s' he hst (readB_mono hmR hb9) (hs'.mono (p8.trans hmR)) (fun b hb=>?_) (List.prefix_refl _)).mono ?_
 ·have:=hsb' b hb
  refine ⟨by omega,?_⟩
  rintro (h|h)<;>omega
 rintro _ m10 (⟨F',j1,j2,j3⟩|hf)
 ·obtain ⟨rfl,k1,k2,k4⟩:=(hJ _ _ _).1 j1
  refine .inl ⟨k1,?_⟩
  have c2:Ch (fun b=>b=iS) mS (m10.set iS .dead):=k4.set (.inl rfl) _
  have r6:=c2.keep _ _ p6 (by omega)
  have hp:meetD d e=false:=by
   unfold meetD
   rw[List.any_eq_false]
   intro x hx hc
   have:=k2 x (by simpa using hc)
   simp at this
   exact this hx
  generalize m10.set iS .dead=m11 at*
  simp
  rw[store_box r6 rfl rfl]
  have hlt:=(List.getElem?_eq_some_iff.1 r6).1
  simp[loadE,readB,hlt,ABlk.cells,hp]
  exact (Ch.set (c2.weaken (T:=fun b=>b=m.length+2∨b=iS) fun b _ h=> .inr h) (.inl (.inl rfl)) _).pre (p8.trans hmR) fun b hb h=>by omega
 ·obtain ⟨k1,k2,k3,k4⟩:=(hJx _).1 hf
  refine .inr ⟨.ret,by simp,k1,?_⟩
  have c2:Ch (fun b=>b=iS∨b=m.length+2) mS (m10.set iS .dead):=k4.set (.inl (.inl rfl)) _
  have r6:(m10.set iS .dead)[m.length+2]? =some (.own [.bool true] 4 none):=by rw[List.getElem?_set_ne (by omega)];exact k2
  generalize m10.set iS .dead=m11 at*
  simp[bx (box_read r6),k3]
  exact c2.pre (p8.trans hmR) fun b hb h=>by omega
end Go.Proofs.YtodhalcpnmddjaaDoor
namespace Go.Proofs.YtodhalcpnmddjaaDoor
open Go Ax
set_option maxRecDepth 100000
theorem w63 {args m R} (h:W Tryd.prog (.seq (.reg [qb 4 false]) (.kill [0,1] (.seq (.seq (.reg [qv 6 0,qn 7 6,qv 8 1,qn 9 8,qo 10 .neq 7 9]) (.kill [0,1,10] (.cond (.t 10) (.seq (.reg [qb 4 false]) .ret) .skip))) (.kill [0,1] (.seq (.seq (.reg [qv 11 0,qn 12 11,qi 13 0]) (.kill [0,1,12,13] (.block 0 (.kill [0,1,12,13] (.loop (.fin [0,1,12,13] (.seq (.reg [qo 14 .lss 13 12]) (.seq (.cond (.t 14) .skip (.exit 0)) (.kill [0,1,12,13] (.seq (.block 1 (.seq (.reg [qv 15 13,qv 5 15]) (.kill [0,1,5,12,13] (.seq (.draw true [qv 16 0,qv 17 5,qa 18 1 16 17,ql 19 18,qv 20 1,qv 21 5,qa 22 1 20 21,ql 23 22,qo 24 .neq 19 23] [[],[],[],[],[],[],[],[],[]] [[],[],[],[],[],[],[],[],[]] [0,1,2,3,4,5,6,7,8]) (.kill [0,1,12,13,24] (.cond (.t 24) (.seq (.reg [qb 4 false]) .ret) .skip)))))) (.kill [0,1,12,13] (.reg [qk 25 .add 13 1,qv 13 25])))))))))))) (.kill [] (.seq (.reg [qb 4 true]) .ret))))))) (E [(.tmp 4)] R .mk) .mk (mat 26 (sArgs 0 args)) m) (hl:Nat.ble args.length 26=true:=by rfl):ACalls Tryd.prog 63 args m R:=walk mix (by kernel_rfl) (Nat.le_of_ble_eq_true hl) h
abbrev h63_0 (t0 t1 t12 t13:AVal):AFrame:=mat 26 [(0,t0),(1,t1),(12,t12),(13,t13)]
end Go.Proofs.YtodhalcpnmddjaaDoor
namespace Go.Proofs.YtodhalcpnmddjaaDoor
open Go Ax
set_option maxRecDepth 100000
theorem w4 {args m R} (h:W Tryd.prog (.seq (.reg [⟨some 3,.A (.box 26 (.t 0)),none⟩,qb 6 false]) (.kill [1,2,3] (.seq (.seq (.reg [qc 14 11 [],⟨some 15,.P (.un .not (.t 14)),none⟩,qv 16 15,⟨some 17,.R (.load 2 true (.t 3)),(some (16,false))⟩,⟨some 18,.C (.c (.func (.func 20) [] [])) [(.t 17)],(some (16,false))⟩,⟨some 19,.P (.un .not (.t 18)),(some (16,false))⟩,⟨some 20,.P (.pick (.t 16) (.c (.bool true)) (.t 19)),none⟩,qv 21 20,⟨some 22,.P (.mov (.t 1)),(some (21,false))⟩,⟨some 23,.P (.len (.t 22)),(some (21,false))⟩,⟨some 24,.P (.bin .gtr (.t 23) (qz 6)),(some (21,false))⟩,⟨some 25,.P (.pick (.t 21) (.c (.bool true)) (.t 24)),none⟩]) (.kill [1,2,3,25] (.cond (.t 25) (.seq (.reg [qc 26 11 [],qv 6 26]) .ret) .skip))) (.kill [1,2,3] (.seq (.reg [⟨some 27,.R (.load 2 true (.t 3)),none⟩,qc 28 27 [(.t 27)],⟨some 7,.A (.alloc 32 [(.int .i64 0),.nilslice]),none⟩,⟨none,.W (.store 2 (.t 7) (.t 28)),none⟩]) (.kill [1,2,3,7] (.seq (.reg [⟨some 30,.R (.load 2 true (.t 3)),none⟩,qv 31 1,qc 32 28 [(.t 30),(.t 31)],qv 29 32,qx 33 29 0,qx 34 29 1,qx 35 29 2,qv 8 33,qv 9 34,qv 10 35]) (.kill [1,2,3,7,8,9,10] (.seq (.reg [⟨some 37,.R (.load 2 true (.t 7)),none⟩,qv 38 1,qc 39 29 [(.t 37),(.t 38)],qv 36 39,qx 40 36 0,qx 41 36 1,qx 42 36 2,qv 11 40,qv 12 41,qv 13 42]) (.kill [2,3,7,8,9,10,11,12,13] (.seq (.draw false [qv 43 8,qv 44 11,qo 45 .eql 43 44,qv 46 45,⟨some 47,.P (.mov (.t 9)),(some (46,true))⟩,⟨some 48,.P (.mov (.t 12)),(some (46,true))⟩,⟨some 49,.P (.bin .eql (.t 47) (.t 48)),(some (46,true))⟩,⟨some 50,.P (.pick (.t 46) (.t 49) (.c (.bool false))),none⟩,qv 51 50,⟨some 52,.P (.mov (.t 10)),(some (51,true))⟩,⟨some 53,.P (.mov (.t 13)),(some (51,true))⟩,⟨some 54,.P (.bin .eql (.t 52) (.t 53)),(some (51,true))⟩,⟨some 55,.P (.pick (.t 51) (.t 54) (.c (.bool false))),none⟩,qv 56 55,⟨some 57,.R (.load 2 true (.t 3)),(some (56,true))⟩,⟨some 58,.P (.mov (.t 2)),(some (56,true))⟩,⟨some 59,.C (.c (.func (.func 21) [] [])) [(.t 57),(.t 58)],(some (56,true))⟩,⟨some 60,.R (.load 2 true (.t 7)),(some (56,true))⟩,⟨some 61,.P (.mov (.t 2)),(some (56,true))⟩,⟨some 62,.C (.c (.func (.func 22) [] [])) [(.t 60),(.t 61)],(some (56,true))⟩,⟨some 63,.P (.bin .eql (.t 59) (.t 62)),(some (56,true))⟩,⟨some 64,.P (.pick (.t 56) (.t 63) (.c (.bool false))),none⟩,qv 65 64,⟨some 66,.R (.load 2 true (.t 3)),(some (65,true))⟩,⟨some 67,.C (.c (.func (.func 23) [] [])) [(.t 66)],(some (65,true))⟩,⟨some 68,.R (.load 2 true (.t 7)),(some (65,true))⟩,⟨some 69,.C (.c (.func (.func 24) [] [])) [(.t 68)],(some (65,true))⟩,⟨some 70,.P (.bin .eql (.t 67) (.t 69)),(some (65,true))⟩,⟨some 71,.P (.pick (.t 65) (.t 70) (.c (.bool false))),none⟩,qv 72 71,⟨some 73,.R (.load 2 true (.t 3)),(some (72,true))⟩,⟨some 74,.C (.c (.func (.func 31) [] [])) [(.t 73)],(some (72,true))⟩,⟨some 75,.R (.load 2 true (.t 7)),(some (72,true))⟩,⟨some 76,.C (.c (.func (.func 32) [] [])) [(.t 75)],(some (72,true))⟩,⟨some 77,.C (.c (.func (.func 30) [] [])) [(.t 74),(.t 76)],(some (72,true))⟩,⟨some 78,.P (.pick (.t 72) (.t 77) (.c (.bool false))),none⟩,qv 6 78] [[],[],[],[],[],[],[],[],[],[],[],[],[],[],[],[],[],[],[],[16],[16,19],[16,19],[16,19],[16,19],[16,19],[16,19],[16,19,24],[16,19,24,26],[16,19,24,26],[16,19,24,26],[16,19,24,26],[16,19,24,26],[16,19,24,26],[16,19,24,26,31],[16,19,24,26,31,33],[16,19,24,26,31,33,34],[16,19,24,26,31,33,34]] [[],[],[],[],[],[],[],[],[],[],[],[],[],[],[],[],[],[],[],[],[],[],[],[],[],[],[],[],[],[],[],[],[],[],[],[],[]] [0,1,2,3,4,5,6,7,8,9,10,11,12,13,14,15,16,17,18,19,20,21,22,23,24,25,26,27,28,29,30,31,32,33,34,35,36]) .ret))))))))))) (E [(.tmp 6)] R .mk) .mk (mat 79 (sArgs 0 args)) m) (hl:Nat.ble args.length 79=true:=by rfl):ACalls Tryd.prog 4 args m R:=walk mix (by kernel_rfl) (Nat.le_of_ble_eq_true hl) h
theorem w5 {args m R} (h:W Tryd.prog (.seq (.reg [⟨some 2,.A (.box 26 (.t 0)),none⟩,⟨some 3,.A (.box 26 (.t 1)),none⟩,qb 4 false]) (.kill [2,3] (.seq (.seq (.reg [qc 8 11 [],⟨some 9,.P (.un .not (.t 8)),none⟩,qv 10 9,⟨some 11,.R (.load 2 true (.t 2)),(some (10,false))⟩,⟨some 12,.C (.c (.func (.func 20) [] [])) [(.t 11)],(some (10,false))⟩,⟨some 13,.P (.un .not (.t 12)),(some (10,false))⟩,⟨some 14,.P (.pick (.t 10) (.c (.bool true)) (.t 13)),none⟩,qv 15 14,⟨some 16,.R (.load 2 true (.t 3)),(some (15,false))⟩,⟨some 17,.C (.c (.func (.func 20) [] [])) [(.t 16)],(some (15,false))⟩,⟨some 18,.P (.un .not (.t 17)),(some (15,false))⟩,⟨some 19,.P (.pick (.t 15) (.c (.bool true)) (.t 18)),none⟩]) (.kill [2,3,19] (.cond (.t 19) (.seq (.reg [qc 20 11 [],qv 4 20]) .ret) .skip))) (.kill [2,3] (.seq (.draw false [⟨some 21,.R (.load 2 true (.t 2)),none⟩,qc 22 27 [(.t 21)],⟨some 23,.R (.load 2 true (.t 3)),none⟩,qc 24 27 [(.t 23)],⟨some 5,.A (.alloc 32 [(.int .i64 0),.nilslice]),none⟩,⟨some 6,.A (.alloc 32 [(.int .i64 0),.nilslice]),none⟩,⟨none,.W (.store 2 (.t 5) (.t 22)),none⟩,⟨none,.W (.store 2 (.t 6) (.t 24)),none⟩] [[],[],[],[1],[],[],[1,3,4,5],[1,3,4,5]] [[],[],[],[],[],[],[],[]] [0,1,2,3,4,5,6,7]) (.kill [2,3,5,6] (.seq (.reg [⟨some 25,.R (.load 2 true (.t 2)),none⟩,⟨some 26,.R (.load 2 true (.t 3)),none⟩,qc 27 33 [(.t 25),(.t 26)],qv 7 27]) (.kill [2,3,5,6,7] (.seq (.draw false [qv 28 7,⟨some 29,.R (.load 2 true (.t 5)),none⟩,⟨some 30,.R (.load 2 true (.t 6)),none⟩,qc 31 34 [(.t 29),(.t 30)],⟨some 32,.P (.eqB false (.t 28) (.t 31)),none⟩,qv 33 32,⟨some 34,.P (.mov (.t 7)),(some (33,true))⟩,⟨some 35,.R (.load 2 true (.t 3)),(some (33,true))⟩,⟨some 36,.R (.load 2 true (.t 2)),(some (33,true))⟩,⟨some 37,.C (.c (.func (.func 33) [] [])) [(.t 35),(.t 36)],(some (33,true))⟩,⟨some 38,.P (.eqB false (.t 34) (.t 37)),(some (33,true))⟩,⟨some 39,.P (.pick (.t 33) (.t 38) (.c (.bool false))),none⟩,qv 40 39,⟨some 41,.R (.load 2 true (.t 2)),(some (40,true))⟩,⟨some 42,.R (.load 2 true (.t 3)),(some (40,true))⟩,⟨some 43,.C (.c (.func (.func 35) [] [])) [(.t 41),(.t 42)],(some (40,true))⟩,⟨some 44,.R (.load 2 true (.t 5)),(some (40,true))⟩,⟨some 45,.R (.load 2 true (.t 6)),(some (40,true))⟩,⟨some 46,.C (.c (.func (.func 36) [] [])) [(.t 44),(.t 45)],(some (40,true))⟩,⟨some 47,.P (.eqB false (.t 43) (.t 46)),(some (40,true))⟩,⟨some 48,.P (.pick (.t 40) (.t 47) (.c (.bool false))),none⟩,qv 49 48,⟨some 50,.P (.mov (.t 7)),(some (49,true))⟩,⟨some 51,.P (.un .not (.t 50)),(some (49,true))⟩,⟨some 52,.P (.mov (.t 51)),(some (49,true))⟩,⟨some 53,.R (.load 2 true (.t 2)),(some (52,false))⟩,⟨some 54,.C (.c (.func (.func 23) [] [])) [(.t 53)],(some (52,false))⟩,⟨some 55,.P (.bin .eql (.t 54) (qz 0)),(some (52,false))⟩,⟨some 56,.P (.pick (.t 52) (.c (.bool true)) (.t 55)),(some (49,true))⟩,⟨some 57,.P (.mov (.t 56)),(some (49,true))⟩,⟨some 58,.R (.load 2 true (.t 2)),(some (57,false))⟩,⟨some 59,.R (.load 2 true (.t 3)),(some (57,false))⟩,⟨some 60,.C (.c (.func (.func 35) [] [])) [(.t 58),(.t 59)],(some (57,false))⟩,⟨some 61,.P (.pick (.t 57) (.c (.bool true)) (.t 60)),(some (49,true))⟩,⟨some 62,.P (.pick (.t 49) (.t 61) (.c (.bool false))),none⟩,qv 63 62,⟨some 64,.R (.load 2 true (.t 2)),(some (63,true))⟩,⟨some 65,.R (.load 2 true (.t 2)),(some (63,true))⟩,⟨some 66,.C (.c (.func (.func 33) [] [])) [(.t 64),(.t 65)],(some (63,true))⟩,⟨some 67,.R (.load 2 true (.t 2)),(some (63,true))⟩,⟨some 68,.C (.c (.func (.func 21) [] [])) [(.t 67),(qz 2147483648)],(some (63,true))⟩,⟨some 69,.P (.bin .eql (.t 68) (qz 0)),(some (63,true))⟩,⟨some 70,.P (.eqB false (.t 66) (.t 69)),(some (63,true))⟩,⟨some 71,.P (.pick (.t 63) (.t 70) (.c (.bool false))),none⟩,qv 4 71] [[],[],[],[],[3],[3],[3],[3],[3],[3],[3,9],[3,9],[3,9],[3,9],[3,9],[3,9],[3,9],[3,9],[3,9,15],[3,9,15,18],[3,9,15,18],[3,9,15,18],[3,9,15,18],[3,9,15,18],[3,9,15,18],[3,9,15,18],[3,9,15,18],[3,9,15,18,26],[3,9,15,18,26],[3,9,15,18,26],[3,9,15,18,26],[3,9,15,18,26],[3,9,15,18,26],[3,9,15,18,26,32],[3,9,15,18,26,32],[3,9,15,18,26,32],[3,9,15,18,26,32],[3,9,15,18,26,32],[3,9,15,18,26,32],[3,9,15,18,26,32],[3,9,15,18,26,32,38],[3,9,15,18,26,32,38,40],[3,9,15,18,26,32,38,40],[3,9,15,18,26,32,38,40],[3,9,15,18,26,32,38,40]] [[],[],[],[],[],[],[],[],[],[],[],[],[],[],[],[],[],[],[],[],[],[],[],[],[],[],[],[],[],[],[],[],[],[],[],[],[],[],[],[],[],[],[],[],[]] [0,1,2,3,4,5,6,7,8,9,10,11,12,13,14,15,16,17,18,19,20,21,22,23,24,25,26,27,28,29,30,31,32,33,34,35,36,37,38,39,40,41,42,43,44]) .ret))))))))) (E [(.tmp 4)] R .mk) .mk (mat 72 (sArgs 0 args)) m) (hl:Nat.ble args.length 72=true:=by rfl):ACalls Tryd.prog 5 args m R:=walk mix (by kernel_rfl) (Nat.le_of_ble_eq_true hl) h
theorem w6 {args m R} (h:W Tryd.prog (.seq (.reg [qb 4 false]) (.kill [0,1] (.seq (.seq (.reg [qc 9 11 [],⟨some 10,.P (.un .not (.t 9)),none⟩,qv 11 10,⟨some 12,.P (.mov (.t 1)),(some (11,false))⟩,⟨some 13,.P (.len (.t 12)),(some (11,false))⟩,⟨some 14,.P (.bin .gtr (.t 13) (qz 5)),(some (11,false))⟩,⟨some 15,.P (.pick (.t 11) (.c (.bool true)) (.t 14)),none⟩]) (.kill [0,1,15] (.cond (.t 15) (.seq (.reg [qc 16 11 [],qv 4 16]) .ret) .skip))) (.kill [0,1] (.seq (.reg [qv 18 0,qv 19 1,qc 20 37 [(.t 18),(.t 19)],qv 17 20,qx 21 17 0,qx 22 17 1,⟨some 5,.A (.alloc 26 [(.int .i64 0),.nilslice]),none⟩,⟨none,.W (.store 2 (.t 5) (.t 21)),none⟩,qv 6 22]) (.kill [0,1,5,6] (.seq (.reg [qv 24 0,qv 25 1,qc 26 14 [(.t 25)],qc 27 38 [(.t 24),(.t 26)],qv 23 27,qx 28 23 0,qx 29 23 1,⟨some 7,.A (.alloc 32 [(.int .i64 0),.nilslice]),none⟩,⟨none,.W (.store 2 (.t 7) (.t 28)),none⟩,qv 8 29]) (.kill [5,6,7,8] (.seq (.reg [qv 30 6,qv 31 8,qo 32 .eql 30 31,qv 33 32,⟨some 34,.R (.load 2 true (.t 5)),(some (33,true))⟩,⟨some 35,.R (.load 2 true (.t 7)),(some (33,true))⟩,⟨some 36,.C (.c (.func (.func 15) [] [])) [(.t 34),(.t 35)],(some (33,true))⟩,⟨some 37,.P (.pick (.t 33) (.t 36) (.c (.bool false))),none⟩,qv 4 37]) .ret))))))))) (E [(.tmp 4)] R .mk) .mk (mat 38 (sArgs 0 args)) m) (hl:Nat.ble args.length 38=true:=by rfl):ACalls Tryd.prog 6 args m R:=walk mix (by kernel_rfl) (Nat.le_of_ble_eq_true hl) h
theorem w11 {args m R} (h:W Tryd.prog (.seq (.reg [qb 0 false]) (.kill [] (.seq (.reg [⟨some 9,.P (.build [(.int .i64 0),(.int .i64 0)] [(0,(1,(qz 1))),(1,(1,(qz 2)))]),none⟩,⟨some 10,.P (.build [(.int .i64 0),(.int .i64 0)] [(0,(1,(qz 0))),(1,(1,(qz 2)))]),none⟩,⟨some 11,.A (.bslice 83 2 [(.int .i64 0),(.int .i64 0)] [(0,(2,(.t 9))),(2,(2,(.t 10)))]),none⟩,qc 12 12 [(.t 11)],qv 8 12,qx 13 8 0,qx 14 8 1,⟨some 1,.A (.alloc 26 [(.int .i64 0),.nilslice]),none⟩,⟨none,.W (.store 2 (.t 1) (.t 13)),none⟩,qv 2 14]) (.kill [1,2] (.seq (.reg [⟨some 16,.R (.load 2 true (.t 1)),none⟩,⟨some 17,.A (.bslice 2 2 [(.int .i64 0)] [(0,(1,(qz 2))),(1,(1,(qz 1)))]),none⟩,qc 18 28 [(.t 16),(.t 17)],qv 15 18,qx 19 15 0,qx 20 15 1,qx 21 15 2,qv 3 19,qv 4 20,qv 5 21]) (.kill [1,2,3,5] (.seq (.reg [⟨some 23,.R (.load 2 true (.t 1)),none⟩,qc 24 40 [(.t 23),(qz 0),(qz 2)],qv 22 24,qx 25 22 0,qx 26 22 1,⟨some 6,.A (.alloc 26 [(.int .i64 0),.nilslice]),none⟩,⟨none,.W (.store 2 (.t 6) (.t 25)),none⟩,qv 7 26]) (.kill [1,2,3,5,6,7] (.seq (.reg [qv 27 2,qk 28 .eql 27 0,qv 29 28,⟨some 30,.R (.load 2 true (.t 1)),(some (29,true))⟩,⟨some 31,.C (.c (.func (.func 23) [] [])) [(.t 30)],(some (29,true))⟩,⟨some 32,.P (.bin .eql (.t 31) (qz 6)),(some (29,true))⟩,⟨some 33,.P (.pick (.t 29) (.t 32) (.c (.bool false))),none⟩,qv 34 33,⟨some 35,.P (.mov (.t 5)),(some (34,true))⟩,⟨some 36,.P (.bin .eql (.t 35) (qz 0)),(some (34,true))⟩,⟨some 37,.P (.pick (.t 34) (.t 36) (.c (.bool false))),none⟩,qv 38 37,⟨some 39,.P (.mov (.t 3)),(some (38,true))⟩,⟨some 40,.P (.bin .eql (.t 39) (qz 4)),(some (38,true))⟩,⟨some 41,.P (.pick (.t 38) (.t 40) (.c (.bool false))),none⟩,qv 42 41,⟨some 43,.P (.mov (.t 7)),(some (42,true))⟩,⟨some 44,.P (.bin .eql (.t 43) (qz 0)),(some (42,true))⟩,⟨some 45,.P (.pick (.t 42) (.t 44) (.c (.bool false))),none⟩,qv 46 45,⟨some 47,.P (.faddr 0 (.t 6)),(some (46,true))⟩,⟨some 48,.R (.load 1 false (.t 47)),(some (46,true))⟩,⟨some 49,.P (.bin .eql (.t 48) (qz 3)),(some (46,true))⟩,⟨some 50,.P (.pick (.t 46) (.t 49) (.c (.bool false))),none⟩,qv 51 50,⟨some 52,.R (.load 2 true (.t 6)),(some (51,true))⟩,⟨some 53,.C (.c (.func (.func 25) [] [])) [(.t 52)],(some (51,true))⟩,⟨some 54,.C (.c (.func (.func 16) [] [])) [(.t 53)],(some (51,true))⟩,⟨some 55,.P (.bin .eql (.t 54) (.c (.str ⟨#[91,48,58,50,93]⟩))),(some (51,true))⟩,⟨some 56,.P (.pick (.t 51) (.t 55) (.c (.bool false))),none⟩,qv 57 56,⟨some 58,.R (.load 2 true (.t 6)),(some (57,true))⟩,⟨some 59,.C (.c (.func (.func 25) [] [])) [(.t 58)],(some (57,true))⟩,⟨some 60,.P (.build [(.int .i64 0),(.int .i64 0)] [(0,(1,(qz 0))),(1,(1,(qz 2)))]),(some (57,true))⟩,⟨some 61,.A (.bslice 83 1 [(.int .i64 0),(.int .i64 0)] [(0,(2,(.t 60)))]),(some (57,true))⟩,⟨some 62,.C (.c (.func (.func 18) [] [])) [(.t 59),(.t 61)],(some (57,true))⟩,⟨some 63,.P (.pick (.t 57) (.t 62) (.c (.bool false))),none⟩,qv 64 63,⟨some 65,.R (.load 2 true (.t 6)),(some (64,true))⟩,⟨some 66,.R (.load 2 true (.t 6)),(some (64,true))⟩,⟨some 67,.C (.c (.func (.func 33) [] [])) [(.t 65),(.t 66)],(some (64,true))⟩,⟨some 68,.P (.pick (.t 64) (.t 67) (.c (.bool false))),none⟩,qv 69 68,⟨some 70,.R (.load 2 true (.t 6)),(some (69,true))⟩,⟨some 71,.R (.load 2 true (.t 1)),(some (69,true))⟩,⟨some 72,.C (.c (.func (.func 35) [] [])) [(.t 70),(.t 71)],(some (69,true))⟩,⟨some 73,.P (.pick (.t 69) (.t 72) (.c (.bool false))),none⟩,qv 0 73]) .ret))))))))) (E [(.tmp 0)] R .mk) .mk (mat 74 (sArgs 0 args)) m) (hl:Nat.ble args.length 74=true:=by rfl):ACalls Tryd.prog 11 args m R:=walk mix (by kernel_rfl) (Nat.le_of_ble_eq_true hl) h
theorem w12 {args m R} (h:W Tryd.prog (.seq (.reg [⟨some 2,.A (.alloc 26 [(.int .i64 0),.nilslice]),none⟩,qi 3 0]) (.kill [0,2] (.seq (.seq (.reg [qv 5 0,qc 6 46 [(.t 5)],qv 4 6]) (.kill [0,2,4] (.seq (.reg [qv 7 4,qk 8 .neq 7 0]) (.kill [0,2,4,8] (.cond (.t 8) (.seq (.reg [⟨some 9,.P (.build [(.int .i64 0),.nilslice] []),none⟩,qv 10 4,⟨none,.W (.store 2 (.t 2) (.t 9)),none⟩,qv 3 10]) .ret) .skip))))) (.kill [0,2] (.seq (.reg [qv 11 0,qc 12 47 [(.t 11)],⟨none,.W (.store 2 (.t 2) (.t 12)),none⟩,qi 3 0]) .ret))))) (E [(.cell 2 2 true),(.tmp 3)] R .mk) .mk (mat 13 (sArgs 0 args)) m) (hl:Nat.ble args.length 13=true:=by rfl):ACalls Tryd.prog 12 args m R:=walk mix (by kernel_rfl) (Nat.le_of_ble_eq_true hl) h
theorem w13 {args m R} (h:W Tryd.prog (.seq (.reg [⟨some 2,.A (.alloc 32 [(.int .i64 0),.nilslice]),none⟩,qi 3 0]) (.kill [0,2] (.seq (.seq (.reg [qv 9 0,qc 10 48 [(.t 9)],qv 4 10]) (.kill [0,2,4] (.seq (.reg [qv 11 4,qk 12 .neq 11 0]) (.kill [0,2,4,12] (.cond (.t 12) (.seq (.reg [⟨some 13,.P (.build [(.int .i64 0),.nilslice] []),none⟩,qv 14 4,⟨none,.W (.store 2 (.t 2) (.t 13)),none⟩,qv 3 14]) .ret) .skip))))) (.kill [0,2] (.seq (.reg [⟨some 5,.A (.alloc 32 [(.int .i64 0),.nilslice]),none⟩]) (.seq (.seq (.reg [qi 6 0]) (.block 0 (.kill [0,2,5,6] (.loop (.fin [0,2,5,6] (.seq (.seq (.reg [qv 15 6,qv 16 0,qn 17 16,qo 18 .lss 15 17]) (.kill [0,2,5,6,18] (.cond (.t 18) .skip (.exit 0)))) (.kill [0,2,5,6] (.seq (.block 1 (.seq (.reg [qi 7 1]) (.seq (.seq (.reg [qv 21 6,qk 22 .add 21 1,qv 8 22]) (.kill [0,2,5,6,7,8] (.block 2 (.kill [0,2,5,6,7,8] (.loop (.fin [0,2,5,6,7,8] (.seq (.seq (.reg [qv 23 8,qv 24 0,qn 25 24,qo 26 .lss 23 25]) (.kill [0,2,5,6,7,8,26] (.cond (.t 26) .skip (.exit 2)))) (.kill [0,2,5,6,7,8] (.seq (.block 3 (.draw true [qv 29 7,qv 30 0,qv 31 8,qa 32 2 30 31,⟨some 33,.P (.faddr 0 (.t 32)),none⟩,ql 34 33,qv 35 0,qv 36 8,qa 37 2 35 36,⟨some 38,.P (.faddr 1 (.t 37)),none⟩,ql 39 38,qc 40 49 [(.t 34),(.t 39)],qo 41 .mul 29 40,qv 7 41] [[],[],[],[],[],[],[],[],[],[],[],[],[11],[11]] [[],[],[],[],[],[],[],[],[],[],[],[],[],[]] [0,1,2,3,4,5,6,7,8,9,10,11,12,13])) (.kill [0,2,5,6,7,8] (.reg [qv 27 8,qk 28 .add 27 1,qv 8 28]))))))))))) (.kill [0,2,5,6,7] (.draw true [⟨some 42,.P (.faddr 1 (.t 5)),none⟩,ql 43 42,qv 44 0,qv 45 6,qa 46 2 44 45,⟨some 47,.P (.faddr 0 (.t 46)),none⟩,ql 48 47,qv 49 0,qv 50 6,qa 51 2 49 50,⟨some 52,.P (.faddr 1 (.t 51)),none⟩,ql 53 52,qv 54 7,⟨some 55,.P (.build [(.int .i64 0),(.int .i64 0),(.int .i64 0)] [(0,(1,(.t 48))),(1,(1,(.t 53))),(2,(1,(.t 54)))]),none⟩,⟨some 56,.A (.bslice 90 1 [(.int .i64 0),(.int .i64 0),(.int .i64 0)] [(0,(3,(.t 55)))]),none⟩,⟨some 57,.W (.append 3 24 90 false (.t 43) (.t 56)),none⟩,⟨some 58,.P (.faddr 1 (.t 5)),none⟩,⟨none,.W (.store 1 (.t 58) (.t 57)),none⟩] [[],[],[],[],[],[],[],[],[],[],[],[],[],[],[],[14],[14],[14]] [[],[],[],[],[],[],[],[],[],[],[],[],[],[],[],[],[],[]] [0,1,2,3,4,5,6,7,8,9,10,11,12,13,14,15,16,17]))))) (.kill [0,2,5,6] (.reg [qv 19 6,qk 20 .add 19 1,qv 6 20])))))))))) (.kill [2,5] (.seq (.reg [⟨some 59,.R (.load 2 true (.t 5)),none⟩,⟨none,.W (.store 2 (.t 2) (.t 59)),none⟩,qi 3 0]) .ret)))))))) (E [(.cell 2 2 true),(.tmp 3)] R .mk) .mk (mat 60 (sArgs 0 args)) m) (hl:Nat.ble args.length 60=true:=by rfl):ACalls Tryd.prog 13 args m R:=walk mix (by kernel_rfl) (Nat.le_of_ble_eq_true hl) h
abbrev h13_0 (t0 t2 t5 t6:AVal):AFrame:=mat 60 [(0,t0),(2,t2),(5,t5),(6,t6)]
abbrev h13_1 (t0 t2 t5 t6 t7 t8:AVal):AFrame:=mat 60 [(0,t0),(2,t2),(5,t5),(6,t6),(7,t7),(8,t8)]
theorem w14 {args m R} (h:W Tryd.prog (.seq (.reg [⟨some 2,.P (.mov (.c .nilslice)),none⟩]) (.kill [0] (.seq (.reg [⟨some 3,.P (.mov (.c .nilslice)),none⟩]) (.seq (.seq (.reg [qi 4 0]) (.block 0 (.kill [0,3,4] (.loop (.fin [0,3,4] (.seq (.seq (.reg [qv 5 4,qv 6 0,qn 7 6,qo 8 .lss 5 7]) (.kill [0,3,4,8] (.cond (.t 8) .skip (.exit 0)))) (.kill [0,3,4] (.seq (.block 1 (.draw true [qv 11 3,qv 12 0,qv 13 4,qa 14 2 12 13,⟨some 15,.P (.faddr 0 (.t 14)),none⟩,ql 16 15,qv 17 0,qv 18 4,qa 19 2 17 18,⟨some 20,.P (.faddr 1 (.t 19)),none⟩,ql 21 20,⟨some 22,.P (.build [(.int .i64 0),(.int .i64 0)] [(0,(1,(.t 16))),(1,(1,(.t 21)))]),none⟩,⟨some 23,.A (.bslice 88 1 [(.int .i64 0),(.int .i64 0)] [(0,(2,(.t 22)))]),none⟩,⟨some 24,.W (.append 2 16 88 false (.t 11) (.t 23)),none⟩,qv 3 24] [[],[],[],[],[],[],[],[],[],[],[],[],[],[12],[12]] [[],[],[],[],[],[],[],[],[],[],[],[],[],[],[]] [0,1,2,3,4,5,6,7,8,9,10,11,12,13,14])) (.kill [0,3,4] (.reg [qv 9 4,qk 10 .add 9 1,qv 4 10])))))))))) (.kill [3] (.seq (.reg [qv 25 3,qv 2 25]) .ret)))))) (E [(.tmp 2)] R .mk) .mk (mat 26 (sArgs 0 args)) m) (hl:Nat.ble args.length 26=true:=by rfl):ACalls Tryd.prog 14 args m R:=walk mix (by kernel_rfl) (Nat.le_of_ble_eq_true hl) h
abbrev h14_0 (t0 t3 t4:AVal):AFrame:=mat 26 [(0,t0),(3,t3),(4,t4)]
theorem w15 {args m R} (h:W Tryd.prog (.seq (.reg [⟨some 2,.A (.box 26 (.t 0)),none⟩,⟨some 3,.A (.box 32 (.t 1)),none⟩,qb 4 false]) (.kill [2,3] (.seq (.seq (.reg [⟨some 6,.P (.faddr 0 (.t 2)),none⟩,ql 7 6,⟨some 8,.P (.faddr 0 (.t 3)),none⟩,ql 9 8,qo 10 .neq 7 9,qv 11 10,⟨some 12,.P (.faddr 1 (.t 2)),(some (11,false))⟩,⟨some 13,.R (.load 1 false (.t 12)),(some (11,false))⟩,⟨some 14,.P (.len (.t 13)),(some (11,false))⟩,⟨some 15,.P (.faddr 1 (.t 3)),(some (11,false))⟩,⟨some 16,.R (.load 1 false (.t 15)),(some (11,false))⟩,⟨some 17,.P (.len (.t 16)),(some (11,false))⟩,⟨some 18,.P (.bin .neq (.t 14) (.t 17)),(some (11,false))⟩,⟨some 19,.P (.pick (.t 11) (.c (.bool true)) (.t 18)),none⟩]) (.kill [2,3,19] (.cond (.t 19) (.seq (.reg [qb 4 false]) .ret) .skip))) (.kill [2,3] (.seq (.seq (.reg [qi 5 0]) (.block 0 (.kill [2,3,5] (.loop (.fin [2,3,5] (.seq (.seq (.reg [qv 20 5,⟨some 21,.P (.faddr 1 (.t 2)),none⟩,ql 22 21,qn 23 22,qo 24 .lss 20 23]) (.kill [2,3,5,24] (.cond (.t 24) .skip (.exit 0)))) (.kill [2,3,5] (.seq (.block 1 (.seq (.draw true [⟨some 27,.P (.faddr 1 (.t 2)),none⟩,ql 28 27,qv 29 5,qa 30 3 28 29,⟨some 31,.P (.faddr 0 (.t 30)),none⟩,⟨some 32,.P (.faddr 0 (.t 31)),none⟩,ql 33 32,⟨some 34,.P (.faddr 1 (.t 3)),none⟩,ql 35 34,qv 36 5,qa 37 3 35 36,⟨some 38,.P (.faddr 0 (.t 37)),none⟩,ql 39 38,qo 40 .neq 33 39,qv 41 40,⟨some 42,.P (.faddr 1 (.t 2)),(some (41,false))⟩,⟨some 43,.R (.load 1 false (.t 42)),(some (41,false))⟩,⟨some 44,.P (.mov (.t 5)),(some (41,false))⟩,⟨some 45,.P (.iaddr 3 (.t 43) (.t 44)),(some (41,false))⟩,⟨some 46,.P (.faddr 0 (.t 45)),(some (41,false))⟩,⟨some 47,.P (.faddr 1 (.t 46)),(some (41,false))⟩,⟨some 48,.R (.load 1 false (.t 47)),(some (41,false))⟩,⟨some 49,.P (.faddr 1 (.t 3)),(some (41,false))⟩,⟨some 50,.R (.load 1 false (.t 49)),(some (41,false))⟩,⟨some 51,.P (.mov (.t 5)),(some (41,false))⟩,⟨some 52,.P (.iaddr 3 (.t 50) (.t 51)),(some (41,false))⟩,⟨some 53,.P (.faddr 1 (.t 52)),(some (41,false))⟩,⟨some 54,.R (.load 1 false (.t 53)),(some (41,false))⟩,⟨some 55,.P (.bin .neq (.t 48) (.t 54)),(some (41,false))⟩,⟨some 56,.P (.pick (.t 41) (.c (.bool true)) (.t 55)),none⟩,qv 57 56,⟨some 58,.P (.faddr 1 (.t 2)),(some (57,false))⟩,⟨some 59,.R (.load 1 false (.t 58)),(some (57,false))⟩,⟨some 60,.P (.mov (.t 5)),(some (57,false))⟩,⟨some 61,.P (.iaddr 3 (.t 59) (.t 60)),(some (57,false))⟩,⟨some 62,.P (.faddr 2 (.t 61)),(some (57,false))⟩,⟨some 63,.R (.load 1 false (.t 62)),(some (57,false))⟩,⟨some 64,.P (.faddr 1 (.t 3)),(some (57,false))⟩,⟨some 65,.R (.load 1 false (.t 64)),(some (57,false))⟩,⟨some 66,.P (.mov (.t 5)),(some (57,false))⟩,⟨some 67,.P (.iaddr 3 (.t 65) (.t 66)),(some (57,false))⟩,⟨some 68,.P (.faddr 2 (.t 67)),(some (57,false))⟩,⟨some 69,.R (.load 1 false (.t 68)),(some (57,false))⟩,⟨some 70,.P (.bin .neq (.t 63) (.t 69)),(some (57,false))⟩,⟨some 71,.P (.pick (.t 57) (.c (.bool true)) (.t 70)),none⟩] [[],[],[],[],[],[],[],[],[],[],[],[],[],[],[],[],[],[],[],[],[],[],[],[],[],[],[],[],[],[],[],[],[],[],[],[],[],[],[],[],[],[],[],[],[]] [[],[],[],[],[],[],[],[],[],[],[],[],[],[],[],[],[],[],[],[],[],[],[],[],[],[],[],[],[],[],[],[],[],[],[],[],[],[],[],[],[],[],[],[],[]] [0,1,2,3,4,5,6,7,8,9,10,11,12,13,14,15,16,17,18,19,20,21,22,23,24,25,26,27,28,29,30,31,32,33,34,35,36,37,38,39,40,41,42,43,44]) (.kill [2,3,5,71] (.cond (.t 71) (.seq (.reg [qb 4 false]) .ret) .skip)))) (.kill [2,3,5] (.reg [qv 25 5,qk 26 .add 25 1,qv 5 26])))))))))) (.kill [] (.seq (.reg [qb 4 true]) .ret))))))) (E [(.tmp 4)] R .mk) .mk (mat 72 (sArgs 0 args)) m) (hl:Nat.ble args.length 72=true:=by rfl):ACalls Tryd.prog 15 args m R:=walk mix (by kernel_rfl) (Nat.le_of_ble_eq_true hl) h
abbrev h15_0 (t2 t3 t5:AVal):AFrame:=mat 72 [(2,t2),(3,t3),(5,t5)]
theorem w16 {args m R} (h:W Tryd.prog (.seq (.reg [⟨some 2,.P (.mov (.c (.str ⟨#[]⟩))),none⟩]) (.kill [0] (.seq (.reg [⟨some 3,.P (.mov (.c .nilslice)),none⟩]) (.seq (.seq (.reg [qv 6 0,qn 7 6,qi 8 0]) (.kill [3,6,7,8] (.block 0 (.kill [3,6,7,8] (.loop (.fin [3,6,7,8] (.seq (.reg [qo 9 .lss 8 7]) (.seq (.cond (.t 9) .skip (.exit 0)) (.kill [3,6,7,8] (.seq (.block 1 (.seq (.reg [qa 10 2 6 8,⟨some 11,.R (.load 2 true (.t 10)),none⟩,⟨some 5,.A (.alloc 83 [(.int .i64 0),(.int .i64 0)]),none⟩,⟨none,.W (.store 2 (.t 5) (.t 11)),none⟩]) (.kill [3,5,6,7,8] (.draw false [qv 12 3,⟨some 13,.P (.faddr 0 (.t 5)),none⟩,ql 14 13,qc 15 50 [(.t 14),(qz 10)],⟨some 16,.P (.bin .add (.t 15) (.c (.str ⟨#[58]⟩))),none⟩,⟨some 17,.P (.faddr 1 (.t 5)),none⟩,ql 18 17,qc 19 50 [(.t 18),(qz 10)],qo 20 .add 16 19,⟨some 21,.A (.bslice 9 1 [(.str ⟨#[]⟩)] [(0,(1,(.t 20)))]),none⟩,⟨some 22,.W (.append 1 16 9 false (.t 12) (.t 21)),none⟩,qv 3 22] [[],[],[],[],[3],[],[],[3],[3,7],[3,7],[3,7,9],[3,7,9]] [[],[],[],[],[],[],[],[],[],[],[],[]] [0,1,2,3,4,5,6,7,8,9,10,11])))) (.kill [3,6,7,8] (.reg [qk 23 .add 8 1,qv 8 23])))))))))))) (.kill [3] (.seq (.reg [qv 24 3,⟨some 25,.C (.c (.func (.func 51) [] [])) [(.t 24),(.c (.str ⟨#[44]⟩))],none⟩,⟨some 26,.P (.bin .add (.c (.str ⟨#[91]⟩)) (.t 25)),none⟩,⟨some 27,.P (.bin .add (.t 26) (.c (.str ⟨#[93]⟩))),none⟩,qv 2 27]) .ret)))))) (E [(.tmp 2)] R .mk) .mk (mat 28 (sArgs 0 args)) m) (hl:Nat.ble args.length 28=true:=by rfl):ACalls Tryd.prog 16 args m R:=walk mix (by kernel_rfl) (Nat.le_of_ble_eq_true hl) h
abbrev h16_0 (t3 t6 t7 t8:AVal):AFrame:=mat 28 [(3,t3),(6,t6),(7,t7),(8,t8)]
theorem w17 {args m R} (h:W Tryd.prog (.seq (.reg [⟨some 2,.P (.mov (.c (.str ⟨#[]⟩))),none⟩]) (.kill [0] (.seq (.reg [⟨some 3,.P (.mov (.c (.str ⟨#[91]⟩))),none⟩]) (.seq (.seq (.reg [qi 4 0]) (.block 0 (.kill [0,3,4] (.loop (.fin [0,3,4] (.seq (.seq (.reg [qv 5 4,qv 6 0,qn 7 6,qo 8 .lss 5 7]) (.kill [0,3,4,8] (.cond (.t 8) .skip (.exit 0)))) (.kill [0,3,4] (.seq (.block 1 (.seq (.seq (.reg [qv 11 4,qk 12 .gtr 11 0]) (.kill [0,3,4,12] (.cond (.t 12) (.reg [qv 13 3,⟨some 14,.P (.bin .add (.t 13) (.c (.str ⟨#[44]⟩))),none⟩,qv 3 14]) .skip))) (.kill [0,3,4] (.draw false [qv 15 3,qv 16 0,qv 17 4,qa 18 2 16 17,⟨some 19,.P (.faddr 0 (.t 18)),none⟩,ql 20 19,qc 21 52 [(.t 20)],⟨some 22,.P (.bin .add (.t 21) (.c (.str ⟨#[58]⟩))),none⟩,qv 23 0,qv 24 4,qa 25 2 23 24,⟨some 26,.P (.faddr 1 (.t 25)),none⟩,ql 27 26,qc 28 52 [(.t 27)],qo 29 .add 22 28,qo 30 .add 15 29,qv 3 30] [[],[],[],[],[],[],[],[6],[],[],[],[],[],[6],[6,13],[6,13],[6,13]] [[],[],[],[],[],[],[],[],[],[],[],[],[],[],[],[],[]] [0,1,2,3,4,5,6,7,8,9,10,11,12,13,14,15,16])))) (.kill [0,3,4] (.reg [qv 9 4,qk 10 .add 9 1,qv 4 10])))))))))) (.kill [3] (.seq (.reg [qv 31 3,⟨some 32,.P (.bin .add (.t 31) (.c (.str ⟨#[93]⟩))),none⟩,qv 2 32]) .ret)))))) (E [(.tmp 2)] R .mk) .mk (mat 33 (sArgs 0 args)) m) (hl:Nat.ble args.length 33=true:=by rfl):ACalls Tryd.prog 17 args m R:=walk mix (by kernel_rfl) (Nat.le_of_ble_eq_true hl) h
abbrev h17_0 (t0 t3 t4:AVal):AFrame:=mat 33 [(0,t0),(3,t3),(4,t4)]
theorem w18 {args m R} (h:W Tryd.prog (.seq (.reg [qb 4 false]) (.kill [0,1] (.seq (.reg [qv 5 0,qv 6 1,qc 7 53 [(.t 5),(.t 6)],qv 4 7]) .ret))) (E [(.tmp 4)] R .mk) .mk (mat 8 (sArgs 0 args)) m) (hl:Nat.ble args.length 8=true:=by rfl):ACalls Tryd.prog 18 args m R:=walk mix (by kernel_rfl) (Nat.le_of_ble_eq_true hl) h
theorem w19 {args m R} (h:W Tryd.prog (.seq (.reg [qb 4 false]) (.kill [0,1] (.seq (.seq (.reg [qv 6 0,qn 7 6,qv 8 1,qn 9 8,qo 10 .neq 7 9]) (.kill [0,1,10] (.cond (.t 10) (.seq (.reg [qb 4 false]) .ret) .skip))) (.kill [0,1] (.seq (.seq (.reg [qi 5 0]) (.block 0 (.kill [0,1,5] (.loop (.fin [0,1,5] (.seq (.seq (.reg [qv 11 5,qv 12 0,qn 13 12,qo 14 .lss 11 13]) (.kill [0,1,5,14] (.cond (.t 14) .skip (.exit 0)))) (.kill [0,1,5] (.seq (.block 1 (.seq (.draw true [qv 17 0,qv 18 5,qa 19 2 17 18,⟨some 20,.R (.load 2 true (.t 19)),none⟩,qv 21 1,qv 22 5,qa 23 2 21 22,⟨some 24,.R (.load 2 true (.t 23)),none⟩,⟨some 25,.P (.eqS true [false,false] (.t 20) (.t 24)),none⟩] [[],[],[],[],[],[],[],[],[]] [[],[],[],[],[],[],[],[],[]] [0,1,2,3,4,5,6,7,8]) (.kill [0,1,5,25] (.cond (.t 25) (.seq (.reg [qb 4 false]) .ret) .skip)))) (.kill [0,1,5] (.reg [qv 15 5,qk 16 .add 15 1,qv 5 16])))))))))) (.kill [] (.seq (.reg [qb 4 true]) .ret))))))) (E [(.tmp 4)] R .mk) .mk (mat 26 (sArgs 0 args)) m) (hl:Nat.ble args.length 26=true:=by rfl):ACalls Tryd.prog 19 args m R:=walk mix (by kernel_rfl) (Nat.le_of_ble_eq_true hl) h
abbrev h19_0 (t0 t1 t5:AVal):AFrame:=mat 26 [(0,t0),(1,t1),(5,t5)]
theorem w20 {args m R} (h:W Tryd.prog (.seq (.reg [⟨some 1,.A (.box 26 (.t 0)),none⟩,qb 2 false]) (.kill [1] (.seq (.seq (.reg [⟨some 7,.P (.faddr 1 (.t 1)),none⟩,ql 8 7,qn 9 8,qk 10 .gtr 9 5]) (.kill [1,10] (.cond (.t 10) (.seq (.reg [qb 2 false]) .ret) .skip))) (.kill [1] (.seq (.reg [qi 3 1]) (.seq (.seq (.reg [qi 4 0]) (.block 0 (.kill [1,3,4] (.loop (.fin [1,3,4] (.seq (.seq (.reg [qv 11 4,⟨some 12,.P (.faddr 1 (.t 1)),none⟩,ql 13 12,qn 14 13,qo 15 .lss 11 14]) (.kill [1,3,4,15] (.cond (.t 15) .skip (.exit 0)))) (.kill [1,3,4] (.seq (.block 1 (.seq (.draw true [⟨some 18,.P (.faddr 1 (.t 1)),none⟩,ql 19 18,qv 20 4,qa 21 3 19 20,⟨some 22,.P (.faddr 0 (.t 21)),none⟩,⟨some 23,.P (.faddr 0 (.t 22)),none⟩,ql 24 23,⟨some 25,.P (.faddr 1 (.t 1)),none⟩,ql 26 25,qv 27 4,qa 28 3 26 27,⟨some 29,.P (.faddr 0 (.t 28)),none⟩,⟨some 30,.P (.faddr 1 (.t 29)),none⟩,ql 31 30,qv 5 24,qv 6 31] [[],[],[],[],[],[],[],[],[],[],[],[],[],[],[],[]] [[],[],[],[],[],[],[],[],[],[],[],[],[],[],[],[]] [0,1,2,3,4,5,6,7,8,9,10,11,12,13,14,15]) (.kill [1,3,4,5,6] (.seq (.seq (.reg [qv 32 5,⟨some 33,.P (.bin .lss (.t 32) (.c (.int .i64 (-2147483648)))),none⟩,qv 34 33,⟨some 35,.P (.mov (.t 6)),(some (34,false))⟩,⟨some 36,.P (.bin .gtr (.t 35) (qz 2147483648)),(some (34,false))⟩,⟨some 37,.P (.pick (.t 34) (.c (.bool true)) (.t 36)),none⟩,qv 38 37,⟨some 39,.P (.mov (.t 5)),(some (38,false))⟩,⟨some 40,.P (.bin .gtr (.t 39) (qz 2147483648)),(some (38,false))⟩,⟨some 41,.P (.pick (.t 38) (.c (.bool true)) (.t 40)),none⟩,qv 42 41,⟨some 43,.P (.mov (.t 6)),(some (42,false))⟩,⟨some 44,.P (.bin .lss (.t 43) (.c (.int .i64 (-2147483648)))),(some (42,false))⟩,⟨some 45,.P (.pick (.t 42) (.c (.bool true)) (.t 44)),none⟩]) (.kill [1,3,4,5,6,45] (.cond (.t 45) (.seq (.reg [qb 2 true]) .ret) .skip))) (.kill [1,3,4,5,6] (.seq (.reg [qv 46 3,qv 47 5,qv 48 6,qc 49 49 [(.t 47),(.t 48)],⟨some 50,.P (.min (.t 49) (qz 201)),none⟩,qo 51 .mul 46 50,qv 3 51]) (.kill [1,3,4] (.seq (.reg [qv 52 3,qk 53 .gtr 52 200]) (.kill [1,3,4,53] (.cond (.t 53) (.seq (.reg [qb 2 false]) .ret) .skip)))))))))) (.kill [1,3,4] (.reg [qv 16 4,qk 17 .add 16 1,qv 4 17])))))))))) (.kill [] (.seq (.reg [qb 2 true]) .ret)))))))) (E [(.tmp 2)] R .mk) .mk (mat 54 (sArgs 0 args)) m) (hl:Nat.ble args.length 54=true:=by rfl):ACalls Tryd.prog 20 args m R:=walk mix (by kernel_rfl) (Nat.le_of_ble_eq_true hl) h
abbrev h20_0 (t1 t3 t4:AVal):AFrame:=mat 54 [(1,t1),(3,t3),(4,t4)]
end Go.Proofs.YtodhalcpnmddjaaDoor
namespace Go.Proofs.YtodhalcpnmddjaaDoor
open Go Ax
set_option maxRecDepth 100000
theorem take_eq_succ {α:Type} {xs ys:List α} {i:Nat} (h:i<xs.length) (h':i<ys.length):xs.take (i+1)=ys.take (i+1)↔xs.take i=ys.take i∧xs[i]=ys[i]:=by
 rw[take_snoc h,take_snoc h']
 constructor
 ·intro e
  have:=List.append_inj e (by simp;omega)
  exact ⟨this.1,by simpa using this.2⟩
 ·rintro ⟨e1,e2⟩
  rw[e1,e2]
theorem k63g (s t:AVal) (xs ys:List Int) (m:AMem) (hs:RInts m s xs) (ht:RInts m t ys) (hn:xs.length<2^62):ACalls Tryd.prog 63 [s,t] m fun v m'=>m<+:m'∧v= .bool (decide (xs=ys)):=by
 refine w63 ?_
 simp[hs.len,ht.len]
 by_cases hl:xs.length=ys.length
 rotate_left
 ·have:xs≠ys:=fun e=>hl (by rw[e])
  have hl': ¬((xs.length:Int)=(ys.length:Int)):=by omega
  simp[bneT hl',this]
 simp[hl,hs.len]
 refine W_loop (fun q a m'=> ∃k:Nat,k+q=ys.length∧a=h63_0 s t (.int .i64 ys.length) (.int .i64 k)∧m<+:m'∧xs.take k=ys.take k) ys.length ⟨0,by simp,by simp,List.prefix_refl _,by simp⟩ ?_
 rintro q a m1 ⟨k,hk,rfl,hm1,he⟩
 simp
 refine bbind_dec (fun h=>?_) fun h=>?_
 ·simp
  have h:k<ys.length:=by omega
  have h':k<xs.length:=by omega
  obtain ⟨b,o,p1,p2⟩:=(hs.mono hm1).at h'
  obtain ⟨b',o',p1',p2'⟩:=(ht.mono hm1).at h
  refine W_drawPR (by simp[maxDst]) rfl rfl ?_
  simp[p1,p2,p1',p2']
  intro m2 hm2
  have hsu:=take_eq_succ h' h
  by_cases hx:xs[k]=ys[k]
  ·have hw:IntKind.i64.wrap ((k:Int)+1)=(k:Int)+1:=wrap64 (by omega) (by omega)
   simp[hx,hw]
   exact ⟨q-1,by omega,k+1,by omega,by simp,hm1.trans hm2,hsu.2 ⟨he,hx⟩⟩
  ·have:xs≠ys:=fun e=>hx (by simp[e])
   simp[bneT hx,this,hm1.trans hm2]
 ·have:k=ys.length:=by omega
  subst this
  rw[List.take_length,←hl,List.take_length] at he
  simp[he,hm1]
theorem k53 (s t:AVal) (xs ys:List (Int×Int)) (m:AMem) (hs:SlF 2 bdC m s xs) (ht:SlF 2 bdC m t ys) (hn:xs.length<2^62):ACalls Tryd.prog 53 [s,t] m fun v m'=>m<+:m'∧v= .bool (decide (xs=ys)):=by
 refine w53 ?_
 simp[hs.len,ht.len]
 by_cases hl:xs.length=ys.length
 rotate_left
 ·have:xs≠ys:=fun e=>hl (by rw[e])
  have hl': ¬((xs.length:Int)=(ys.length:Int)):=by omega
  simp[bneT hl',this]
 simp[hl,hs.len]
 refine W_loop (fun q a m'=> ∃k:Nat,k+q=ys.length∧a=h53_0 s t (.int .i64 ys.length) (.int .i64 k)∧m<+:m'∧xs.take k=ys.take k) ys.length ⟨0,by simp,by simp,List.prefix_refl _,by simp⟩ ?_
 rintro q a m1 ⟨k,hk,rfl,hm1,he⟩
 simp
 refine bbind_dec (fun h=>?_) fun h=>?_
 ·simp
  have h:k<ys.length:=by omega
  have h':k<xs.length:=by omega
  obtain ⟨b,o,p1,_,p2⟩:=(hs.mono hm1).at h'
  obtain ⟨b',o',p1',_,p2'⟩:=(ht.mono hm1).at h
  refine W_drawPR (by simp[maxDst]) rfl rfl ?_
  have hsu:=take_eq_succ h' h
  have hne:xs[k]≠ys[k]→xs≠ys:=fun hx e=>hx (by simp[e])
  generalize xs[k]=x at*
  generalize ys[k]=y at*
  simp only[bdC] at p2 p2'
  simp[p1,p2,p1',p2',eqC]
  intro m2 hm2
  by_cases hx:x=y
  ·subst hx
   have hw:IntKind.i64.wrap ((k:Int)+1)=(k:Int)+1:=wrap64 (by omega) (by omega)
   simp[hw]
   exact ⟨q-1,by omega,k+1,by omega,by simp,hm1.trans hm2,hsu.2 ⟨he,rfl⟩⟩
  ·have hb:(!(x.1==y.1&&x.2==y.2))=true:=by
    rw[Bool.not_eq_true',Bool.and_eq_false_iff]
    by_cases h1:x.1=y.1
    ·right
     simpa using fun h2=>hx (Prod.ext h1 h2)
    ·left
     simpa using h1
   have hb2:((!x.1==y.1)||(!x.2==y.2))=true:=by
    cases h1:x.1==y.1<;>cases h2:x.2==y.2<;>simp_all
   simp[hb2,hne hx,hm1.trans hm2]
 ·have:k=ys.length:=by omega
  subst this
  rw[List.take_length,←hl,List.take_length] at he
  simp[he,hm1]
theorem k18 (s t:AVal) (xs ys:List (Int×Int)) (m:AMem) (hs:SlF 2 bdC m s xs) (ht:SlF 2 bdC m t ys) (hn:xs.length<2^62):ACalls Tryd.prog 18 [s,t] m fun v m'=>m<+:m'∧v= .bool (decide (xs=ys)):=by
 refine w18 ?_
 simp
 refine C_of (k53 s t xs ys m hs ht hn) ?_
 rintro _ m1 ⟨hm1,rfl⟩
 simp[hm1]
theorem D_Ru {cw:Bool} {P:Program} {ks:Nat→AVal→AMem→Prop} {is:List CI} {av late:List (List Nat)} {Q:AFrame→AMem→Prop} {π:List Nat} {a:AFrame} {fs:Facts} {m:AMem} {t:Tag (is,Q,ks)} {i:Nat} {d:Option Nat} {p:ROp} {g:Option (Nat×Bool)} (hi:is[i]? =some ⟨d,.R p,g⟩) (hg:gOK a g) (y:AVal) (hy:p.ev a m=some y)
  (h: ∀x,(∀m',m<+:m'→pfacts (av.getD i []) fs m'→x=y)→D cw P ks is av late Q π .mk (a.putO d x) (upd fs i fun _=>True) m):D cw P ks is av late Q (i::π) t a fs m:=by
 unfold D
 simp only[LW,hi,dstep,COp.isW,Bool.false_eq_true,if_false]
 rw[spec_guard (i:=⟨d,.R p,g⟩) hg]
 simp only[COp.spec]
 refine ⟨⟨y,fun m' hm _=>ROp.ev_mono hm hy⟩,fun x hx=>h x fun m' h1 h2=>?_⟩
 have:=(hx m' h1 h2).symm.trans (ROp.ev_mono h1 hy)
 simpa using this
theorem pf_upd {l l':List Nat} {fs:Facts} {i:Nat} {φ:AMem→Prop} {m:AMem} (h:pfacts l (upd fs i φ) m) (hs: ∀j∈l',j∈l) (hi:i∉l'):pfacts l' fs m:=fun j hj=>by
 have:=h j (hs j hj)
 unfold upd at this
 rw[if_neg (fun e:j=i=>hi (e▸hj))] at this
 exact this
theorem upd_true {fs:Facts} (h: ∀j m,fs j m) (i:Nat): ∀j m,upd fs i (fun _=>True) j m:=fun j m=>by
 unfold upd
 split
 ·trivial
 ·exact h j m
theorem upd_all {fs:Facts} (h: ∀j m,fs j m) {i:Nat} {φ:AMem→Prop} {m:AMem} (hφ:φ m) (j:Nat):upd fs i φ j m:=by
 unfold upd
 split
 ·exact hφ
 ·exact h j m
theorem ints_new (m:AMem) (xs:List Int): ∃v m',m<+:m'∧RInts m' v xs:=
 ⟨_,_,List.prefix_append m [.own (xs.map (AVal.int .i64)) 3 none],OwL.ints (Ow.new (by simp) (by simp[List.all_map]))⟩
theorem flat_new {α:Type} {w:Nat} {f:α→List AVal} [SCell w f] (m:AMem) (xs:List α): ∃v m',m<+:m'∧SlF w f m' v xs:=
 ⟨_,_,List.prefix_append m [.own (xs.flatMap f) 3 none],(OwF.new m 3 xs).sl⟩
set_option maxHeartbeats 4000000 in
theorem k33 (v v':AVal) (d e:Dsc) (m:AMem) (hv:DsR m v d) (hv':DsR m v' e) (hl:d.ds.length<2^30) (hl':e.ds.length<2^30):ACalls Tryd.prog 33 [v,v'] m fun r m'=>m<+:m'∧r= .bool (sameD d e):=by
 have hv0:=hv
 have hv0':=hv'
 obtain ⟨s,rfl,hs,hsb⟩:=hv
 obtain ⟨s',rfl,hs',hsb'⟩:=hv'
 refine w33 ?_
 obtain ⟨h1,h2⟩:=hs.one
 obtain ⟨h1',h2'⟩:=hs'.one
 simp[h1,h2,h1',h2']
 have hm:m<+:m++ [ABlk.own [AVal.int .i64 d.b,s] 26 none,ABlk.own [AVal.int .i64 e.b,s'] 26 none]:=List.prefix_append _ _
 have hb:readB (m++ [ABlk.own [AVal.int .i64 d.b,s] 26 none,ABlk.own [AVal.int .i64 e.b,s'] 26 none]) m.length=some [.int .i64 d.b,s]:=by simp[readB,ABlk.cells]
 have hb':readB (m++ [ABlk.own [AVal.int .i64 d.b,s] 26 none,ABlk.own [AVal.int .i64 e.b,s'] 26 none]) (m.length+1)=some [.int .i64 e.b,s']:=by simp[readB,ABlk.cells]
 generalize m++ [ABlk.own [AVal.int .i64 d.b,s] 26 none,ABlk.own [AVal.int .i64 e.b,s'] 26 none]=m1 at*
 have hbw:=bxW hb 2
 have hbw':=bxW hb' 2
 simp[readN] at hbw hbw'
 refine W_draw (fun i v m=>match i with
  |1=>v= .bool d.bad
  |5=>v= .bool e.bad
  |10=>SlF 2 bdC m v d.bnds
  |12=>SlF 2 bdC m v e.bnds
  |13=>v= .bool (decide (d.bnds=e.bnds))
  |17=>RInts m v d.places
  |19=>RInts m v e.places
  |20=>v= .bool (decide (d.places=e.places))
  |_=>True) (by simp[maxDst]) ?_
 refine D_pc 0 1 [1,2,3,4,5,6,7,8,9,10,11,12,13,14,15,16,17,18,19,20,21,22] ?_
 simp[hbw]
 intro fs _
 refine D_Cv (fn:=58) (fs':= []) (cs:= []) (.bool d.bad) rfl trivial rfl (by simp) (fun m' h1 _=>by simpa using k58 _ d m' (hv0.mono (hm.trans h1)) hl) ?_
 simp
 have hf1: ∀j m',upd fs 1 (fun _=>True) j m':=upd_true (by assumption) _
 by_cases hd:d.bad=true
 ·have hsm:sameD d e=false:=by simp[sameD,hd]
  rw[hd]
  repeat (first|(refine D_skip rfl rfl (by simp) ?_;simp)|(refine D_P rfl trivial ?_;simp))
  refine D_end fun m2 hm2 _=>?_
  simp[hsm,hm.trans hm2]
 have hd:d.bad=false:=by simpa using hd
 rw[hd]
 refine D_pc 2 3 [5,6,7,8,9,10,11,12,13,14,15,16,17,18,19,20,21,22] (hfs:=hf1) ?_
 simp[hbw']
 intro fs2 _
 refine D_Cv (fn:=58) (fs':= []) (cs:= []) (.bool e.bad) rfl (by simp[gOK]) rfl (by simp) (fun m' h1 _=>by simpa using k58 _ e m' (hv0'.mono (hm.trans h1)) hl') ?_
 simp
 have hf2: ∀j m',upd fs2 5 (fun _=>True) j m':=upd_true (by assumption) _
 by_cases he:e.bad=true
 ·have hsm:sameD d e=false:=by simp[sameD,he]
  rw[he]
  refine D_P rfl (by simp[gOK]) ?_
  simp
  repeat (first|(refine D_skip rfl rfl (by simp) ?_;simp)|(refine D_P rfl trivial ?_;simp))
  refine D_end fun m2 hm2 _=>?_
  simp[hsm,hm.trans hm2]
 have he:e.bad=false:=by simpa using he
 rw[he]
 refine D_pc 6 4 [10,11,12,13,14,15,16,17,18,19,20,21,22] (hfs:=hf2) ?_
 simp[hbw]
 intro fs3 hf3
 refine D_C (fn:=54) (fs':= []) (cs:= []) rfl (by simp[gOK]) (by simp) (fun m' h1 _=>by simpa using (k54 s d.b d.ds m' (hs.mono (hm.trans h1)) hl).mono fun v m'' h=>⟨h.1,h.2.sl⟩) (flat_new _ _) (fun v m m' hm h=>h.mono hm) ?_
 intro v10 m10 hm10 hv10
 simp
 refine D_R rfl (by simp[gOK]) ⟨m10,hm10,fun j _=>upd_all hf3 hv10 j⟩ ?_
 simp[hbw']
 refine D_C (fn:=54) (fs':= []) (cs:= []) rfl (by simp[gOK]) (by simp) (fun m' h1 _=>by simpa using (k54 s' e.b e.ds m' (hs'.mono (hm.trans h1)) hl').mono fun v m'' h=>⟨h.1,h.2.sl⟩) (flat_new _ _) (fun v m m' hm h=>h.mono hm) ?_
 intro v12 m12 hm12 hv12
 simp
 have hlb:d.bnds.length<2^62:=by simp[Dsc.bnds,bndsD];omega
 refine D_Cv (fn:=18) (fs':= []) (cs:= []) (.bool (decide (d.bnds=e.bnds))) rfl (by simp[gOK]) rfl (by simp) (fun m' h1 hp=>?_) ?_
 ·have p10:=hp 10 (by simp)
  have p12:=hp 12 (by simp)
  simp[upd] at p10 p12
  simpa using k18 v10 v12 d.bnds e.bnds m' p10 p12 hlb
 simp
 by_cases hbe:d.bnds=e.bnds
 rotate_left
 ·have hsm:sameD d e=false:=by simp[sameD,hbe]
  simp[hbe]
  repeat (first|(refine D_skip rfl rfl (by simp) ?_;simp)|(refine D_P rfl trivial ?_;simp))
  refine D_end fun m2 hm2 _=>?_
  simp[hsm,hm.trans hm2]
 simp[hbe]
 refine D_P rfl trivial ?_
 simp
 refine D_P rfl trivial ?_
 simp
 refine D_Ru rfl (by simp[gOK]) (.agg [.int .i64 d.b,s]) (by simp[hbw]) fun x21 hx21=>?_
 simp
 refine D_C (fn:=31) (fs':= []) (cs:= []) rfl (by simp[gOK]) (by simp) (fun m' h1 hp=>?_) (ints_new _ _) (fun v m m' hm h=>Sl.mono h hm) ?_
 ·have hx:=hx21 m' h1 (pf_upd hp (by simp) (by simp))
  subst hx
  simpa using (k31 _ d m' (hv0.mono (hm.trans h1)) hl).mono fun v m'' h=>⟨h.1,h.2.ints⟩
 intro v17 m17 hm17 hv17
 simp
 refine D_Ru rfl (by simp[gOK]) (.agg [.int .i64 e.b,s']) (by simp[hbw']) fun x23 hx23=>?_
 simp
 refine D_C (fn:=31) (fs':= []) (cs:= []) rfl (by simp[gOK]) (by simp) (fun m' h1 hp=>?_) (ints_new _ _) (fun v m m' hm h=>Sl.mono h hm) ?_
 ·have hx:=hx23 m' h1 (pf_upd hp (by simp) (by simp))
  subst hx
  simpa using (k31 _ e m' (hv0'.mono (hm.trans h1)) hl').mono fun v m'' h=>⟨h.1,h.2.ints⟩
 intro v19 m19 hm19 hv19
 simp
 have hpl:d.places.length<2^62:=by have:=places_len d;omega
 refine D_Cv (fn:=63) (fs':= []) (cs:= []) (.bool (decide (d.places=e.places))) rfl (by simp[gOK]) rfl (by simp) (fun m' h1 hp=>?_) ?_
 ·have p17:=hp 17 (by simp)
  have p19:=hp 19 (by simp)
  simp[upd] at p17 p19
  simpa using k63g v17 v19 d.places e.places m' p17 p19 hpl
 simp
 refine D_P rfl trivial ?_
 simp
 refine D_P rfl trivial ?_
 simp
 refine D_end fun m2 hm2 _=>?_
 simp[sameD,hd,he,hbe,hm.trans hm2]
end Go.Proofs.YtodhalcpnmddjaaDoor
namespace Go.Proofs.YtodhalcpnmddjaaDoor
open Go Ax
set_option maxRecDepth 100000
theorem same_self {d:Dsc} (h:d.bad=false):sameD d d=true:=by simp[sameD,h]
end Go.Proofs.YtodhalcpnmddjaaDoor
namespace Go.Proofs.YtodhalcpnmddjaaDoor
open Go Ax
set_option maxRecDepth 100000
def makeD (l:List (Int×Int)):Dsc×Int:=if checkB l≠0 then (.zero,checkB l) else (⟨0,plainW l⟩,0)
theorem make_right {l:List (Int×Int)} (h:(makeD l).2=0):(makeD l).1.bad=false∧(makeD l).1.places=(List.range (makeD l).1.count).map (fun z:Nat=>(z:Int)):=by
 unfold makeD at h ⊢
 split at h
 ·rename_i h1;exact absurd h h1
 ·rename_i h1
  have hc:checkB l=0:=by simpa using h1
  rw[if_neg h1]
  obtain ⟨c1,c2,c3⟩:=check_zero.1 hc
  have hb:(Dsc.mk 0 (plainW l)).bad=false:=by
   refine bne_eq_false_iff_eq.2 (right_zero.2 ⟨by rw[plainW_bnds];exact hc,fun he=>?_⟩)
   rw[plainW_bnds] at he
   have hp:=c3 he
   rw[plainW_eq he hp]
   have hcn:cntN (plainD l)=prodN l:=by rw[←prodN_cnt,bnds_plain]
   show farB 0=false∧_∧ ∀o∈offs (plainD l),0≤0+o∧0+o<2147483648
   refine ⟨by decide,?_,fun o ho=>?_⟩
   ·rw[List.any_eq_false]
    have key: ∀bs:List (Int×Int),emptyB bs=false→prodN bs≤65536→ ∀d∈plainD bs,0≤d.s∧d.s≤65536:=fun bs=>by
     induction bs with
     |nil=>intro _ _ d hd;cases hd
     |cons b bs ih=>
      intro he hp d hd
      have h2:emptyB bs=false:=by
       unfold emptyB at he ⊢
       rw[List.any_cons,Bool.or_eq_false_iff] at he
       exact he.2
      have hb:1≤lenB b:=by
       unfold emptyB at he
       rw[List.any_cons,Bool.or_eq_false_iff] at he
       have:lenB b≠0:=by simpa using he.1
       omega
      have h3:prodN bs≤prodN (b::bs):=by rw[prodN];exact Nat.le_mul_of_pos_left _ hb
      rcases List.mem_cons.1 hd with rfl|hd
      ·have:cntN (plainD bs)=prodN bs:=by rw[←prodN_cnt,bnds_plain]
       simp only
       omega
      ·exact ih h2 (by omega) d hd
    intro d hd hf
    have:=key l he hp d hd
    unfold farS at hf
    rw[Bool.and_eq_true,Bool.or_eq_true,decide_eq_true_iff,decide_eq_true_iff,decide_eq_true_iff] at hf
    omega
   ·rw[plain_offs,List.mem_map] at ho
    obtain ⟨z,hz,rfl⟩:=ho
    have:=List.mem_range.1 hz
    omega
  refine ⟨hb,?_⟩
  unfold Dsc.places Dsc.count
  have hbn:(Dsc.mk 0 (plainW l)).bnds=l:=plainW_bnds l
  simp only[hb,hbn,Bool.false_eq_true,false_or,if_false]
  by_cases he:emptyB l=true
  ·rw[if_pos he,if_pos he];rfl
  ·rw[if_neg he,if_neg he]
   have he':emptyB l=false:=by simpa using he
   rw[plainW_eq he' (c3 he'),plain_offs,List.map_map,show cntN (plainD l)=prodN l by rw[←prodN_cnt,bnds_plain]]
   refine List.map_congr_left fun z _=>?_
   show (0:Int)+(z:Int)=(z:Int)
   omega
theorem places_ne {d:Dsc} (h:d.count≠0):d.places≠ []:=by
 unfold Dsc.count at h
 by_cases hb:d.bad=true
 ·rw[if_pos hb] at h;exact absurd rfl h
 ·rw[if_neg hb] at h
  by_cases he:emptyB d.bnds=true
  ·rw[if_pos he] at h;exact absurd rfl h
  ·unfold Dsc.places
   rw[if_neg (by simp[hb,he])]
   intro hn
   have:=offs_zero (empty_pos (by simpa using he:emptyB (bndsD d.ds)=false))
   rw[List.map_eq_nil_iff.1 hn] at this
   cases this
theorem sameD_iff {d e:Dsc}:sameD d e=true↔d.bad=false∧e.bad=false∧d.bnds=e.bnds∧d.places=e.places:=by
 unfold sameD
 simp
theorem same_symm (d e:Dsc):sameD d e=sameD e d:=by
 rw[Bool.eq_iff_iff,sameD_iff,sameD_iff]
 constructor
 ·rintro ⟨h1,h2,h3,h4⟩;exact ⟨h2,h1,h3.symm,h4.symm⟩
 ·rintro ⟨h1,h2,h3,h4⟩;exact ⟨h2,h1,h3.symm,h4.symm⟩
theorem same_meet {d e:Dsc} (h:sameD d e=true) (hc:d.count≠0):meetD d e=true:=by
 obtain ⟨_,_,_,h4⟩:=sameD_iff.1 h
 have hn:=places_ne hc
 unfold meetD
 rw[←h4,List.any_eq_true]
 obtain ⟨p,ps,hp⟩:=List.exists_cons_of_ne_nil hn
 exact ⟨p,by rw[hp];exact List.mem_cons_self,by rw[hp];simp⟩
theorem same_dd (d:Dsc):sameD d d= !d.bad:=by
 cases h:d.bad
 ·rw[same_self h];rfl
 ·unfold sameD;rw[h];rfl
end Go.Proofs.YtodhalcpnmddjaaDoor
