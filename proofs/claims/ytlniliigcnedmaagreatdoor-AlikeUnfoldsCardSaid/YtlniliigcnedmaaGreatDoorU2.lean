/- Layer 10's laws.  Conditions: none beyond those stated. -/
import Derived.Test.YtlniliigcnedmaaGreatDoorU1
set_option linter.unusedSimpArgs false
set_option linter.unusedVariables false
namespace Go.Proofs.YtlniliigcnedmaaGreatDoor.Ax
open Go
inductive CC where
 |skip
 |reg (is:List CI)
 |draw (cw:Bool) (is:List CI) (av late:List (List Nat)) (π:List Nat)
 |draw2 (cw:Bool) (is:List CI) (av late:List (List Nat)) (π π2:List Nat)
 |seq (x y:CC)
 |cond (c:Arg) (x y:CC)
 |block (id:Nat) (x:CC)
 |loop (x:CC)
 |exit (id:Nat)
 |ret
 |kill (l:List Nat) (x:CC)
 |fin (l:List Nat) (x:CC)
 |bad
def CC.erase:CC→CC
 | .seq x y=> .seq x.erase y.erase
 | .cond c x y=> .cond c x.erase y.erase
 | .block id x=> .block id x.erase
 | .loop x=> .loop x.erase
 | .kill _ x=>x.erase
 | .fin _ x=>x.erase
 |x=>x
def sget:List (Nat×AVal)→Nat→AVal
 | [],_=> .undef
 |(k,v)::r,n=>if k=n then v else sget r n
def mat (nt:Nat) (sf:List (Nat×AVal)):AFrame:=(List.range nt).map (sget sf)
def AFrame.forget (a:AFrame) (l:List Nat):AFrame:=mat a.length (l.map fun n=>(n,a.getD n .undef))
theorem sget_keep (a:AFrame): ∀(l:List Nat) (n:Nat),sget (l.map fun n=>(n,a.getD n .undef)) n=a.getD n .undef∨sget (l.map fun n=>(n,a.getD n .undef)) n= .undef
 | [],n=> .inr rfl
 |k::l,n=>by
  simp only[List.map_cons,sget]
  split
  ·rename_i h;subst h;exact .inl rfl
  ·exact sget_keep a l n
def piOf (cw:Bool) (ops:Array Oper) (is:List CI):Nat→Array Bool→List Nat
 |0,_=> []
 |n+1,listed=>
  let rs:=Region.ready .any ops listed
  match rs.find? fun i=>match is[i]? with|some c=> !c.op.isW cw|none=>false with
  |some i=>i::piOf cw ops is n (listed.setIfInBounds i true)
  |none=>match rs with
   |i::_=>i::piOf cw ops is n (listed.setIfInBounds i true)
   | []=> []
def piOf2 (cw:Bool) (ops:Array Oper) (is:List CI):Nat→Array Bool→List Nat
 |0,_=> []
 |n+1,listed=>
  let rs:=Region.ready .any ops listed
  match rs.find? fun i=>match is[i]? with|some c=> !c.op.isW cw|none=>false with
  |some i=>i::piOf2 cw ops is n (listed.setIfInBounds i true)
  |none=>match rs.reverse with
   |i::_=>i::piOf2 cw ops is n (listed.setIfInBounds i true)
   | []=> []
def COp.isC:COp→Bool
 | .C _ _=>true
 |_=>false
def checkPi2 (cw:Bool) (ops:Array Oper) (bf:Array Nat) (is:List CI) (av late:Nat→List Nat):List Nat→List Nat→Array Bool→Bool
 |i::r,i'::r',listed=>(Region.ready .any ops listed).contains i&&(late i).all (fun k=>listed.getD k false)&&(match is[i]? with
   |none=>false
   |some ci=>if i=i' then !ci.op.isC&&((List.range ops.size).all fun j=>j==i||listed.getD j true||tp bf j i||(match is[j]? with
     |none=>false
     |some cj=>checkFree true bf cw is av late i j ci cj))&&checkPi2 cw ops bf is av late r r' (listed.setIfInBounds i true)
    else (Region.ready .any ops listed).all (fun k=>k==i||k==i')&&(late i').all (fun k=>listed.getD k false)&&checkPi true cw ops bf is av late r (listed.setIfInBounds i true)&&checkPi true cw ops bf is av late r' (listed.setIfInBounds i' true)&&r'.length==r.length)
 |_,_,_=>false
def COp.isEv:COp→Bool
 | .A _| .C _ _=>true
 |_=>false
def avOf (bf:Array Nat) (is:List CI):List (List Nat):=
 (List.range is.length).map fun i=>(List.range is.length).filter fun j=>tp bf i j&&(match is[j]? with|some c=>c.op.isEv|none=>false)
def lateIx (cw:Bool) (bf:Array Nat) (is:List CI):List (List Nat):=
 (List.range is.length).map fun j=>match (is[j]? :Option CI) with
  |some c=>if c.op.isW cw then (List.range is.length).filter fun i=>i !=j&& !tp bf i j&& !tp bf j i&&(match (is[i]? :Option CI) with|some ⟨some _,.R _,none⟩=>true|_=>false) else []
  |none=> []
def maxDst (is:List CI):Nat:=is.foldl (fun n c=>match c.dst with|some d=>max n (d+1)|none=>n) 0
def cDraw (P:Program) (ops:Array Oper):Option CC:=
 match cInstrs P ops ops.toList with
 |none=>none
 |some is=>
  let bf:=Region.before ops
  let av:=avOf bf is
  let hard:=(is.filter fun c=>c.op.isC).length==3&&is.any fun c=>match c.op with| .C _ [_,_,.c .nilslice]=>true|_=>false
  let go:=fun (wk cw:Bool) (r:Option CC)=>
   let late:=lateIx cw bf is
   let π:=piOf cw ops is ops.size (Array.replicate ops.size false)
   if checkPi wk cw ops bf is (fun i=>av.getD i []) (fun i=>late.getD i []) π (Array.replicate ops.size false)&&π.length==ops.size then some (.draw cw is av late π) else r
  let go2:=fun (cw:Bool) (r:Option CC)=>
   let late:=lateIx cw bf is
   let π:=piOf cw ops is ops.size (Array.replicate ops.size false)
   let π2:=piOf2 cw ops is ops.size (Array.replicate ops.size false)
   if checkPi2 cw ops bf is (fun i=>av.getD i []) (fun i=>late.getD i []) π π2 (Array.replicate ops.size false)&&π.length==ops.size then some (.draw2 cw is av late π π2) else r
  let rest:=go false false (go2 true none)
  go false true (if hard then go true true rest else rest)
def hasPanic (ops:Array Oper):Bool:=ops.any fun o=>match o.op with| .panic _=>true|_=>false
def cCode (P:Program):Code→Option CC
 | .skip=>some .skip
 | .region _ ops draw=>if hasPanic ops then some .bad else if draw then cDraw P ops else (cInstrs P ops ops.toList).map .reg
 | .seq x y=>match cCode P x,cCode P y with
  |some x,some y=>some (.seq x y)
  |_,_=>none
 | .cond c x y=>match cArg c,cCode P x,cCode P y with
  |some c,some x,some y=>some (.cond c x y)
  |_,_,_=>none
 | .block id x=>(cCode P x).map (.block id)
 | .loop x=>(cCode P x).map .loop
 | .exit id=>some (.exit id)
 | .ret=>some .ret
 | .refuse _=>some .bad
 |_=>none
inductive AEx where
 |normal
 |exit (id:Nat)
 |ret
def AEx.real:AEx→Exit
 | .normal=> .normal
 | .exit id=> .exit id
 | .ret=> .ret
def AEx.then (next:AFrame→AMem→Prop) (Q:AEx→AFrame→AMem→Prop):AEx→AFrame→AMem→Prop
 | .normal=>next
 | .exit id=>Q (.exit id)
 | .ret=>Q .ret
def AEx.inBlock (id:Nat) (Q:AEx→AFrame→AMem→Prop):AEx→AFrame→AMem→Prop
 | .normal=>Q .normal
 | .exit k=>if k=id then Q .normal else Q (.exit k)
 | .ret=>Q .ret
def CC.wp (P:Program):CC→(AEx→AFrame→AMem→Prop)→AFrame→AMem→Prop
 | .skip,Q,a,m=>Q .normal a m
 | .reg is,Q,a,m=>CI.list P (Q .normal) is a m
 | .draw cw is av late π,Q,a,m=>(maxDst is≤a.length)∧ ∃ks,LW cw P ks is (fun i=>av.getD i []) (fun i=>late.getD i []) (Q .normal) π a noFacts m
 | .draw2 cw is av late π π2,Q,a,m=>(maxDst is≤a.length)∧ ∃ks,LW cw P ks is (fun i=>av.getD i []) (fun i=>late.getD i []) (Q .normal) π a noFacts m∧LW cw P ks is (fun i=>av.getD i []) (fun i=>late.getD i []) (Q .normal) π2 a noFacts m
 | .seq x y,Q,a,m=>x.wp P (AEx.then (fun a m=>y.wp P Q a m) Q) a m
 | .cond c x y,Q,a,m=>match a.ev c with
  | .bool b=>(b=true→x.wp P Q a m)∧(b=false→y.wp P Q a m)
  |_=>False
 | .block id x,Q,a,m=>x.wp P (AEx.inBlock id Q) a m
 | .loop x,Q,a,m=> ∃I:Nat→AFrame→AMem→Prop,(∃n,I n a m)∧ ∀n a m,I n a m→x.wp P (AEx.then (fun a' m'=> ∃n',n'<n∧I n' a' m') Q) a m
 | .exit id,Q,a,m=>Q (.exit id) a m
 | .ret,Q,a,m=>Q .ret a m
 | .kill l x,Q,a,m=>x.wp P Q (a.forget l) m
 | .fin l x,Q,a,m=>x.wp P (AEx.then (fun a m=>Q .normal (a.forget l) m) Q) a m
 | .bad,_,_,_=>False
structure SR (ρ0:List RB) (m0:AMem) (w0:World) (a:AFrame) (m:AMem) (act:Act) (w:World):Prop where
 ex: ∃ρ,Sim ρ m w∧FR ρ a act.tmps∧Evol ρ0 m0 w0 ρ m w
 defers:act.defers= []
section
variable {P:Program} {ρ0:List RB} {m0:AMem} {w0:World}
theorem prefix_stable_noFacts:Stable noFacts:=fun _ _ _ _ _=>trivial
theorem maxDst_ok (is:List CI) (c:CI) (hc:c∈is) (d:Nat) (hd:c.dst=some d):d<maxDst is:=by
 have mono: ∀(l:List CI) (n:Nat),n≤l.foldl (fun n c=>match c.dst with|some d=>max n (d+1)|none=>n) n:=by
  intro l
  induction l with
  |nil=>intro n;exact Nat.le_refl _
  |cons x l ih=>
   intro n
   rw[List.foldl_cons]
   refine Nat.le_trans ?_ (ih _)
   split
   ·omega
   ·exact Nat.le_refl _
 have key: ∀(l:List CI) (n:Nat),c∈l→d<l.foldl (fun n c=>match c.dst with|some d=>max n (d+1)|none=>n) n:=by
  intro l
  induction l with
  |nil=>intro n h;cases h
  |cons x l ih=>
   intro n h
   rw[List.foldl_cons]
   cases h with
   |head=>
    refine Nat.lt_of_lt_of_le ?_ (mono l _)
    simp only[hd]
    omega
   |tail _ h=>exact ih _ h
 exact key is 0 hc
theorem SR.forget {a:AFrame} {m:AMem} {act:Act} {w:World} (h:SR ρ0 m0 w0 a m act w) (l:List Nat):SR ρ0 m0 w0 (a.forget l) m act w:=by
 obtain ⟨⟨ρ,h1,h2,h3⟩,hd⟩:=h
 refine ⟨⟨ρ,h1,?_,h3⟩,hd⟩
 refine ⟨by simpa[AFrame.forget,mat] using h2.len,fun i x hx=>?_⟩
 unfold AFrame.forget mat at hx
 rw[List.getElem?_map] at hx
 cases hr:(List.range a.length)[i]? with
 |none=>rw[hr] at hx;simp at hx
 |some k=>
  rw[hr] at hx
  simp only[Option.map_some,Option.some.injEq] at hx
  have hi:i<a.length:=by simpa using (List.getElem?_eq_some_iff.1 hr).1
  have hk:k=i:=by rw[List.getElem?_range hi] at hr;exact (Option.some.inj hr).symm
  subst hk
  obtain ⟨v,hv,hvr⟩:=h2.rel k _ (List.getElem?_eq_getElem hi)
  refine ⟨v,hv,?_⟩
  rcases sget_keep a l k with e|e
  ·rw[←hx,e]
   simpa[List.getD,hi] using hvr
  ·rw[←hx,e]
   simp[VR]
theorem dstep_and {cw:Bool} {ks:Nat→AVal→AMem→Prop} {lt:List (ROp×Nat)} {idx:Nat} {i:CI} {av:List Nat} {K K':AFrame→Facts→AMem→Prop} {a:AFrame} {fs:Facts} {m0:AMem} (hc:i.op.isC=false)
  (h:dstep cw P ks lt idx i av K a fs m0) (h':dstep cw P ks lt idx i av K' a fs m0):dstep cw P ks lt idx i av (fun a fs m=>K a fs m∧K' a fs m) a fs m0:=by
 unfold dstep at h h' ⊢
 split at h
 ·rename_i hw
  rw[if_pos hw] at h' ⊢
  intro m h1 h2
  have g:=h m h1 h2
  have g':=h' m h1 h2
  have core: ∀{J J' L:AVal→AMem→Prop},i.op.step P J a m→i.op.step P J' a m→(∀v m,J v m→J' v m→L v m)→i.op.step P L a m:=by
   intro J J' L e1 e2 hl
   cases ho:i.op<;>rw[ho] at e1 e2 hc<;>simp only[COp.step] at e1 e2 ⊢
   case C=>cases hc
   all_goals
    split at e1
    ·rename_i he
     try rw[he] at e2
     exact hl _ _ e1 e2
    ·exact e1.elim
  unfold CI.step at g g' ⊢
  cases hg:i.guard with
  |none=>
   rw[hg] at g g'
   exact core g g' fun v m p q=>⟨p.1,p.2,q.2⟩
  |some tw=>
   obtain ⟨t,w⟩:=tw
   rw[hg] at g g'
   simp only at g g' ⊢
   split at g
   ·rename_i hb;rw[hb] at g';exact core g g' fun v m p q=>⟨p.1,p.2,q.2⟩
   ·rename_i hb;rw[hb] at g';exact ⟨g.1,g.2,g'.2⟩
   ·exact g.elim
 ·rename_i hw
  rw[if_neg hw] at h' ⊢
  exact ⟨h.1,fun x hx=>⟨h.2 x hx,h'.2 x hx⟩⟩
theorem SA_of_LW2 {cw:Bool} {ks:Nat→AVal→AMem→Prop} {ops:Array Oper} {is:List CI} {av late:Nat→List Nat} {Q:AFrame→AMem→Prop} (hlen:is.length=ops.size): ∀(π π2:List Nat) (listed:Array Bool) (a:AFrame) (fs:Facts) (m0:AMem),DownClosed ops listed→(∀c∈is,∀d,c.dst=some d→d<a.length)→checkPi2 cw ops (Region.before ops) is av late π π2 listed=true→LW cw P ks is av late Q π a fs m0→LW cw P ks is av late Q π2 a fs m0→SA cw P ks ops is av late Q π.length listed a fs m0
 | [],_,listed,a,fs,m0,_,_,hc,_,_=>by simp[checkPi2] at hc
 |_::_,[],listed,a,fs,m0,_,_,hc,_,_=>by simp[checkPi2] at hc
 |i::r,i'::r',listed,a,fs,m0,hd,hla,hc,h,h'=>by
  simp only[checkPi2,Bool.and_eq_true] at hc
  obtain ⟨⟨hr,hlate⟩,hc⟩:=hc
  have hr:i∈Region.ready .any ops listed:=by simpa using hr
  simp only[LW] at h h'
  cases hi:is[i]? with
  |none=>rw[hi] at h;exact h.elim
  |some ci=>
   rw[hi] at h hc
   simp only at h hc
   have hfl:(late i).filter (fun k=>listed.getD k false)=late i:=List.filter_eq_self.2 fun k hk=>List.all_eq_true.1 hlate k hk
   split at hc
   ·rename_i he
    subst he
    rw[hi] at h'
    simp only[Bool.and_eq_true,Bool.not_eq_true'] at h' hc
    obtain ⟨⟨hC,hf⟩,hc⟩:=hc
    refine SA_first hi r.length listed a fs m0 hd hr hla (fun j cj hj hji hun=>?_) (by
     rw[hfl]
     exact dstep_mono (fun a' fs m0 hl h=>SA_of_LW2 hlen r r' _ a' fs m0 (hd.set hr) (fun c hc d hd=>by rw[hl];exact hla c hc d hd) hc h.1 h.2) (dstep_and hC h h'))
    have hjl:j<ops.size:=by rw[←hlen];exact (List.getElem?_eq_some_iff.1 hj).1
    have:=List.all_eq_true.1 hf j (by simpa using hjl)
    simp only[hj,Bool.or_eq_true,beq_iff_eq,hji,false_or,hun,Bool.false_eq_true] at this
    rcases this with h1|h1
    ·exact .inl (before_ok ops j i h1)
    ·exact .inr (checkFree_ok h1)
   ·simp only[Bool.and_eq_true,beq_iff_eq] at hc
    obtain ⟨⟨⟨⟨hall,hlate'⟩,hc1⟩,hc2⟩,hl⟩:=hc
    refine ⟨fun he=>?_,fun k hk ck hck=>?_⟩
    ·rw[he] at hr;cases hr
    ·have hk2:=List.all_eq_true.1 hall k hk
     simp only[Bool.or_eq_true,beq_iff_eq] at hk2
     rcases hk2 with rfl|rfl
     ·rw[hi] at hck
      cases hck
      rw[hfl]
      exact dstep_mono (fun a' fs m0 hl h=>SA_of_LW hlen r _ a' fs m0 (hd.set hk) (fun c hc d hd=>by rw[hl];exact hla c hc d hd) hc1 h) h
     ·rw[hck] at h'
      have hfl':(late k).filter (fun k=>listed.getD k false)=late k:=List.filter_eq_self.2 fun j hj=>List.all_eq_true.1 hlate' j hj
      rw[hfl',←hl]
      exact dstep_mono (fun a' fs m0 hl h=>SA_of_LW hlen r' _ a' fs m0 (hd.set hk) (fun c hc d hd=>by rw[hl];exact hla c hc d hd) hc2 h) h'
theorem CC.wp_ok (hmix:P.follows .mixedOrders=true) (hgl0:Glob ρ0 m0 w0): ∀(cc:CC) (c:Code),cCode P c=some cc.erase→ ∀(Q:AEx→AFrame→AMem→Prop) (Q':Exit→Act→World→Prop) (a:AFrame) (m:AMem) (act:Act) (w:World),cc.wp P Q a m→SR ρ0 m0 w0 a m act w→
  (∀e a m act w,Q e a m→SR ρ0 m0 w0 a m act w→Q' (AEx.real e) act w)→c.wp P Q' act w:=by
 have hreg: ∀id ops (draw:Bool) cc,cCode P (.region id ops draw)=some cc→(∃is,cc= .reg is∧draw=false∧cInstrs P ops ops.toList=some is)∨(∃wk cw is av late π,cc= .draw cw is av late π∧draw=true∧cInstrs P ops ops.toList=some is∧checkPi wk cw ops (Region.before ops) is (fun i=>av.getD i []) (fun i=>late.getD i []) π (Array.replicate ops.size false)=true∧π.length=ops.size)∨cc= .bad∨(∃cw is av late π π2,cc= .draw2 cw is av late π π2∧draw=true∧cInstrs P ops ops.toList=some is∧checkPi2 cw ops (Region.before ops) is (fun i=>av.getD i []) (fun i=>late.getD i []) π π2 (Array.replicate ops.size false)=true∧π.length=ops.size):=by
  intro id ops draw cc hc
  simp only[cCode] at hc
  split at hc
  ·simp only[Option.some.injEq] at hc
   exact .inr (.inr (.inl hc.symm))
  split at hc
  ·rename_i hdraw
   unfold cDraw at hc
   split at hc
   ·simp at hc
   ·rename_i is his
    simp only at hc
    have rest: ∀{r:Option CC},r=some cc→r=(if (checkPi false false ops (Region.before ops) is (fun i=>(avOf (Region.before ops) is).getD i []) (fun i=>(lateIx false (Region.before ops) is).getD i []) (piOf false ops is ops.size (Array.replicate ops.size false)) (Array.replicate ops.size false)&&(piOf false ops is ops.size (Array.replicate ops.size false)).length==ops.size)=true then some (.draw false is (avOf (Region.before ops) is) (lateIx false (Region.before ops) is) (piOf false ops is ops.size (Array.replicate ops.size false))) else
      if (checkPi2 true ops (Region.before ops) is (fun i=>(avOf (Region.before ops) is).getD i []) (fun i=>(lateIx true (Region.before ops) is).getD i []) (piOf true ops is ops.size (Array.replicate ops.size false)) (piOf2 true ops is ops.size (Array.replicate ops.size false)) (Array.replicate ops.size false)&&(piOf true ops is ops.size (Array.replicate ops.size false)).length==ops.size)=true then some (.draw2 true is (avOf (Region.before ops) is) (lateIx true (Region.before ops) is) (piOf true ops is ops.size (Array.replicate ops.size false)) (piOf2 true ops is ops.size (Array.replicate ops.size false))) else none)→
      (∃wk cw is av late π,cc= .draw cw is av late π∧draw=true∧cInstrs P ops ops.toList=some is∧checkPi wk cw ops (Region.before ops) is (fun i=>av.getD i []) (fun i=>late.getD i []) π (Array.replicate ops.size false)=true∧π.length=ops.size)∨cc= .bad∨(∃cw is av late π π2,cc= .draw2 cw is av late π π2∧draw=true∧cInstrs P ops ops.toList=some is∧checkPi2 cw ops (Region.before ops) is (fun i=>av.getD i []) (fun i=>late.getD i []) π π2 (Array.replicate ops.size false)=true∧π.length=ops.size):=by
     intro r hr hc
     rw[hr] at hc
     split at hc
     ·rename_i hcheck
      simp only[Option.some.injEq] at hc
      simp only[Bool.and_eq_true,beq_iff_eq] at hcheck
      exact .inl ⟨false,_,is,_,_,_,hc,hdraw,his,hcheck.1,hcheck.2⟩
     ·split at hc
      ·rename_i hcheck
       simp only[Option.some.injEq] at hc
       simp only[Bool.and_eq_true,beq_iff_eq] at hcheck
       exact .inr (.inr ⟨_,is,_,_,_,_,hc,hdraw,his,hcheck.1,hcheck.2⟩)
      ·simp at hc
    split at hc
    ·rename_i hcheck
     simp only[Option.some.injEq] at hc
     simp only[Bool.and_eq_true,beq_iff_eq] at hcheck
     exact .inr (.inl ⟨false,_,is,_,_,_,hc.symm,hdraw,his,hcheck.1,hcheck.2⟩)
    ·split at hc
     ·split at hc
      ·rename_i hcheck
       simp only[Option.some.injEq] at hc
       simp only[Bool.and_eq_true,beq_iff_eq] at hcheck
       exact .inr (.inl ⟨true,_,is,_,_,_,hc.symm,hdraw,his,hcheck.1,hcheck.2⟩)
      ·exact .inr (rest hc rfl)
     ·exact .inr (rest hc rfl)
  ·rename_i hdraw
   simp only[Option.map_eq_some_iff] at hc
   obtain ⟨is,his,rfl⟩:=hc
   exact .inl ⟨is,rfl,by simpa using hdraw,his⟩
 intro cc
 induction cc with
 |skip=>
  intro c hc Q Q' a m act w h hs hq
  cases c<;>simp only[cCode,CC.erase,reduceCtorEq,Option.some.injEq] at hc
  case skip=>exact wp_skip (hq .normal a m act w h hs)
  case region id ops draw=>rcases hreg id ops draw _ hc with ⟨_,h,_⟩|⟨_,_,_,_,_,_,h,_⟩|h|⟨_,_,_,_,_,_,h,_⟩<;>cases h
  all_goals first
   |(simp at hc;done)
   |(split at hc<;>simp at hc)
 |reg is=>
  intro c hc Q Q' a m act w h hs hq
  cases c<;>simp only[cCode,CC.erase,reduceCtorEq,Option.some.injEq] at hc
  case region id ops draw=>
   rcases hreg id ops draw _ hc with ⟨is',h1,h2,his⟩|⟨_,_,_,_,_,_,h1,_⟩|h1|⟨_,_,_,_,_,_,h1,_⟩
   ·cases h1
    subst h2
    obtain ⟨⟨ρ,hsim,hfr,hev⟩,hd⟩:=hs
    simp only[CC.wp] at h
    exact wp_region_list (list_ok ops.toList is his hfr hsim (hgl0.evol hev) h fun a' act' m' w' ρ' k1 k2 k3 k4 k5=>hq .normal a' m' act' w' k1 ⟨⟨ρ',k4,k2,hev.trans k5⟩,k3.trans hd⟩)
   ·cases h1
   ·cases h1
   ·cases h1
  all_goals first
   |(simp at hc;done)
   |(split at hc<;>simp at hc)
 |draw cw is av late π=>
  intro c hc Q Q' a m act w h hs hq
  cases c<;>simp only[cCode,CC.erase,reduceCtorEq,Option.some.injEq] at hc
  case region id ops draw=>
   rcases hreg id ops draw _ hc with ⟨is',h1,_⟩|⟨wk',cw',is',av',late',π',h1,h2,his,hcheck,hlen'⟩|h1|⟨_,_,_,_,_,_,h1,_⟩
   rotate_left 2
   ·cases h1
   ·cases h1
   ·cases h1
   ·cases h1
    subst h2
    obtain ⟨⟨ρ,hsim,hfr,hev⟩,hd⟩:=hs
    simp only[CC.wp] at h
    obtain ⟨hmax,ks,h⟩:=h
    have hdst: ∀c∈is,∀d,c.dst=some d→d<a.length:=fun c hc d hd=>Nat.lt_of_lt_of_le (maxDst_ok is c hc d hd) hmax
    have hlen:is.length=ops.size:=by rw[(cInstrs_get his).1];simp
    have hdc:DownClosed ops (Array.replicate ops.size false):=by
     intro j o e ho hj
     simp[Array.getElem?_replicate] at hj
     split at hj<;>simp at hj
    have hsa:=SA_of_LW hlen _ _ a noFacts m hdc hdst hcheck h
    rw[hlen'] at hsa
    refine wp_region_any hmix ?_
    have hsame:SameHeap w {w with drawn:=w.drawn+1}:=⟨rfl,rfl,rfl,rfl⟩
    exact wpAny_of_SA his ops.size _ a noFacts m hsa (List.prefix_refl _) (fun _=>trivial) prefix_stable_noFacts hfr (hsim.same hsame) (hgl0.evol (hev.trans (Evol.same hsame))) fun a' act' m' w' ρ' k1 k2 k3 k4 k5=>
     hq .normal a' m' act' w' k1 ⟨⟨ρ',k4,k2,hev.trans ((Evol.same hsame).trans k5)⟩,k3.trans hd⟩
  all_goals first
   |(simp at hc;done)
   |(split at hc<;>simp at hc)
 |draw2 cw is av late π π2=>
  intro c hc Q Q' a m act w h hs hq
  cases c<;>simp only[cCode,CC.erase,reduceCtorEq,Option.some.injEq] at hc
  case region id ops draw=>
   rcases hreg id ops draw _ hc with ⟨is',h1,_⟩|⟨_,_,_,_,_,_,h1,_⟩|h1|⟨cw',is',av',late',π',π2',h1,h2,his,hcheck,hlen'⟩
   ·cases h1
   ·cases h1
   ·cases h1
   ·cases h1
    subst h2
    obtain ⟨⟨ρ,hsim,hfr,hev⟩,hd⟩:=hs
    simp only[CC.wp] at h
    obtain ⟨hmax,ks,h,h'⟩:=h
    have hdst: ∀c∈is,∀d,c.dst=some d→d<a.length:=fun c hc d hd=>Nat.lt_of_lt_of_le (maxDst_ok is c hc d hd) hmax
    have hlen:is.length=ops.size:=by rw[(cInstrs_get his).1];simp
    have hdc:DownClosed ops (Array.replicate ops.size false):=by
     intro j o e ho hj
     simp[Array.getElem?_replicate] at hj
     split at hj<;>simp at hj
    have hsa:=SA_of_LW2 hlen _ _ _ a noFacts m hdc hdst hcheck h h'
    rw[hlen'] at hsa
    refine wp_region_any hmix ?_
    have hsame:SameHeap w {w with drawn:=w.drawn+1}:=⟨rfl,rfl,rfl,rfl⟩
    exact wpAny_of_SA his ops.size _ a noFacts m hsa (List.prefix_refl _) (fun _=>trivial) prefix_stable_noFacts hfr (hsim.same hsame) (hgl0.evol (hev.trans (Evol.same hsame))) fun a' act' m' w' ρ' k1 k2 k3 k4 k5=>
     hq .normal a' m' act' w' k1 ⟨⟨ρ',k4,k2,hev.trans ((Evol.same hsame).trans k5)⟩,k3.trans hd⟩
  all_goals first
   |(simp at hc;done)
   |(split at hc<;>simp at hc)
 |seq x y ihx ihy=>
  intro c hc Q Q' a m act w h hs hq
  cases c<;>simp only[cCode,CC.erase,reduceCtorEq,Option.some.injEq] at hc
  case region id ops draw=>rcases hreg id ops draw _ hc with ⟨_,h,_⟩|⟨_,_,_,_,_,_,h,_⟩|h|⟨_,_,_,_,_,_,h,_⟩<;>cases h
  case seq cx cy=>
   split at hc
   ·rename_i hx hy
    simp only[Option.some.injEq,CC.seq.injEq] at hc
    obtain ⟨rfl,rfl⟩:=hc
    simp only[CC.wp] at h
    refine wp_seq (ihx cx hx _ _ a m act w h hs fun e a m act w k1 k2=>?_)
    cases e with
    |normal=>exact ihy cy hy Q Q' a m act w k1 k2 hq
    |exit id=>exact hq (.exit id) a m act w k1 k2
    |ret=>exact hq .ret a m act w k1 k2
   ·simp at hc
  all_goals first
   |(simp at hc;done)
   |(split at hc<;>simp at hc)
 |cond b x y ihx ihy=>
  intro c hc Q Q' a m act w h hs hq
  cases c<;>simp only[cCode,CC.erase,reduceCtorEq,Option.some.injEq] at hc
  case region id ops draw=>rcases hreg id ops draw _ hc with ⟨_,h,_⟩|⟨_,_,_,_,_,_,h,_⟩|h|⟨_,_,_,_,_,_,h,_⟩<;>cases h
  case cond rb cx cy=>
   split at hc
   ·rename_i hb hx hy
    simp only[Option.some.injEq,CC.cond.injEq] at hc
    obtain ⟨rfl,rfl,rfl⟩:=hc
    simp only[CC.wp] at h
    split at h
    ·rename_i t ht
     have hv:act.eval rb= .bool t:=by
      obtain ⟨ρ,_,hfr,_⟩:=hs.ex
      have:=hfr.ev hb
      rw[ht] at this
      exact this.bool_inv
     exact wp_cond_split hv (fun e=>ihx cx hx Q Q' a m act w (h.1 e) hs hq) (fun e=>ihy cy hy Q Q' a m act w (h.2 e) hs hq)
    ·exact h.elim
   ·simp at hc
  all_goals first
   |(simp at hc;done)
   |(split at hc<;>simp at hc)
 |block id x ih=>
  intro c hc Q Q' a m act w h hs hq
  cases c<;>simp only[cCode,CC.erase,reduceCtorEq,Option.some.injEq] at hc
  case region id ops draw=>rcases hreg id ops draw _ hc with ⟨_,h,_⟩|⟨_,_,_,_,_,_,h,_⟩|h|⟨_,_,_,_,_,_,h,_⟩<;>cases h
  case block id' cx=>
   simp only[Option.map_eq_some_iff,CC.block.injEq] at hc
   obtain ⟨_,hx,rfl,rfl⟩:=hc
   simp only[CC.wp] at h
   refine wp_block (ih cx hx _ _ a m act w h hs fun e a m act w k1 k2=>?_)
   cases e with
   |normal=>exact hq .normal a m act w k1 k2
   |exit k=>
    simp only[AEx.inBlock] at k1
    simp only[AEx.real,Exit.inBlock]
    split
    ·rename_i he;rw[if_pos he] at k1;exact hq .normal a m act w k1 k2
    ·rename_i he;rw[if_neg he] at k1;exact hq (.exit k) a m act w k1 k2
   |ret=>exact hq .ret a m act w k1 k2
  all_goals first
   |(simp at hc;done)
   |(split at hc<;>simp at hc)
 |loop x ih=>
  intro c hc Q Q' a m act w h hs hq
  cases c<;>simp only[cCode,CC.erase,reduceCtorEq,Option.some.injEq] at hc
  case region id ops draw=>rcases hreg id ops draw _ hc with ⟨_,h,_⟩|⟨_,_,_,_,_,_,h,_⟩|h|⟨_,_,_,_,_,_,h,_⟩<;>cases h
  case loop cx=>
   simp only[Option.map_eq_some_iff,CC.loop.injEq] at hc
   obtain ⟨_,hx,rfl⟩:=hc
   simp only[CC.wp] at h
   obtain ⟨I,⟨n0,h0⟩,hround⟩:=h
   have key: ∀n a m act w,I n a m→SR ρ0 m0 w0 a m act w→ ∀(b:Frame) (k:List Item) (cs:List Frame),∃e a' w',Q' e a' w'∧Arrives P (lone (b.at act (.code cx:: .inLoop cx::k)) cs w) b k cs e a' w':=by
    intro n
    induction n using Nat.strongRecOn with
    |_ n ihn=>
     intro a m act w hI hs b k cs
     have:=ih cx hx _ (Exit.then (fun act' w'=> ∀(b:Frame) (k:List Item) (cs:List Frame),∃e a' w'',Q' e a' w''∧Arrives P (lone (b.at act' (.code cx:: .inLoop cx::k)) cs w') b k cs e a' w'') Q') a m act w (hround n a m hI) hs (fun e a' m' act' w' k1 k2=>by
      cases e with
      |normal=>obtain ⟨n',hlt,hI'⟩:=k1;exact fun b k cs=>ihn n' hlt a' m' act' w' hI' k2 b k cs
      |exit id=>exact hq (.exit id) a' m' act' w' k1 k2
      |ret=>exact hq .ret a' m' act' w' k1 k2)
     obtain ⟨e,a₁,w₁,hq1,harr⟩:=this b (.inLoop cx::k) cs
     cases e with
     |normal=>
      obtain ⟨e₂,a₂,w₂,hq₂,harr₂⟩:=hq1 b k cs
      exact ⟨e₂,a₂,w₂,hq₂,.of_steps (Steps.trans harr (.one step_inLoop)) harr₂⟩
     |exit id=>exact ⟨_,a₁,w₁,hq1,.pass (x:= .inLoop cx) rfl (fun _ _=> .inl (by simp)) harr⟩
     |goto l=>exact ⟨_,a₁,w₁,hq1,.pass (x:= .inLoop cx) rfl (fun _ _=> .inl (by simp)) harr⟩
     |ret=>exact ⟨_,a₁,w₁,hq1,.pass (x:= .inLoop cx) rfl (fun _ _=> .inl (by simp)) harr⟩
     |panic ch=>exact ⟨_,a₁,w₁,hq1,.pass (x:= .inLoop cx) rfl (fun _ _=> .inl (by simp)) harr⟩
     |outgrown=>exact ⟨_,a₁,w₁,hq1,.pass (x:= .inLoop cx) rfl (fun _ _=> .inl (by simp)) harr⟩
   intro b k cs
   obtain ⟨e,a',w',hq',harr⟩:=key n0 a m act w h0 hs b k cs
   exact ⟨e,a',w',hq',.of_steps (.one step_loop) harr⟩
  all_goals first
   |(simp at hc;done)
   |(split at hc<;>simp at hc)
 |exit id=>
  intro c hc Q Q' a m act w h hs hq
  cases c<;>simp only[cCode,CC.erase,reduceCtorEq,Option.some.injEq] at hc
  case region id' ops draw=>rcases hreg id' ops draw _ hc with ⟨_,h,_⟩|⟨_,_,_,_,_,_,h,_⟩|h|⟨_,_,_,_,_,_,h,_⟩<;>cases h
  case exit id'=>
   simp only[CC.exit.injEq] at hc
   subst hc
   exact wp_exit (hq (.exit id') a m act w h hs)
  all_goals first
   |(simp at hc;done)
   |(split at hc<;>simp at hc)
 |ret=>
  intro c hc Q Q' a m act w h hs hq
  cases c<;>simp only[cCode,CC.erase,reduceCtorEq,Option.some.injEq] at hc
  case region id' ops draw=>rcases hreg id' ops draw _ hc with ⟨_,h,_⟩|⟨_,_,_,_,_,_,h,_⟩|h|⟨_,_,_,_,_,_,h,_⟩<;>cases h
  case ret=>exact wp_ret (hq .ret a m act w h hs)
  all_goals first
   |(simp at hc;done)
   |(split at hc<;>simp at hc)
 |bad=>
  intro c hc Q Q' a m act w h hs hq
  simp only[CC.wp] at h
 |kill l x ih=>
  intro c hc Q Q' a m act w h hs hq
  exact ih c (by simpa only[CC.erase] using hc) Q Q' (a.forget l) m act w h (hs.forget l) hq
 |fin l x ih=>
  intro c hc Q Q' a m act w h hs hq
  simp only[CC.wp] at h
  refine ih c (by simpa only[CC.erase] using hc) _ Q' a m act w h hs fun e a m act w k1 k2=>?_
  cases e with
  |normal=>exact hq .normal _ m act w k1 (k2.forget l)
  |exit id=>exact hq (.exit id) a m act w k1 k2
  |ret=>exact hq .ret a m act w k1 k2
end
inductive ARes where
 |tmp (t:Nat)
 |cell (t n:Nat) (agg:Bool)
def ARes.ev (a:AFrame) (m:AMem):ARes→Option AVal
 | .tmp t=>some (a.ev (.t t))
 | .cell t n agg=>(ROp.load n agg (.t t)).ev a m
def resEv (a:AFrame) (m:AMem):List ARes→Option (List AVal)
 | []=>some []
 |r::rs=>match r.ev a m,resEv a m rs with
  |some x,some xs=>some (x::xs)
  |_,_=>none
def resOf (a:AFrame) (m:AMem) (rs:List ARes):Option AVal:=
 match resEv a m rs with
 |some [x]=>some x
 |some xs=>some (.tuple xs)
 |none=>none
structure CFn where
 nt:Nat
 body:CC
 res:List ARes
def cRes (P:Program):List ResultVar→Option (List ARes)
 | []=>some []
 | .tmp t::r=>(cRes P r).map (.tmp t:: ·)
 | .cell a t::r=>match szOf P t,aggOf P t,cRes P r with
  |some n,some b,some r=>some (.cell a n b::r)
  |_,_,_=>none
def cFn (P:Program) (f:FuncId):Option CFn:=
 match P.funcs[f]? with
 |some fn=>if fn.name== "runtime.NumGoroutine" then none else match fn.body with
  |some c=>match cCode P c,cRes P fn.results.toList with
   |some c,some r=>some ⟨fn.ntmps,c,r⟩
   |_,_=>none
  |none=>none
 |none=>none
def resVar (tmps:Array Value):ResultVar→Sem Value
 | .tmp t=>pure (tmps.getD t undef)
 | .cell a t=>do loadVar t (←asAddr (tmps.getD a undef))
theorem results_eq (fn:Func) (tmps:Array Value):results fn tmps=(do let vs ←fn.results.mapM (resVar tmps);pure (if h:vs.size=1 then vs[0] else .tuple vs):Sem Value):=by
 unfold results
 congr 1
theorem res_ok {P:Program} {ρ:List RB} {a:AFrame} {m:AMem} {tmps:Array Value} {w:World} (hs:Sim ρ m w) (hgl:Glob ρ m w) (hf:FR ρ a tmps): ∀(rs:List ResultVar) (cs:List ARes) (xs:List AVal),cRes P rs=some cs→resEv a m cs=some xs→
  ∃vs:List Value,(rs.mapM (resVar tmps)).run P w= .ok vs w∧VRs ρ xs vs
 | [],cs,xs,hc,hx=>by
  simp only[cRes,Option.some.injEq] at hc
  subst hc
  simp only[resEv,Option.some.injEq] at hx
  subst hx
  exact ⟨[],rfl,by simp[VRs]⟩
 | .tmp t::r,cs,xs,hc,hx=>by
  simp only[cRes,Option.map_eq_some_iff] at hc
  obtain ⟨cr,hcr,rfl⟩:=hc
  simp only[resEv,ARes.ev] at hx
  split at hx
  ·rename_i x xs' h1 h2
   simp only[Option.some.injEq] at h1 hx
   subst h1 hx
   obtain ⟨vs,h3,h4⟩:=res_ok hs hgl hf r cr xs' hcr h2
   have hv:=FR.ev (act:=⟨tmps,[]⟩) hf (x:= .tmp t) (y:= .t t) rfl
   exact ⟨tmps.getD t undef::vs,by simp only[List.mapM_cons,resVar,Sem.run_bind,Sem.run_pure,Result.andThen_ok,h3],by simp only[VRs];exact ⟨_,_,rfl,hv,h4⟩⟩
  ·simp at hx
 | .cell q t::r,cs,xs,hc,hx=>by
  simp only[cRes] at hc
  split at hc
  ·rename_i n b cr h1 h2 hcr
   simp only[Option.some.injEq] at hc
   subst hc
   simp only[resEv,ARes.ev] at hx
   split at hx
   ·rename_i x xs' h5 h6
    simp only[Option.some.injEq] at hx
    subst hx
    obtain ⟨vs,h3,h4⟩:=res_ok hs hgl hf r cr xs' hcr h6
    have hld: ∃v,(loadVar t ((match tmps.getD q undef with| .pointer (some a)=>a|_=>⟨0,0,none⟩))).run P w= .ok v w∧VR ρ x v∧ ∃a,tmps.getD q undef= .pointer (some a):=by
     obtain ⟨v,e1,e2⟩:=cRead_ok (P:=P) (o:={dst:=none,op:= .load t (.tmp q),type:=0,pos:= "",after:= #[],guard:=none}) (r:= .load n b (.t q)) (by simp[cRead,h1,h2,cArg]) (act:=⟨tmps,[]⟩) hf hs hgl h5
     have hv:=FR.ev (act:=⟨tmps,[]⟩) hf (x:= .tmp q) (y:= .t q) rfl
     simp only[ROp.ev] at h5
     split at h5
     ·rename_i B of he
      rw[he] at hv
      simp only[VR] at hv
      obtain ⟨A,_,hv⟩:=hv
      simp only[Act.eval] at hv
      refine ⟨v,?_,e2,_,hv⟩
      simp only[execOp,Act.eval,hv,Instr.loadAt,Instr.sureAddr,pure_bind,Sem.run_bind] at e1
      rw[hv]
      cases hr:(loadVar t ⟨A.block,A.off+of,none⟩).run P w with
      |ok u w'=>rw[hr] at e1;simp only[Result.andThen_ok,Sem.run_pure,Result.ok.injEq,Next.value.injEq] at e1;simp only[e1]
      |halt h w'=>rw[hr] at e1;simp at e1
     ·rename_i B of he
      rw[he] at hv
      simp only[VR,Act.eval] at hv
      refine ⟨v,?_,e2,_,hv⟩
      simp only[execOp,Act.eval,hv,Instr.loadAt,Instr.sureAddr,pure_bind,Sem.run_bind] at e1
      rw[hv]
      cases hr:(loadVar t ⟨B,of,none⟩).run P w with
      |ok u w'=>rw[hr] at e1;simp only[Result.andThen_ok,Sem.run_pure,Result.ok.injEq,Next.value.injEq] at e1;simp only[e1]
      |halt h w'=>rw[hr] at e1;simp at e1
     ·cases h5
    obtain ⟨v,e1,e2,A,e3⟩:=hld
    rw[e3] at e1
    have ha:(asAddr (tmps.getD q undef)).run P w= .ok A w:=by rw[e3];rfl
    exact ⟨v::vs,by simp only[List.mapM_cons,resVar,Sem.run_bind,ha,Sem.run_pure,Result.andThen_ok,e1,h3],by simp only[VRs];exact ⟨_,_,rfl,e2,h4⟩⟩
   ·simp at hx
  ·simp at hc
theorem resOf_ok {P:Program} {ρ:List RB} {a:AFrame} {m:AMem} {tmps:Array Value} {w:World} {fn:Func} {cs:List ARes} {x:AVal} (hs:Sim ρ m w) (hgl:Glob ρ m w) (hf:FR ρ a tmps) (hc:cRes P fn.results.toList=some cs) (hx:resOf a m cs=some x):
  ∃v,(results fn tmps).run P w= .ok v w∧VR ρ x v:=by
 unfold resOf at hx
 have hm: ∀vs:List Value,(fn.results.toList.mapM (resVar tmps)).run P w= .ok vs w→(results fn tmps).run P w= .ok (if h:vs.toArray.size=1 then vs.toArray[0] else .tuple vs.toArray) w:=by
  intro vs h
  rw[results_eq,Sem.run_bind,Array.mapM_eq_mapM_toList,Sem.run_map,h]
  rfl
 cases he:resEv a m cs with
 |none=>rw[he] at hx;simp at hx
 |some xs=>
  rw[he] at hx
  obtain ⟨vs,h1,h2⟩:=res_ok (P:=P) hs hgl hf _ cs xs hc he
  have hl:=h2.length
  refine ⟨_,hm vs h1,?_⟩
  match xs,hx,h2,hl with
  | [],hx,h2,hl=>
   simp only[Option.some.injEq] at hx
   subst hx
   rw[dif_neg (by simp only[List.size_toArray,hl,List.length_nil];omega)]
   simp only[VR]
   exact ⟨_,rfl,by simpa using h2⟩
  | [y],hx,h2,hl=>
   simp only[Option.some.injEq] at hx
   subst hx
   simp only[VRs] at h2
   obtain ⟨v,vs',rfl,hv,rfl⟩:=h2
   simpa using hv
  |y::z::r,hx,h2,hl=>
   simp only[Option.some.injEq] at hx
   subst hx
   rw[dif_neg (by simp only[List.size_toArray,hl,List.length_cons];omega)]
   simp only[VR]
   exact ⟨_,rfl,by simpa using h2⟩
def retPost (rs:List ARes) (R:AVal→AMem→Prop):AEx→AFrame→AMem→Prop
 | .normal,a,m| .ret,a,m=>match resOf a m rs with
  |some v=>R v m
  |none=>False
 | .exit _,_,_=>False
theorem enter {P:Program} (hmix:P.follows .mixedOrders=true) {f:FuncId} {cf:CFn} (hc:cFn P f=some ⟨cf.nt,cf.body.erase,cf.res⟩) {args:List AVal} {m:AMem} {R:AVal→AMem→Prop}
  (h:cf.body.wp P (retPost cf.res R) (args++List.replicate (cf.nt-args.length) .undef) m):ACalls P f args m R:=by
 unfold cFn at hc
 split at hc
 ·rename_i fn hfn
  split at hc
  ·simp at hc
  ·rename_i hname
   split at hc
   ·rename_i c hbody
    split at hc
    ·rename_i cc cr hcc hcr
     simp only[Option.some.injEq,CFn.mk.injEq] at hc
     obtain ⟨hnt,rfl,rfl⟩:=hc
     refine ⟨⟨fn,hfn,by simpa using hname,by simp[hbody]⟩,fun ρ w args' hs hg hv=>?_⟩
     refine calls_of_wp hfn hbody (CC.wp_ok (ρ0:=ρ) (m0:=m) (w0:=w) hmix hg cf.body c hcc _ _ _ _ _ _ h ⟨⟨ρ,hs,?_,Evol.refl _ _ _⟩,rfl⟩ ?_)
     ·have hl:=hv.length
      simp only[Array.length_toList] at hl
      refine ⟨by simp[hl,hnt],fun i x hx=>?_⟩
      rcases Nat.lt_or_ge i args.length with hi|hi
      ·rw[List.getElem?_append_left hi] at hx
       obtain ⟨v,h1,h2⟩:=hv.get i x hx
       exact ⟨v,by rw[Array.getElem?_append_left (by omega)];simpa using h1,h2⟩
      ·rw[List.getElem?_append_right hi,List.getElem?_replicate] at hx
       split at hx
       ·rename_i hlt
        simp only[Option.some.injEq] at hx
        subst hx
        exact ⟨undef,by rw[Array.getElem?_append_right (by omega),Array.getElem?_replicate,if_pos (by omega)],by simp[VR]⟩
       ·simp at hx
     ·intro e a m' act w' hq hsr
      obtain ⟨⟨ρ',h1,h2,h3⟩,hd⟩:=hsr
      have fin:(match resOf a m' cf.res with|some v=>R v m'|none=>False)→act.defers= []∧ ∃v,(results fn act.tmps).run P w'= .ok v w'∧ ∃v' x m'' ρ'',Ending.returned v= .returned v'∧R x m''∧VR ρ'' x v'∧Sim ρ'' m'' w'∧Evol ρ m w ρ'' m'' w':=by
       intro hq
       split at hq
       ·rename_i x hx
        obtain ⟨v,k1,k2⟩:=resOf_ok h1 (hg.evol h3) h2 hcr hx
        exact ⟨hd,v,k1,v,x,m',ρ',rfl,hq,k2,h1,h3⟩
       ·exact hq.elim
      cases e with
      |normal=>exact fin hq
      |ret=>exact fin hq
      |exit id=>exact hq.elim
    ·simp at hc
   ·simp at hc
 ·simp at hc
end Go.Proofs.YtlniliigcnedmaaGreatDoor.Ax
