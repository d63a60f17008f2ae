/- Layer 22's laws.  Conditions: none beyond those stated. -/
import Derived.Test.YtodhalcpnmddjaaDoorRf1
import Derived.RangeFuncRecord
import Derived.RangeFuncLeaves
set_option linter.unusedSimpArgs false
set_option linter.unusedVariables false
set_option linter.unusedSectionVars false
namespace Go.Proofs.YtodhalcpnmddjaaDoor.Ax
open Go
inductive CC where
 |skip
 |reg (is:List CI)
 |draw (cw:Bool) (is:List CI) (av late:List (List Nat)) (π:List Nat)
 |draw2 (cw:Bool) (is:List CI) (av late:List (List Nat)) (π π2:List Nat)
 |seq (x y:CC)
 |cond (c:Arg) (x y:CC)
 |block (id:Nat) (x:CC)
 |loop (x:CC)
 |exit (id:Nat)
 |ret
 |kill (l:List Nat) (x:CC)
 |fin (l:List Nat) (x:CC)
 |bad
 |rfn (g:Arg) (ps:List Nat) (x y:CC)
def CC.erase:CC→CC
 | .seq x y=> .seq x.erase y.erase
 | .cond c x y=> .cond c x.erase y.erase
 | .block id x=> .block id x.erase
 | .loop x=> .loop x.erase
 | .kill _ x=>x.erase
 | .fin _ x=>x.erase
 | .rfn g ps x y=> .rfn g ps x.erase y.erase
 |x=>x
def CC.flat:CC→Bool
 | .seq x y=>x.flat&&y.flat
 | .cond _ x y=>x.flat&&y.flat
 | .block _ x=>x.flat
 | .loop x=>x.flat
 | .kill _ x=>x.flat
 | .fin _ x=>x.flat
 | .rfn .. =>false
 |_=>true
theorem CC.flat_erase: ∀c:CC,c.erase.flat=c.flat
 | .seq x y=>by simp[CC.erase,CC.flat,CC.flat_erase x,CC.flat_erase y]
 | .cond _ x y=>by simp[CC.erase,CC.flat,CC.flat_erase x,CC.flat_erase y]
 | .block _ x=>by simp[CC.erase,CC.flat,CC.flat_erase x]
 | .loop x=>by simp[CC.erase,CC.flat,CC.flat_erase x]
 | .kill _ x=>by simp[CC.erase,CC.flat,CC.flat_erase x]
 | .fin _ x=>by simp[CC.erase,CC.flat,CC.flat_erase x]
 | .rfn .. =>rfl
 | .skip=>rfl
 | .reg _=>rfl
 | .draw .. =>rfl
 | .draw2 .. =>rfl
 | .exit _=>rfl
 | .ret=>rfl
 | .bad=>rfl
def sget:List (Nat×AVal)→Nat→AVal
 | [],_=> .undef
 |(k,v)::r,n=>if k=n then v else sget r n
def mat (nt:Nat) (sf:List (Nat×AVal)):AFrame:=(List.range nt).map (sget sf)
def AFrame.forget (a:AFrame) (l:List Nat):AFrame:=mat a.length (l.map fun n=>(n,a.getD n .undef))
theorem sget_keep (a:AFrame): ∀(l:List Nat) (n:Nat),sget (l.map fun n=>(n,a.getD n .undef)) n=a.getD n .undef∨sget (l.map fun n=>(n,a.getD n .undef)) n= .undef
 | [],n=> .inr rfl
 |k::l,n=>by
  simp only[List.map_cons,sget]
  split
  ·rename_i h;subst h;exact .inl rfl
  ·exact sget_keep a l n
def piOf (cw:Bool) (ops:Array Oper) (is:List CI):Nat→Array Bool→List Nat
 |0,_=> []
 |n+1,listed=>
  let rs:=Region.ready .any ops listed
  match rs.find? fun i=>match is[i]? with|some c=> !c.op.isW cw|none=>false with
  |some i=>i::piOf cw ops is n (listed.setIfInBounds i true)
  |none=>match rs with
   |i::_=>i::piOf cw ops is n (listed.setIfInBounds i true)
   | []=> []
def piOf2 (cw:Bool) (ops:Array Oper) (is:List CI):Nat→Array Bool→List Nat
 |0,_=> []
 |n+1,listed=>
  let rs:=Region.ready .any ops listed
  match rs.find? fun i=>match is[i]? with|some c=> !c.op.isW cw|none=>false with
  |some i=>i::piOf2 cw ops is n (listed.setIfInBounds i true)
  |none=>match rs.reverse with
   |i::_=>i::piOf2 cw ops is n (listed.setIfInBounds i true)
   | []=> []
def COp.isC:COp→Bool
 | .C _ _=>true
 |_=>false
def checkPi2 (cw:Bool) (ops:Array Oper) (bf:Array Nat) (is:List CI) (av late:Nat→List Nat):List Nat→List Nat→Array Bool→Bool
 |i::r,i'::r',listed=>(Region.ready .any ops listed).contains i&&(late i).all (fun k=>listed.getD k false)&&(match is[i]? with
   |none=>false
   |some ci=>if i=i' then !ci.op.isC&&((List.range ops.size).all fun j=>j==i||listed.getD j true||tp bf j i||(match is[j]? with
     |none=>false
     |some cj=>checkFree true bf cw is av late i j ci cj))&&checkPi2 cw ops bf is av late r r' (listed.setIfInBounds i true)
    else (Region.ready .any ops listed).all (fun k=>k==i||k==i')&&(late i').all (fun k=>listed.getD k false)&&checkPi true cw ops bf is av late r (listed.setIfInBounds i true)&&checkPi true cw ops bf is av late r' (listed.setIfInBounds i' true)&&r'.length==r.length)
 |_,_,_=>false
def COp.isEv:COp→Bool
 | .A _| .C _ _=>true
 |_=>false
def avOf (bf:Array Nat) (is:List CI):List (List Nat):=
 (List.range is.length).map fun i=>(List.range is.length).filter fun j=>tp bf i j&&(match is[j]? with|some c=>c.op.isEv|none=>false)
def lateIx (cw:Bool) (bf:Array Nat) (is:List CI):List (List Nat):=
 (List.range is.length).map fun j=>match (is[j]? :Option CI) with
  |some c=>if c.op.isW cw then (List.range is.length).filter fun i=>i !=j&& !tp bf i j&& !tp bf j i&&(match (is[i]? :Option CI) with|some ⟨some _,.R _,none⟩=>true|_=>false) else []
  |none=> []
def maxDst (is:List CI):Nat:=is.foldl (fun n c=>match c.dst with|some d=>max n (d+1)|none=>n) 0
def cDraw (P:Program) (ops:Array Oper):Option CC:=
 match cInstrs P ops ops.toList with
 |none=>none
 |some is=>
  let bf:=Region.before ops
  let av:=avOf bf is
  let hard:=(is.filter fun c=>c.op.isC).length==3&&is.any fun c=>match c.op with| .C _ [_,_,.c .nilslice]=>true|_=>false
  let go:=fun (wk cw:Bool) (r:Option CC)=>
   let late:=lateIx cw bf is
   let π:=piOf cw ops is ops.size (Array.replicate ops.size false)
   if checkPi wk cw ops bf is (fun i=>av.getD i []) (fun i=>late.getD i []) π (Array.replicate ops.size false)&&π.length==ops.size then some (.draw cw is av late π) else r
  let go2:=fun (cw:Bool) (r:Option CC)=>
   let late:=lateIx cw bf is
   let π:=piOf cw ops is ops.size (Array.replicate ops.size false)
   let π2:=piOf2 cw ops is ops.size (Array.replicate ops.size false)
   if checkPi2 cw ops bf is (fun i=>av.getD i []) (fun i=>late.getD i []) π π2 (Array.replicate ops.size false)&&π.length==ops.size then some (.draw2 cw is av late π π2) else r
  let rest:=go false false (go2 true (go true true none))
  go false true (if hard then go true true rest else rest)
def hasPanic (ops:Array Oper):Bool:=ops.any fun o=>match o.op with| .panic _=>true|_=>false
def cCode (P:Program):Code→Option CC
 | .skip=>some .skip
 | .region _ ops draw=>if hasPanic ops then some .bad else if draw then cDraw P ops else (cInstrs P ops ops.toList).map .reg
 | .seq x y=>match cCode P x,cCode P y with
  |some x,some y=>some (.seq x y)
  |_,_=>none
 | .cond c x y=>match cArg c,cCode P x,cCode P y with
  |some c,some x,some y=>some (.cond c x y)
  |_,_,_=>none
 | .block id x=>(cCode P x).map (.block id)
 | .loop x=>(cCode P x).map .loop
 | .exit id=>some (.exit id)
 | .ret=>some .ret
 | .refuse _=>some .bad
 | .rangeFunc g ps x y=>match cArg g,cCode P x,cCode P y with
  |some g,some x,some y=>if x.flat&&y.flat then some (.rfn g ps.toList x y) else none
  |_,_,_=>none
 |_=>none
inductive AEx where
 |normal
 |exit (id:Nat)
 |ret
def AEx.real:AEx→Exit
 | .normal=> .normal
 | .exit id=> .exit id
 | .ret=> .ret
def AEx.then (next:AFrame→AMem→Prop) (Q:AEx→AFrame→AMem→Prop):AEx→AFrame→AMem→Prop
 | .normal=>next
 | .exit id=>Q (.exit id)
 | .ret=>Q .ret
def AEx.inBlock (id:Nat) (Q:AEx→AFrame→AMem→Prop):AEx→AFrame→AMem→Prop
 | .normal=>Q .normal
 | .exit k=>if k=id then Q .normal else Q (.exit k)
 | .ret=>Q .ret
def AFrame.puts (a:AFrame):List Nat→List AVal→AFrame
 |p::ps,x::xs=>AFrame.puts (a.putO (some p) x) ps xs
 |_,_=>a
def rndPost (i:Nat) (R B:ABlk) (X:AEx→ABlk) (K:AVal→AMem→Prop):AEx→AFrame→AMem→Prop
 | .normal,_,m=>m[i]? =some B∧K (.bool true) (m.set i R)
 |e,_,m=>m[i]? =some B∧K (.bool false) (m.set i (X e))
def CC.wp (P:Program):CC→(AEx→AFrame→AMem→Prop)→AFrame→AMem→Prop
 | .skip,Q,a,m=>Q .normal a m
 | .reg is,Q,a,m=>CI.list P (Q .normal) is a m
 | .draw cw is av late π,Q,a,m=>(maxDst is≤a.length)∧ ∃ks,LW cw P ks is (fun i=>av.getD i []) (fun i=>late.getD i []) (Q .normal) π a noFacts m
 | .draw2 cw is av late π π2,Q,a,m=>(maxDst is≤a.length)∧ ∃ks,LW cw P ks is (fun i=>av.getD i []) (fun i=>late.getD i []) (Q .normal) π a noFacts m∧LW cw P ks is (fun i=>av.getD i []) (fun i=>late.getD i []) (Q .normal) π2 a noFacts m
 | .seq x y,Q,a,m=>x.wp P (AEx.then (fun a m=>y.wp P Q a m) Q) a m
 | .cond c x y,Q,a,m=>match a.ev c with
  | .bool b=>(b=true→x.wp P Q a m)∧(b=false→y.wp P Q a m)
  |_=>False
 | .block id x,Q,a,m=>x.wp P (AEx.inBlock id Q) a m
 | .loop x,Q,a,m=> ∃I:Nat→AFrame→AMem→Prop,(∃n,I n a m)∧ ∀n a m,I n a m→x.wp P (AEx.then (fun a' m'=> ∃n',n'<n∧I n' a' m') Q) a m
 | .exit id,Q,a,m=>Q (.exit id) a m
 | .ret,Q,a,m=>Q .ret a m
 | .kill l x,Q,a,m=>x.wp P Q (a.forget l) m
 | .fin l x,Q,a,m=>x.wp P (AEx.then (fun a m=>Q .normal (a.forget l) m) Q) a m
 | .bad,_,_,_=>False
 | .rfn g ps x y,Q,a,m=> ∃gf cs,a.ev g= .func (.func gf) [] cs∧ ∀(l:Nat) (R B:ABlk) (X:AEx→ABlk),
   (∀(asv:List AVal) (m':AMem) (K:AVal→AMem→Prop),asv.length=ps.length→m'[m.length]? =some R→
    x.wp P (AEx.then (fun a' m2=>m2[m.length]? =some R∧y.wp P (rndPost m.length R B X K) a' (m2.set m.length B)) (fun _ _ _=>False)) (a.puts ps asv) m'→AYields P l asv m' K)→
   ACalls P gf (.func (.yield l) [] []::cs) (m++ [R]) fun _ m'=>
    (m'[m.length]? =some R∧Q .normal a (m'.set m.length .dead))∨ ∃e,(∀h:e= .normal,False)∧m'[m.length]? =some (X e)∧Q e a (m'.set m.length .dead)
def Marks (ρ:List RB) (m:AMem) (w0 w:World) (ds:List Deferred):Prop:=
 ∃rs:List Nat,ds=rs.map (fun r=>{target:= .collected r,args:= #[]})∧rs.Nodup∧ ∀r∈rs,w.heap[r]? =some (.deferred (some []))∧ ¬Owned ρ m r∧w0.heap.size≤r
theorem Marks.evol {ρ ρ':List RB} {m m':AMem} {w0 w w':World} {ds:List Deferred} (h:Marks ρ m w0 w ds) (e:Evol ρ m w ρ' m' w'):Marks ρ' m' w0 w' ds:=by
 obtain ⟨rs,h1,h2,h3⟩:=h
 refine ⟨rs,h1,h2,fun r hr=>?_⟩
 obtain ⟨k1,k2,k3⟩:=h3 r hr
 have hlt:r<w.heap.size:=(Array.getElem?_eq_some_iff.1 k1).1
 refine ⟨by rw[e.frame r hlt k2];exact k1,fun ho=>?_,k3⟩
 rcases e.own r ho with h|h
 ·omega
 ·exact k2 h
theorem Marks.nil {ρ:List RB} {m:AMem} {w0 w:World}:Marks ρ m w0 w []:=⟨[],rfl,List.nodup_nil,fun r hr=>by cases hr⟩
structure SR (ρ0:List RB) (m0:AMem) (w0:World) (a:AFrame) (m:AMem) (act:Act) (w:World):Prop where
 ex: ∃ρ,Sim ρ m w∧FR ρ a act.tmps∧Evol ρ0 m0 w0 ρ m w∧Marks ρ m w0 w act.defers
section
variable {P:Program}
theorem prefix_stable_noFacts:Stable noFacts:=fun _ _ _ _ _=>trivial
theorem maxDst_ok (is:List CI) (c:CI) (hc:c∈is) (d:Nat) (hd:c.dst=some d):d<maxDst is:=by
 have mono: ∀(l:List CI) (n:Nat),n≤l.foldl (fun n c=>match c.dst with|some d=>max n (d+1)|none=>n) n:=by
  intro l
  induction l with
  |nil=>intro n;exact Nat.le_refl _
  |cons x l ih=>
   intro n
   rw[List.foldl_cons]
   refine Nat.le_trans ?_ (ih _)
   split
   ·omega
   ·exact Nat.le_refl _
 have key: ∀(l:List CI) (n:Nat),c∈l→d<l.foldl (fun n c=>match c.dst with|some d=>max n (d+1)|none=>n) n:=by
  intro l
  induction l with
  |nil=>intro n h;cases h
  |cons x l ih=>
   intro n h
   rw[List.foldl_cons]
   cases h with
   |head=>
    refine Nat.lt_of_lt_of_le ?_ (mono l _)
    simp only[hd]
    omega
   |tail _ h=>exact ih _ h
 exact key is 0 hc
theorem SR.forget {ρ0:List RB} {m0:AMem} {w0:World} {a:AFrame} {m:AMem} {act:Act} {w:World} (h:SR ρ0 m0 w0 a m act w) (l:List Nat):SR ρ0 m0 w0 (a.forget l) m act w:=by
 obtain ⟨⟨ρ,h1,h2,h3⟩⟩:=h
 refine ⟨⟨ρ,h1,?_,h3⟩⟩
 refine ⟨by simpa[AFrame.forget,mat] using h2.len,fun i x hx=>?_⟩
 unfold AFrame.forget mat at hx
 rw[List.getElem?_map] at hx
 cases hr:(List.range a.length)[i]? with
 |none=>rw[hr] at hx;simp at hx
 |some k=>
  rw[hr] at hx
  simp only[Option.map_some,Option.some.injEq] at hx
  have hi:i<a.length:=by simpa using (List.getElem?_eq_some_iff.1 hr).1
  have hk:k=i:=by rw[List.getElem?_range hi] at hr;exact (Option.some.inj hr).symm
  subst hk
  obtain ⟨v,hv,hvr⟩:=h2.rel k _ (List.getElem?_eq_getElem hi)
  refine ⟨v,hv,?_⟩
  rcases sget_keep a l k with e|e
  ·rw[←hx,e]
   simpa[List.getD,hi] using hvr
  ·rw[←hx,e]
   simp[VR]
theorem dstep_and {cw:Bool} {ks:Nat→AVal→AMem→Prop} {lt:List (ROp×Nat)} {idx:Nat} {i:CI} {av:List Nat} {K K':AFrame→Facts→AMem→Prop} {a:AFrame} {fs:Facts} {m0:AMem} (hc:i.op.isC=false)
  (h:dstep cw P ks lt idx i av K a fs m0) (h':dstep cw P ks lt idx i av K' a fs m0):dstep cw P ks lt idx i av (fun a fs m=>K a fs m∧K' a fs m) a fs m0:=by
 unfold dstep at h h' ⊢
 split at h
 ·rename_i hw
  rw[if_pos hw] at h' ⊢
  intro m h1 h2
  have g:=h m h1 h2
  have g':=h' m h1 h2
  have core: ∀{J J' L:AVal→AMem→Prop},i.op.step P J a m→i.op.step P J' a m→(∀v m,J v m→J' v m→L v m)→i.op.step P L a m:=by
   intro J J' L e1 e2 hl
   cases ho:i.op<;>rw[ho] at e1 e2 hc<;>simp only[COp.step] at e1 e2 ⊢
   case C=>cases hc
   all_goals
    split at e1
    ·rename_i he
     try rw[he] at e2
     exact hl _ _ e1 e2
    ·exact e1.elim
  unfold CI.step at g g' ⊢
  cases hg:i.guard with
  |none=>
   rw[hg] at g g'
   exact core g g' fun v m p q=>⟨p.1,p.2,q.2⟩
  |some tw=>
   obtain ⟨t,w⟩:=tw
   rw[hg] at g g'
   simp only at g g' ⊢
   split at g
   ·rename_i hb;rw[hb] at g';exact core g g' fun v m p q=>⟨p.1,p.2,q.2⟩
   ·rename_i hb;rw[hb] at g';exact ⟨g.1,g.2,g'.2⟩
   ·exact g.elim
 ·rename_i hw
  rw[if_neg hw] at h' ⊢
  exact ⟨h.1,fun x hx=>⟨h.2 x hx,h'.2 x hx⟩⟩
theorem SA_of_LW2 {cw:Bool} {ks:Nat→AVal→AMem→Prop} {ops:Array Oper} {is:List CI} {av late:Nat→List Nat} {Q:AFrame→AMem→Prop} (hlen:is.length=ops.size): ∀(π π2:List Nat) (listed:Array Bool) (a:AFrame) (fs:Facts) (m0:AMem),DownClosed ops listed→(∀c∈is,∀d,c.dst=some d→d<a.length)→checkPi2 cw ops (Region.before ops) is av late π π2 listed=true→LW cw P ks is av late Q π a fs m0→LW cw P ks is av late Q π2 a fs m0→SA cw P ks ops is av late Q π.length listed a fs m0
 | [],_,listed,a,fs,m0,_,_,hc,_,_=>by simp[checkPi2] at hc
 |_::_,[],listed,a,fs,m0,_,_,hc,_,_=>by simp[checkPi2] at hc
 |i::r,i'::r',listed,a,fs,m0,hd,hla,hc,h,h'=>by
  simp only[checkPi2,Bool.and_eq_true] at hc
  obtain ⟨⟨hr,hlate⟩,hc⟩:=hc
  have hr:i∈Region.ready .any ops listed:=by simpa using hr
  simp only[LW] at h h'
  cases hi:is[i]? with
  |none=>rw[hi] at h;exact h.elim
  |some ci=>
   rw[hi] at h hc
   simp only at h hc
   have hfl:(late i).filter (fun k=>listed.getD k false)=late i:=List.filter_eq_self.2 fun k hk=>List.all_eq_true.1 hlate k hk
   split at hc
   ·rename_i he
    subst he
    rw[hi] at h'
    simp only[Bool.and_eq_true,Bool.not_eq_true'] at h' hc
    obtain ⟨⟨hC,hf⟩,hc⟩:=hc
    refine SA_first hi r.length listed a fs m0 hd hr hla (fun j cj hj hji hun=>?_) (by
     rw[hfl]
     exact dstep_mono (fun a' fs m0 hl h=>SA_of_LW2 hlen r r' _ a' fs m0 (hd.set hr) (fun c hc d hd=>by rw[hl];exact hla c hc d hd) hc h.1 h.2) (dstep_and hC h h'))
    have hjl:j<ops.size:=by rw[←hlen];exact (List.getElem?_eq_some_iff.1 hj).1
    have:=List.all_eq_true.1 hf j (by simpa using hjl)
    simp only[hj,Bool.or_eq_true,beq_iff_eq,hji,false_or,hun,Bool.false_eq_true] at this
    rcases this with h1|h1
    ·exact .inl (before_ok ops j i h1)
    ·exact .inr (checkFree_ok h1)
   ·simp only[Bool.and_eq_true,beq_iff_eq] at hc
    obtain ⟨⟨⟨⟨hall,hlate'⟩,hc1⟩,hc2⟩,hl⟩:=hc
    refine ⟨fun he=>?_,fun k hk ck hck=>?_⟩
    ·rw[he] at hr;cases hr
    ·have hk2:=List.all_eq_true.1 hall k hk
     simp only[Bool.or_eq_true,beq_iff_eq] at hk2
     rcases hk2 with rfl|rfl
     ·rw[hi] at hck
      cases hck
      rw[hfl]
      exact dstep_mono (fun a' fs m0 hl h=>SA_of_LW hlen r _ a' fs m0 (hd.set hk) (fun c hc d hd=>by rw[hl];exact hla c hc d hd) hc1 h) h
     ·rw[hck] at h'
      have hfl':(late k).filter (fun k=>listed.getD k false)=late k:=List.filter_eq_self.2 fun j hj=>List.all_eq_true.1 hlate' j hj
      rw[hfl',←hl]
      exact dstep_mono (fun a' fs m0 hl h=>SA_of_LW hlen r' _ a' fs m0 (hd.set hk) (fun c hc d hd=>by rw[hl];exact hla c hc d hd) hc2 h) h'
theorem FR.vrs {ρ:List RB} {a:AFrame} {tmps:Array Value} (h:FR ρ a tmps):VRs ρ a tmps.toList:=by
 refine VRs.of_get (by simpa using h.len.symm) fun i x v hx hv=>?_
 obtain ⟨u,hu,hr⟩:=h.rel i x hx
 rw[Array.getElem?_toList,hu] at hv
 cases hv
 exact hr
theorem FR.of_vrs {ρ:List RB} {a:AFrame} {tmps:Array Value} (h:VRs ρ a tmps.toList):FR ρ a tmps:=
 ⟨by simpa using h.length.symm,fun i x hx=>let ⟨v,h1,h2⟩:=h.get i x hx;⟨v,by simpa using h1,h2⟩⟩
theorem FR.puts {ρ:List RB}: ∀(ps:List Nat) (xs:List AVal) (us:List Value) {a:AFrame} {tmps:Array Value},FR ρ a tmps→VRs ρ xs us→FR ρ (a.puts ps xs) ((ps.zip us).foldl (fun t p=>t.setIfInBounds p.1 p.2) tmps)
 | [],xs,us,a,tmps,h,_=>by simpa[AFrame.puts] using h
 |p::ps,[],us,a,tmps,h,hv=>by
  simp only[VRs] at hv
  subst hv
  simpa[AFrame.puts] using h
 |p::ps,x::xs,us,a,tmps,h,hv=>by
  simp only[VRs] at hv
  obtain ⟨v,vs,rfl,h1,h2⟩:=hv
  simp only[AFrame.puts,List.zip_cons_cons,List.foldl_cons]
  exact FR.puts ps xs vs (FR.put (act:=⟨tmps,[]⟩) h (some p) h1) h2
theorem zip_foldl (ps:Array Nat) (us tmps:Array Value):(ps.zip us).foldl (fun (t:Array Value) (p:Nat×Value)=>t.setIfInBounds p.1 p.2) tmps=(ps.toList.zip us.toList).foldl (fun t p=>t.setIfInBounds p.1 p.2) tmps:=by
 rw[←Array.foldl_toList,Array.toList_zip]
def AEx.code:AEx→Code
 | .normal=> .skip
 | .exit id=> .exit id
 | .ret=> .ret
abbrev recOf (fn:FuncId) (tmps:Array Value) (ps:Array Tmp) (x y:Code) (d:Nat) (st:LoopState) (pe:Option Code):Loop:={state:=st,pending:=pe,fn,tmps,params:=ps,assign:=x,body:=y,defers:=d}
theorem Sim.obj {ρ:List RB} {m:AMem} {w:World} (h:Sim ρ m w) {b l:Nat} {o:Obj} {vs:List AVal} {us:List Value} (hb:m[b]? =some (.obj l o vs us)): ∃a,ρ[b]? =some a∧a.block=l∧w.heap[l]? =some o∧VRs ρ vs us:=by
 have hlt:b<ρ.length:=by rw[h.len];exact (List.getElem?_eq_some_iff.1 hb).1
 refine ⟨ρ[b],List.getElem?_eq_getElem hlt,?_⟩
 obtain ⟨h1,h2,h3⟩:=h.ok b _ _ hb (List.getElem?_eq_getElem hlt)
 exact ⟨h1,by rw[h1] at h2;exact h2,h3⟩
theorem Sim.turnObj {ρ:List RB} {m:AMem} {w:World} (h:Sim ρ m w) {b l:Nat} {o:Obj} {vs:List AVal} {us:List Value} (hb:m[b]? =some (.obj l o vs us)) (o':Obj):Sim ρ (m.set b (.obj l o' vs us)) (w.putObj l o')∧Evol ρ m w ρ (m.set b (.obj l o' vs us)) (w.putObj l o'):=by
 obtain ⟨a,ha,hl,ho,hv⟩:=h.obj hb
 have:=h.setObj hb rfl ha o' hv
 rw[hl] at this
 exact this
def OkCode (P:Program) (rd:Option Nat) (cc:CC) (c:Code):Prop:=
 ∀(n:Nat) (ρ0:List RB) (m0:AMem) (w0:World),Glob ρ0 m0 w0→ ∀(Q:AEx→AFrame→AMem→Prop) (Q':Exit→Act→World→Prop) (a:AFrame) (m:AMem) (act:Act) (w:World),cc.wp P Q a m→SR ρ0 m0 w0 a m act w→
  (∀e a m act w,Q e a m→SR ρ0 m0 w0 a m act w→Q' (AEx.real e) act w)→c.wpIn (rdF rd) n P Q' act w
theorem rfn_round {x y:CC} {cx cy:Code} {l i:Nat} {fn:FuncId} {a:AFrame} {tmps:Array Value} {rps:Array Tmp} {d:Nat} (hx: ∀l,OkCode P (some l) x cx) (hy: ∀l,OkCode P (some l) y cy) {asv:List AVal} {m':AMem} {K:AVal→AMem→Prop} (hlen:asv.length=rps.toList.length)
  (hR:m'[i]? =some (.obj l (.loop (recOf fn tmps rps cx cy d .ready none)) a tmps.toList))
  (hwp:x.wp P (AEx.then (fun a' m2=>m2[i]? =some (.obj l (.loop (recOf fn tmps rps cx cy d .ready none)) a tmps.toList)∧y.wp P (rndPost i (.obj l (.loop (recOf fn tmps rps cx cy d .ready none)) a tmps.toList) (.obj l (.loop (recOf fn tmps rps cx cy d .busy none)) a tmps.toList)
   (fun e=> .obj l (.loop (recOf fn tmps rps cx cy d .done (some e.code))) a tmps.toList) K) a' (m2.set i (.obj l (.loop (recOf fn tmps rps cx cy d .busy none)) a tmps.toList))) (fun _ _ _=>False)) (a.puts rps.toList asv) m'):AYields P l asv m' K:=by
 intro ρr wr args' hsr hgr hvr
 obtain ⟨_,_,_,hlo,hvs⟩:=hsr.obj hR
 have hargs:args'.size=rps.size:=by
  have:=hvr.length
  simp only[Array.length_toList] at this
  rw[this,hlen,Array.length_toList]
 refine ⟨_,_,_,_,run_yield (P:=P) (args:=args') hlo hargs,roundIn_of_wpIn (F:=Fence.wide) trivial ?_⟩
 have hput:=FR.puts rps.toList asv args'.toList (FR.of_vrs hvs) hvr
 refine hx l 0 ρr m' wr hgr _ _ _ m' _ wr hwp ⟨⟨ρr,hsr,?_,Evol.refl _ _ _,Marks.nil⟩⟩ ?_
 ·rw[←zip_foldl] at hput
  exact hput
 ·intro e a2 m2 act2 w2 hq2 hs2
  cases e with
  |exit id=>exact hq2.elim
  |ret=>exact hq2.elim
  |normal=>
   obtain ⟨hR2,hwp2⟩:=hq2
   obtain ⟨⟨ρ2,k1,k2,k3,k4⟩⟩:=hs2
   obtain ⟨_,_,_,hlo2,hvs2⟩:=k1.obj hR2
   obtain ⟨s3,e3⟩:=k1.turnObj hR2 (.loop (recOf fn tmps rps cx cy d .busy none))
   refine ⟨_,run_beginRound hlo2 rfl,?_⟩
   refine hy l 0 ρr m' wr hgr _ _ a2 _ act2 _ hwp2 ⟨⟨ρ2,s3,k2,k3.trans e3,k4.evol e3⟩⟩ ?_
   intro e a3 m3 act3 w3 hq3 hs3
   obtain ⟨⟨ρ3,j1,j2,j3,j4⟩⟩:=hs3
   cases e with
   |normal=>
    obtain ⟨hB,hK⟩:=hq3
    obtain ⟨_,_,_,hlo3,_⟩:=j1.obj hB
    obtain ⟨s4,e4⟩:=j1.turnObj hB (.loop (recOf fn tmps rps cx cy d .ready none))
    exact ⟨_,_,run_endRound none hlo3,_,_,_,_,rfl,hK,by simp[VR],s4,j3.trans e4⟩
   |exit id=>
    obtain ⟨hB,hK⟩:=hq3
    obtain ⟨_,_,_,hlo3,_⟩:=j1.obj hB
    obtain ⟨s4,e4⟩:=j1.turnObj hB (.loop (recOf fn tmps rps cx cy d .done (some (.exit id))))
    exact ⟨_,_,run_endRound (some (.exit id)) hlo3,_,_,_,_,rfl,hK,by simp[VR],s4,j3.trans e4⟩
   |ret=>
    obtain ⟨hB,hK⟩:=hq3
    obtain ⟨_,_,_,hlo3,_⟩:=j1.obj hB
    obtain ⟨s4,e4⟩:=j1.turnObj hB (.loop (recOf fn tmps rps cx cy d .done (some .ret)))
    exact ⟨_,_,run_endRound (some .ret) hlo3,_,_,_,_,rfl,hK,by simp[VR],s4,j3.trans e4⟩
theorem marks_inj: ∀{rs rs':List Nat},rs.map (fun r=>({target:= .collected r,args:= #[]}:Deferred))=rs'.map (fun r=>{target:= .collected r,args:= #[]})→rs=rs'
 | [],[],_=>rfl
 | [],_::_,h=>by simp at h
 |_::_,[],h=>by simp at h
 |r::rs,r'::rs',h=>by
  simp only[List.map_cons,List.cons.injEq,Deferred.mk.injEq,Target.collected.injEq,and_true] at h
  rw[h.1,marks_inj h.2]
theorem Marks.push {ρ ρ1:List RB} {m m1:AMem} {w0 w W1:World} {ds:List Deferred} (hd:Marks ρ m w0 w ds) (h0:w0.heap.size≤w.heap.size) (e:Evol ρ m w ρ1 m1 W1) (hD:W1.heap[w.heap.size]? =some (.deferred (some []))) (hn: ¬Owned ρ1 m1 w.heap.size):
  Marks ρ1 m1 w0 W1 ({target:= .collected w.heap.size,args:= #[]}::ds):=by
 obtain ⟨rs,h1,h2,h3⟩:=hd.evol e
 obtain ⟨rs',h1',_,h3'⟩:=hd
 have hrs:rs=rs':=marks_inj (h1.symm.trans h1')
 subst hrs
 refine ⟨w.heap.size::rs,by simp[h1],List.nodup_cons.2 ⟨fun hm=>?_,h2⟩,fun r hr=>?_⟩
 ·have:=(Array.getElem?_eq_some_iff.1 (h3' _ hm).1).1
  omega
 ·rcases List.mem_cons.1 hr with rfl|hr
  ·exact ⟨hD,hn,h0⟩
  ·exact h3 r hr
theorem notOwned_push {ρ:List RB} {m:AMem} {w:World} (h:Sim ρ m w) {k:Nat} (hk:w.heap.size<k) (blk:ABlk): ¬Owned (ρ++ [(⟨k,0,0,0⟩:RB)]) (m++ [blk]) w.heap.size:=by
 rintro ⟨b,blk',q,hb,ho,hq1,hq2⟩
 rcases Nat.lt_or_ge b ρ.length with hlt|hge
 ·rw[List.getElem?_append_left hlt] at hq1
  have:=h.bound b q hq1
  omega
 ·rw[List.getElem?_append_right hge] at hq1
  cases hk':b-ρ.length with
  |zero=>rw[hk'] at hq1;simp only[List.getElem?_cons_zero,Option.some.injEq] at hq1;subst hq1;simp only at hq2;omega
  |succ k=>rw[hk'] at hq1;simp at hq1
theorem rfn_end {cx cy:Code} {rps:Array Tmp} {ρ ρ1 ρ' ρ0:List RB} {m m1 m' m0:AMem} {w W1 w' w0:World} {a:AFrame} {tmps us:Array Value} {fn:FuncId} {l i d:Nat} {ds:List Deferred} (hfr:FR ρ a tmps) (hev:Evol ρ0 m0 w0 ρ m w) (e01:Evol ρ m w ρ1 m1 W1) (hm:Marks ρ1 m1 w0 W1 ds) (hs':Sim ρ' m' w') (he':Evol ρ1 m1 W1 ρ' m' w')
  {st:LoopState} {pe:Option Code} (hR:m'[i]? =some (.obj l (.loop (recOf fn us rps cx cy d st pe)) a us.toList)) (hst:st≠ .busy):
  ∃w4,(Instr.endLoop l).run P w'= .ok pe w4∧SR ρ0 m0 w0 a (m'.set i .dead) {tmps:=tmps,defers:=ds} w4:=by
 obtain ⟨_,_,_,hlo,_⟩:=hs'.obj hR
 obtain ⟨s5,e5⟩:=hs'.turnObj hR (.loop (recOf fn us rps cx cy d .exhausted pe))
 obtain ⟨s6,e6⟩:=s5.kill i
 rw[List.set_set] at s6 e6
 have e56:=he'.trans (e5.trans e6)
 exact ⟨_,run_endLoop hlo hst,⟨⟨ρ',s6,hfr.mono (e01.pre.trans e56.pre),hev.trans (e01.trans e56),hm.evol e56⟩⟩⟩
theorem rfn_ok {n:Nat} {x y:CC} {cx cy:Code} {rg:Operand} {g:Arg} {rps:Array Tmp} {ρ0:List RB} {m0:AMem} {w0:World} (hg:cArg rg=some g) (hgl0:Glob ρ0 m0 w0) {Q:AEx→AFrame→AMem→Prop} {Q':Exit→Act→World→Prop} {a:AFrame} {m:AMem} {act:Act} {w:World} {gf:FuncId} {cs:List AVal} (hag:a.ev g= .func (.func gf) [] cs)
  (h: ∀(l:Nat) (R B:ABlk) (X:AEx→ABlk),
   (∀(asv:List AVal) (m':AMem) (K:AVal→AMem→Prop),asv.length=rps.toList.length→m'[m.length]? =some R→
    x.wp P (AEx.then (fun a' m2=>m2[m.length]? =some R∧y.wp P (rndPost m.length R B X K) a' (m2.set m.length B)) (fun _ _ _=>False)) (a.puts rps.toList asv) m'→AYields P l asv m' K)→
   ACalls P gf (.func (.yield l) [] []::cs) (m++ [R]) fun _ m'=>
    (m'[m.length]? =some R∧Q .normal a (m'.set m.length .dead))∨ ∃e,(∀h:e= .normal,False)∧m'[m.length]? =some (X e)∧Q e a (m'.set m.length .dead))
  (hs:SR ρ0 m0 w0 a m act w) (hx: ∀l,OkCode P (some l) x cx) (hy: ∀l,OkCode P (some l) y cy) (hq: ∀e a m act w,Q e a m→SR ρ0 m0 w0 a m act w→Q' (AEx.real e) act w):(Code.rangeFunc rg rps cx cy).wpIn (rdF none) n P Q' act w:=by
 obtain ⟨⟨ρ,hsim,hfr,hev,hd⟩⟩:=hs
 have hv:=hfr.ev hg
 rw[hag] at hv
 simp only[VR,VRs,Array.toList_eq_nil_iff] at hv
 obtain ⟨fs',cs',hv,rfl,hcs⟩:=hv
 refine wpIn_rangeFunc fun fn _=>?_
 obtain ⟨s0,e0⟩:=hsim.junk (.deferred (some []))
 obtain ⟨s1,e1⟩:=s0.newObj (.loop (recOf fn act.tmps rps cx cy w.heap.size .ready none)) hfr.vrs
 have hsz:(w.alloc (.deferred (some []))).heap.size=w.heap.size+1:=by simp
 rw[hsz] at s1 e1
 have hD:((w.alloc (.deferred (some []))).alloc (.loop (recOf fn act.tmps rps cx cy w.heap.size .ready none))).heap[w.heap.size]? =some (.deferred (some [])):=by
  rw[RowKit.Below.heap_alloc _ _ _ (by simp)]
  exact World.alloc_heap_new w _
 have henter:=run_enterLoop_outer (P:=P) (w:=w) fn act.tmps rps cx cy
 obtain ⟨W1,hW1⟩: ∃W1,(w.alloc (.deferred (some []))).alloc (.loop (recOf fn act.tmps rps cx cy w.heap.size .ready none))=W1:=⟨_,rfl⟩
 have s1':Sim (ρ++ [⟨w.heap.size+1,0,0,0⟩]) (m++ [.obj (w.heap.size+1) (.loop (recOf fn act.tmps rps cx cy w.heap.size .ready none)) a act.tmps.toList]) W1:=by rw[←hW1];exact s1
 have e01:Evol ρ m w (ρ++ [⟨w.heap.size+1,0,0,0⟩]) (m++ [.obj (w.heap.size+1) (.loop (recOf fn act.tmps rps cx cy w.heap.size .ready none)) a act.tmps.toList]) W1:=by rw[←hW1];exact e0.trans e1
 rw[hW1] at hD
 have hW1':(w.alloc (.deferred (some []))).alloc (.loop {state:= .ready,pending:=none,fn:=fn,tmps:=act.tmps,params:=rps,assign:=cx,body:=cy,defers:=w.heap.size})=W1:=hW1
 rw[hW1'] at henter
 clear s1 e1 s0 e0 hW1 hW1'
 have hyield:=h (w.heap.size+1) (.obj (w.heap.size+1) (.loop (recOf fn act.tmps rps cx cy w.heap.size .ready none)) a act.tmps.toList)
  (.obj (w.heap.size+1) (.loop (recOf fn act.tmps rps cx cy w.heap.size .busy none)) a act.tmps.toList)
  (fun e=> .obj (w.heap.size+1) (.loop (recOf fn act.tmps rps cx cy w.heap.size .done (some e.code))) a act.tmps.toList) (fun asv m' K hlen hR hwp=>rfn_round hx hy hlen hR hwp)
 obtain ⟨⟨fn',hfn,hname,hbody⟩,hcalls⟩:=hyield
 have hgl1:=hgl0.evol (hev.trans e01)
 have hargs:VRs (ρ++ [(⟨w.heap.size+1,0,0,0⟩:RB)]) (.func (.yield (w.heap.size+1)) [] []::cs) (#[Value.func (.yield (w.heap.size+1)) #[] #[]]++cs').toList:=by
  simp only[VRs,Array.toList_append,List.singleton_append,VR]
  exact ⟨_,_,rfl,⟨_,_,rfl,by simp[VRs],by simp[VRs]⟩,VRs.mono e01.pre _ _ hcs⟩
 have hm:=hd.push hev.size e01 hD (notOwned_push hsim (Nat.lt_succ_self _) _)
 have hcall:=hcalls _ _ _ s1' hgl1 hargs
 have hres:(resolve act.eval (rangeCall rg (w.heap.size+1)) 0).run P W1= .ok {target:= .fn (.func gf) cs',args:= #[.func (.yield (w.heap.size+1)) #[] #[]]} W1:=by
  simp only[resolve,hv]
  simp[go_sem]
 have hinv:(invoke (.fn (.func gf) cs') #[.func (.yield (w.heap.size+1)) #[] #[]]).run P W1= .ok (.enter gf (#[.func (.yield (w.heap.size+1)) #[] #[]]++cs')) W1:=by
  simp only[invoke,callFunc,Sem.run_bind,run_program,Result.andThen_ok,hfn,hname,hbody,Bool.false_eq_true,if_false,Sem.run_pure]
 have hpost:Calls P gf (#[.func (.yield (w.heap.size+1)) #[] #[]]++cs') W1 (rangePost (rdF none) n P (w.heap.size+1) Q' {act with defers:= [{target:= .collected w.heap.size,args:= #[]}]++act.defers}):=by
  refine hcall.mono fun e w' hh=>?_
  obtain ⟨v',v,m',ρ',he,hpost,_,hs',he'⟩:=hh
  subst he
  rcases hpost with ⟨hR,hQ⟩|⟨e,hne,hR,hQ⟩
  ·obtain ⟨w4,h1,h2⟩:=rfn_end (P:=P) hfr hev e01 hm hs' he' hR (by simp)
   exact ⟨none,w4,h1,hq .normal a _ _ w4 hQ h2⟩
  ·obtain ⟨w4,h1,h2⟩:=rfn_end (P:=P) hfr hev e01 hm hs' he' hR (by simp)
   cases e with
   |normal=>exact (hne rfl).elim
   |exit id=>exact ⟨_,w4,h1,wpIn_exit (hq (.exit id) a _ _ w4 hQ h2)⟩
   |ret=>exact ⟨_,w4,h1,wpIn_ret (hq .ret a _ _ w4 hQ h2)⟩
 exact ⟨w.heap.size+1,[{target:= .collected w.heap.size,args:= #[]}],W1,_,W1,gf,_,W1,henter,hres,fun _ _=>trivial,hinv,fun hd=>by simp[rdF,Fence.wide] at hd,calls_rd none hpost⟩
theorem CC.wp_ok (hmix:P.follows .mixedOrders=true): ∀(cc:CC) (rd:Option Nat),(rd.isSome=true→cc.flat=true)→ ∀(n:Nat) (ρ0:List RB) (m0:AMem) (w0:World),Glob ρ0 m0 w0→ ∀(c:Code),cCode P c=some cc.erase→ ∀(Q:AEx→AFrame→AMem→Prop) (Q':Exit→Act→World→Prop) (a:AFrame) (m:AMem) (act:Act) (w:World),cc.wp P Q a m→SR ρ0 m0 w0 a m act w→
  (∀e a m act w,Q e a m→SR ρ0 m0 w0 a m act w→Q' (AEx.real e) act w)→c.wpIn (rdF rd) n P Q' act w:=by
 have hreg: ∀id ops (draw:Bool) cc,cCode P (.region id ops draw)=some cc→(∃is,cc= .reg is∧draw=false∧cInstrs P ops ops.toList=some is)∨(∃wk cw is av late π,cc= .draw cw is av late π∧draw=true∧cInstrs P ops ops.toList=some is∧checkPi wk cw ops (Region.before ops) is (fun i=>av.getD i []) (fun i=>late.getD i []) π (Array.replicate ops.size false)=true∧π.length=ops.size)∨cc= .bad∨(∃cw is av late π π2,cc= .draw2 cw is av late π π2∧draw=true∧cInstrs P ops ops.toList=some is∧checkPi2 cw ops (Region.before ops) is (fun i=>av.getD i []) (fun i=>late.getD i []) π π2 (Array.replicate ops.size false)=true∧π.length=ops.size):=by
  intro id ops draw cc hc
  simp only[cCode] at hc
  split at hc
  ·simp only[Option.some.injEq] at hc
   exact .inr (.inr (.inl hc.symm))
  split at hc
  ·rename_i hdraw
   unfold cDraw at hc
   split at hc
   ·simp at hc
   ·rename_i is his
    simp only at hc
    have rest: ∀{r:Option CC},r=some cc→r=(if (checkPi false false ops (Region.before ops) is (fun i=>(avOf (Region.before ops) is).getD i []) (fun i=>(lateIx false (Region.before ops) is).getD i []) (piOf false ops is ops.size (Array.replicate ops.size false)) (Array.replicate ops.size false)&&(piOf false ops is ops.size (Array.replicate ops.size false)).length==ops.size)=true then some (.draw false is (avOf (Region.before ops) is) (lateIx false (Region.before ops) is) (piOf false ops is ops.size (Array.replicate ops.size false))) else
      if (checkPi2 true ops (Region.before ops) is (fun i=>(avOf (Region.before ops) is).getD i []) (fun i=>(lateIx true (Region.before ops) is).getD i []) (piOf true ops is ops.size (Array.replicate ops.size false)) (piOf2 true ops is ops.size (Array.replicate ops.size false)) (Array.replicate ops.size false)&&(piOf true ops is ops.size (Array.replicate ops.size false)).length==ops.size)=true then some (.draw2 true is (avOf (Region.before ops) is) (lateIx true (Region.before ops) is) (piOf true ops is ops.size (Array.replicate ops.size false)) (piOf2 true ops is ops.size (Array.replicate ops.size false))) else
      if (checkPi true true ops (Region.before ops) is (fun i=>(avOf (Region.before ops) is).getD i []) (fun i=>(lateIx true (Region.before ops) is).getD i []) (piOf true ops is ops.size (Array.replicate ops.size false)) (Array.replicate ops.size false)&&(piOf true ops is ops.size (Array.replicate ops.size false)).length==ops.size)=true then some (.draw true is (avOf (Region.before ops) is) (lateIx true (Region.before ops) is) (piOf true ops is ops.size (Array.replicate ops.size false))) else none)→
      (∃wk cw is av late π,cc= .draw cw is av late π∧draw=true∧cInstrs P ops ops.toList=some is∧checkPi wk cw ops (Region.before ops) is (fun i=>av.getD i []) (fun i=>late.getD i []) π (Array.replicate ops.size false)=true∧π.length=ops.size)∨cc= .bad∨(∃cw is av late π π2,cc= .draw2 cw is av late π π2∧draw=true∧cInstrs P ops ops.toList=some is∧checkPi2 cw ops (Region.before ops) is (fun i=>av.getD i []) (fun i=>late.getD i []) π π2 (Array.replicate ops.size false)=true∧π.length=ops.size):=by
     intro r hr hc
     rw[hr] at hc
     split at hc
     ·rename_i hcheck
      simp only[Option.some.injEq] at hc
      simp only[Bool.and_eq_true,beq_iff_eq] at hcheck
      exact .inl ⟨false,_,is,_,_,_,hc,hdraw,his,hcheck.1,hcheck.2⟩
     ·split at hc
      ·rename_i hcheck
       simp only[Option.some.injEq] at hc
       simp only[Bool.and_eq_true,beq_iff_eq] at hcheck
       exact .inr (.inr ⟨_,is,_,_,_,_,hc,hdraw,his,hcheck.1,hcheck.2⟩)
      ·split at hc
       ·rename_i hcheck
        simp only[Option.some.injEq] at hc
        simp only[Bool.and_eq_true,beq_iff_eq] at hcheck
        exact .inl ⟨true,_,is,_,_,_,hc,hdraw,his,hcheck.1,hcheck.2⟩
       ·simp at hc
    split at hc
    ·rename_i hcheck
     simp only[Option.some.injEq] at hc
     simp only[Bool.and_eq_true,beq_iff_eq] at hcheck
     exact .inr (.inl ⟨false,_,is,_,_,_,hc.symm,hdraw,his,hcheck.1,hcheck.2⟩)
    ·have hc2:=hc
     clear hc
     refine .inr ?_
     have hor: ∀{p:Prop} [Decidable p] {x y:Option CC},(if p then x else y)=some cc→x=some cc∨y=some cc:=fun {p} _ {x y} h=>by
      by_cases hp:p
      ·rw[if_pos hp] at h;exact .inl h
      ·rw[if_neg hp] at h;exact .inr h
     have hor2: ∀{p:Prop} [Decidable p] {x y:Option CC},(if p then x else y)=some cc→(p∧x=some cc)∨y=some cc:=fun {p} _ {x y} h=>by
      by_cases hp:p
      ·rw[if_pos hp] at h;exact .inl ⟨hp,h⟩
      ·rw[if_neg hp] at h;exact .inr h
     rcases hor hc2 with hc|hc
     ·rcases hor2 hc with ⟨hcheck,hc⟩|hc
      ·simp only[Option.some.injEq] at hc
       simp only[Bool.and_eq_true,beq_iff_eq] at hcheck
       exact .inl ⟨true,_,is,_,_,_,hc.symm,hdraw,his,hcheck.1,hcheck.2⟩
      ·exact rest hc rfl
     ·exact rest hc rfl
  ·rename_i hdraw
   simp only[Option.map_eq_some_iff] at hc
   obtain ⟨is,his,rfl⟩:=hc
   exact .inl ⟨is,rfl,by simpa using hdraw,his⟩
 intro cc
 induction cc with
 |skip=>
  intro rd hfl n ρ0 m0 w0 hgl0 c hc Q Q' a m act w h hs hq
  cases c<;>simp only[cCode,CC.erase,reduceCtorEq,Option.some.injEq] at hc
  case skip=>exact wpIn_skip (hq .normal a m act w h hs)
  case region id ops draw=>rcases hreg id ops draw _ hc with ⟨_,h,_⟩|⟨_,_,_,_,_,_,h,_⟩|h|⟨_,_,_,_,_,_,h,_⟩<;>cases h
  all_goals first
   |(simp at hc;done)
   |(split at hc<;>simp at hc)
 |reg is=>
  intro rd hfl n ρ0 m0 w0 hgl0 c hc Q Q' a m act w h hs hq
  cases c<;>simp only[cCode,CC.erase,reduceCtorEq,Option.some.injEq] at hc
  case region id ops draw=>
   rcases hreg id ops draw _ hc with ⟨is',h1,h2,his⟩|⟨_,_,_,_,_,_,h1,_⟩|h1|⟨_,_,_,_,_,_,h1,_⟩
   ·cases h1
    subst h2
    obtain ⟨⟨ρ,hsim,hfr,hev,hd⟩⟩:=hs
    simp only[CC.wp] at h
    exact wpIn_region_list (list_ok rd ops.toList is his hfr hsim (hgl0.evol hev) h fun a' act' m' w' ρ' k1 k2 k3 k4 k5=>hq .normal a' m' act' w' k1 ⟨⟨ρ',k4,k2,hev.trans k5,k3▸hd.evol k5⟩⟩)
   ·cases h1
   ·cases h1
   ·cases h1
  all_goals first
   |(simp at hc;done)
   |(split at hc<;>simp at hc)
 |draw cw is av late π=>
  intro rd hfl n ρ0 m0 w0 hgl0 c hc Q Q' a m act w h hs hq
  cases c<;>simp only[cCode,CC.erase,reduceCtorEq,Option.some.injEq] at hc
  case region id ops draw=>
   rcases hreg id ops draw _ hc with ⟨is',h1,_⟩|⟨wk',cw',is',av',late',π',h1,h2,his,hcheck,hlen'⟩|h1|⟨_,_,_,_,_,_,h1,_⟩
   rotate_left 2
   ·cases h1
   ·cases h1
   ·cases h1
   ·cases h1
    subst h2
    obtain ⟨⟨ρ,hsim,hfr,hev,hd⟩⟩:=hs
    simp only[CC.wp] at h
    obtain ⟨hmax,ks,h⟩:=h
    have hdst: ∀c∈is,∀d,c.dst=some d→d<a.length:=fun c hc d hd=>Nat.lt_of_lt_of_le (maxDst_ok is c hc d hd) hmax
    have hlen:is.length=ops.size:=by rw[(cInstrs_get his).1];simp
    have hdc:DownClosed ops (Array.replicate ops.size false):=by
     intro j o e ho hj
     simp[Array.getElem?_replicate] at hj
     split at hj<;>simp at hj
    have hsa:=SA_of_LW hlen _ _ a noFacts m hdc hdst hcheck h
    rw[hlen'] at hsa
    refine wpIn_region_any hmix ?_
    have hsame:SameHeap w {w with drawn:=w.drawn+1}:=⟨rfl,rfl,rfl,rfl⟩
    exact wpAny_of_SA rd his ops.size _ a noFacts m hsa (List.prefix_refl _) (fun _=>trivial) prefix_stable_noFacts hfr (hsim.same hsame) (hgl0.evol (hev.trans (Evol.same hsame))) fun a' act' m' w' ρ' k1 k2 k3 k4 k5=>
     hq .normal a' m' act' w' k1 ⟨⟨ρ',k4,k2,hev.trans ((Evol.same hsame).trans k5),k3▸hd.evol ((Evol.same hsame).trans k5)⟩⟩
  all_goals first
   |(simp at hc;done)
   |(split at hc<;>simp at hc)
 |draw2 cw is av late π π2=>
  intro rd hfl n ρ0 m0 w0 hgl0 c hc Q Q' a m act w h hs hq
  cases c<;>simp only[cCode,CC.erase,reduceCtorEq,Option.some.injEq] at hc
  case region id ops draw=>
   rcases hreg id ops draw _ hc with ⟨is',h1,_⟩|⟨_,_,_,_,_,_,h1,_⟩|h1|⟨cw',is',av',late',π',π2',h1,h2,his,hcheck,hlen'⟩
   ·cases h1
   ·cases h1
   ·cases h1
   ·cases h1
    subst h2
    obtain ⟨⟨ρ,hsim,hfr,hev,hd⟩⟩:=hs
    simp only[CC.wp] at h
    obtain ⟨hmax,ks,h,h'⟩:=h
    have hdst: ∀c∈is,∀d,c.dst=some d→d<a.length:=fun c hc d hd=>Nat.lt_of_lt_of_le (maxDst_ok is c hc d hd) hmax
    have hlen:is.length=ops.size:=by rw[(cInstrs_get his).1];simp
    have hdc:DownClosed ops (Array.replicate ops.size false):=by
     intro j o e ho hj
     simp[Array.getElem?_replicate] at hj
     split at hj<;>simp at hj
    have hsa:=SA_of_LW2 hlen _ _ _ a noFacts m hdc hdst hcheck h h'
    rw[hlen'] at hsa
    refine wpIn_region_any hmix ?_
    have hsame:SameHeap w {w with drawn:=w.drawn+1}:=⟨rfl,rfl,rfl,rfl⟩
    exact wpAny_of_SA rd his ops.size _ a noFacts m hsa (List.prefix_refl _) (fun _=>trivial) prefix_stable_noFacts hfr (hsim.same hsame) (hgl0.evol (hev.trans (Evol.same hsame))) fun a' act' m' w' ρ' k1 k2 k3 k4 k5=>
     hq .normal a' m' act' w' k1 ⟨⟨ρ',k4,k2,hev.trans ((Evol.same hsame).trans k5),k3▸hd.evol ((Evol.same hsame).trans k5)⟩⟩
  all_goals first
   |(simp at hc;done)
   |(split at hc<;>simp at hc)
 |seq x y ihx ihy=>
  intro rd hfl n ρ0 m0 w0 hgl0 c hc Q Q' a m act w h hs hq
  cases c<;>simp only[cCode,CC.erase,reduceCtorEq,Option.some.injEq] at hc
  case region id ops draw=>rcases hreg id ops draw _ hc with ⟨_,h,_⟩|⟨_,_,_,_,_,_,h,_⟩|h|⟨_,_,_,_,_,_,h,_⟩<;>cases h
  case seq cx cy=>
   split at hc
   ·rename_i hx hy
    simp only[Option.some.injEq,CC.seq.injEq] at hc
    obtain ⟨rfl,rfl⟩:=hc
    simp only[CC.wp] at h
    refine wpIn_seq (ihx rd (fun h=>by have:=hfl h;simp only[CC.flat,Bool.and_eq_true] at this;exact this.1) n ρ0 m0 w0 hgl0 cx hx _ _ a m act w h hs fun e a m act w k1 k2=>?_)
    cases e with
    |normal=>exact ihy rd (fun h=>by have:=hfl h;simp only[CC.flat,Bool.and_eq_true] at this;exact this.2) n ρ0 m0 w0 hgl0 cy hy Q Q' a m act w k1 k2 hq
    |exit id=>exact hq (.exit id) a m act w k1 k2
    |ret=>exact hq .ret a m act w k1 k2
   ·simp at hc
  all_goals first
   |(simp at hc;done)
   |(split at hc<;>simp at hc)
 |cond b x y ihx ihy=>
  intro rd hfl n ρ0 m0 w0 hgl0 c hc Q Q' a m act w h hs hq
  cases c<;>simp only[cCode,CC.erase,reduceCtorEq,Option.some.injEq] at hc
  case region id ops draw=>rcases hreg id ops draw _ hc with ⟨_,h,_⟩|⟨_,_,_,_,_,_,h,_⟩|h|⟨_,_,_,_,_,_,h,_⟩<;>cases h
  case cond rb cx cy=>
   split at hc
   ·rename_i hb hx hy
    simp only[Option.some.injEq,CC.cond.injEq] at hc
    obtain ⟨rfl,rfl,rfl⟩:=hc
    simp only[CC.wp] at h
    split at h
    ·rename_i t ht
     have hv:act.eval rb= .bool t:=by
      obtain ⟨ρ,_,hfr,_⟩:=hs.ex
      have:=hfr.ev hb
      rw[ht] at this
      exact this.bool_inv
     exact wpIn_cond_split hv (fun e=>ihx rd (fun h=>by have:=hfl h;simp only[CC.flat,Bool.and_eq_true] at this;exact this.1) n ρ0 m0 w0 hgl0 cx hx Q Q' a m act w (h.1 e) hs hq) (fun e=>ihy rd (fun h=>by have:=hfl h;simp only[CC.flat,Bool.and_eq_true] at this;exact this.2) n ρ0 m0 w0 hgl0 cy hy Q Q' a m act w (h.2 e) hs hq)
    ·exact h.elim
   ·simp at hc
  all_goals first
   |(simp at hc;done)
   |(split at hc<;>simp at hc)
 |block id x ih=>
  intro rd hfl n ρ0 m0 w0 hgl0 c hc Q Q' a m act w h hs hq
  cases c<;>simp only[cCode,CC.erase,reduceCtorEq,Option.some.injEq] at hc
  case region id ops draw=>rcases hreg id ops draw _ hc with ⟨_,h,_⟩|⟨_,_,_,_,_,_,h,_⟩|h|⟨_,_,_,_,_,_,h,_⟩<;>cases h
  case block id' cx=>
   simp only[Option.map_eq_some_iff,CC.block.injEq] at hc
   obtain ⟨_,hx,rfl,rfl⟩:=hc
   simp only[CC.wp] at h
   refine wpIn_block (ih rd hfl n ρ0 m0 w0 hgl0 cx hx _ _ a m act w h hs fun e a m act w k1 k2=>?_)
   cases e with
   |normal=>exact hq .normal a m act w k1 k2
   |exit k=>
    simp only[AEx.inBlock] at k1
    simp only[AEx.real,Exit.inBlock]
    split
    ·rename_i he;rw[if_pos he] at k1;exact hq .normal a m act w k1 k2
    ·rename_i he;rw[if_neg he] at k1;exact hq (.exit k) a m act w k1 k2
   |ret=>exact hq .ret a m act w k1 k2
  all_goals first
   |(simp at hc;done)
   |(split at hc<;>simp at hc)
 |loop x ih=>
  intro rd hfl n ρ0 m0 w0 hgl0 c hc Q Q' a m act w h hs hq
  cases c<;>simp only[cCode,CC.erase,reduceCtorEq,Option.some.injEq] at hc
  case region id ops draw=>rcases hreg id ops draw _ hc with ⟨_,h,_⟩|⟨_,_,_,_,_,_,h,_⟩|h|⟨_,_,_,_,_,_,h,_⟩<;>cases h
  case loop cx=>
   simp only[Option.map_eq_some_iff,CC.loop.injEq] at hc
   obtain ⟨_,hx,rfl⟩:=hc
   simp only[CC.wp] at h
   obtain ⟨I,⟨n0,h0⟩,hround⟩:=h
   have key: ∀j a m act w,I j a m→SR ρ0 m0 w0 a m act w→ ∀(b:Frame) (k:List Item) (cs:List Frame),b.roundOf=rd→ ∃e a' w',Q' e a' w'∧ArrivesIn (Machine.fenced P (rdF rd)) P (lone (b.atR act (.code cx:: .inLoop cx::k)) cs w) b k cs e a' w':=by
    intro j
    induction j using Nat.strongRecOn with
    |_ j ihn=>
     intro a m act w hI hs b k cs hro
     have:=ih rd hfl n ρ0 m0 w0 hgl0 cx hx _ (Exit.then (fun act' w'=> ∀(b:Frame) (k:List Item) (cs:List Frame),b.roundOf=rd→ ∃e a' w'',Q' e a' w''∧ArrivesIn (Machine.fenced P (rdF rd)) P (lone (b.atR act' (.code cx:: .inLoop cx::k)) cs w') b k cs e a' w'') Q') a m act w (hround j a m hI) hs (fun e a' m' act' w' k1 k2=>by
      cases e with
      |normal=>obtain ⟨n',hlt,hI'⟩:=k1;exact fun b k cs hro=>ihn n' hlt a' m' act' w' hI' k2 b k cs hro
      |exit id=>exact hq (.exit id) a' m' act' w' k1 k2
      |ret=>exact hq .ret a' m' act' w' k1 k2)
     obtain ⟨e,a₁,w₁,hq1,harr⟩:=this b (.inLoop cx::k) cs hro trivial (room_wide _)
     cases e with
     |normal=>
      obtain ⟨e₂,a₂,w₂,hq₂,harr₂⟩:=hq1 b k cs hro
      exact ⟨e₂,a₂,w₂,hq₂,.of_steps (StepsIn.trans harr (.one (fenced_calm (F:=rdF rd) (n:=n) trivial (room_wide _) rfl) stepR_inLoop)) harr₂⟩
     |exit id=>exact ⟨_,a₁,w₁,hq1,.pass (x:= .inLoop cx) rfl (fun _ _=> .inl (by simp)) harr⟩
     |goto l=>exact ⟨_,a₁,w₁,hq1,.pass (x:= .inLoop cx) rfl (fun _ _=> .inl (by simp)) harr⟩
     |ret=>exact ⟨_,a₁,w₁,hq1,.pass (x:= .inLoop cx) rfl (fun _ _=> .inl (by simp)) harr⟩
     |panic ch=>exact ⟨_,a₁,w₁,hq1,.pass (x:= .inLoop cx) rfl (fun _ _=> .inl (by simp)) harr⟩
     |outgrown=>exact ⟨_,a₁,w₁,hq1,.pass (x:= .inLoop cx) rfl (fun _ _=> .inl (by simp)) harr⟩
   intro b k cs hro _ _
   obtain ⟨e,a',w',hq',harr⟩:=key n0 a m act w h0 hs b k cs hro
   exact ⟨e,a',w',hq',.of_steps (.one (fenced_calm (F:=rdF rd) (n:=n) trivial (room_wide _) rfl) stepR_loop) harr⟩
  all_goals first
   |(simp at hc;done)
   |(split at hc<;>simp at hc)
 |exit id=>
  intro rd hfl n ρ0 m0 w0 hgl0 c hc Q Q' a m act w h hs hq
  cases c<;>simp only[cCode,CC.erase,reduceCtorEq,Option.some.injEq] at hc
  case region id' ops draw=>rcases hreg id' ops draw _ hc with ⟨_,h,_⟩|⟨_,_,_,_,_,_,h,_⟩|h|⟨_,_,_,_,_,_,h,_⟩<;>cases h
  case exit id'=>
   simp only[CC.exit.injEq] at hc
   subst hc
   exact wpIn_exit (hq (.exit id') a m act w h hs)
  all_goals first
   |(simp at hc;done)
   |(split at hc<;>simp at hc)
 |ret=>
  intro rd hfl n ρ0 m0 w0 hgl0 c hc Q Q' a m act w h hs hq
  cases c<;>simp only[cCode,CC.erase,reduceCtorEq,Option.some.injEq] at hc
  case region id' ops draw=>rcases hreg id' ops draw _ hc with ⟨_,h,_⟩|⟨_,_,_,_,_,_,h,_⟩|h|⟨_,_,_,_,_,_,h,_⟩<;>cases h
  case ret=>exact wpIn_ret (hq .ret a m act w h hs)
  all_goals first
   |(simp at hc;done)
   |(split at hc<;>simp at hc)
 |bad=>
  intro rd hfl n ρ0 m0 w0 hgl0 c hc Q Q' a m act w h hs hq
  simp only[CC.wp] at h
 |kill l x ih=>
  intro rd hfl n ρ0 m0 w0 hgl0 c hc Q Q' a m act w h hs hq
  exact ih rd hfl n ρ0 m0 w0 hgl0 c (by simpa only[CC.erase] using hc) Q Q' (a.forget l) m act w h (hs.forget l) hq
 |fin l x ih=>
  intro rd hfl n ρ0 m0 w0 hgl0 c hc Q Q' a m act w h hs hq
  simp only[CC.wp] at h
  refine ih rd hfl n ρ0 m0 w0 hgl0 c (by simpa only[CC.erase] using hc) _ Q' a m act w h hs fun e a m act w k1 k2=>?_
  cases e with
  |normal=>exact hq .normal _ m act w k1 (k2.forget l)
  |exit id=>exact hq (.exit id) a m act w k1 k2
  |ret=>exact hq .ret a m act w k1 k2
 |rfn g ps x y ihx ihy=>
  intro rd hfl n ρ0 m0 w0 hgl0 c hc Q Q' a m act w h hs hq
  cases c<;>simp only[cCode,CC.erase,reduceCtorEq,Option.some.injEq] at hc
  case region id ops draw=>rcases hreg id ops draw _ hc with ⟨_,h,_⟩|⟨_,_,_,_,_,_,h,_⟩|h|⟨_,_,_,_,_,_,h,_⟩<;>cases h
  case rangeFunc rg rps cx cy=>
   split at hc
   ·rename_i hg hx hy
    split at hc
    ·rename_i hflat
     simp only[Option.some.injEq,CC.rfn.injEq] at hc
     obtain ⟨rfl,rfl,rfl,rfl⟩:=hc
     simp only[CC.flat_erase,Bool.and_eq_true] at hflat
     have hrd:rd=none:=by
      cases rd with
      |none=>rfl
      |some _=>exact absurd (hfl rfl) (by simp[CC.flat])
     subst hrd
     simp only[CC.wp] at h
     obtain ⟨gf,cs,hag,h⟩:=h
     exact rfn_ok hg hgl0 hag h hs (fun l=>fun n ρ0 m0 w0 hg Q Q' a m act w=>ihx (some l) (fun _=>hflat.1) n ρ0 m0 w0 hg cx hx Q Q' a m act w) (fun l=>fun n ρ0 m0 w0 hg Q Q' a m act w=>ihy (some l) (fun _=>hflat.2) n ρ0 m0 w0 hg cy hy Q Q' a m act w) hq
    ·simp at hc
   ·simp at hc
  all_goals first
   |(simp at hc;done)
   |(split at hc<;>simp at hc)
end
inductive ARes where
 |tmp (t:Nat)
 |cell (t n:Nat) (agg:Bool)
def ARes.ev (a:AFrame) (m:AMem):ARes→Option AVal
 | .tmp t=>some (a.ev (.t t))
 | .cell t n agg=>(ROp.load n agg (.t t)).ev a m
def resEv (a:AFrame) (m:AMem):List ARes→Option (List AVal)
 | []=>some []
 |r::rs=>match r.ev a m,resEv a m rs with
  |some x,some xs=>some (x::xs)
  |_,_=>none
def resOf (a:AFrame) (m:AMem) (rs:List ARes):Option AVal:=
 match resEv a m rs with
 |some [x]=>some x
 |some xs=>some (.tuple xs)
 |none=>none
structure CFn where
 nt:Nat
 body:CC
 res:List ARes
def cRes (P:Program):List ResultVar→Option (List ARes)
 | []=>some []
 | .tmp t::r=>(cRes P r).map (.tmp t:: ·)
 | .cell a t::r=>match szOf P t,aggOf P t,cRes P r with
  |some n,some b,some r=>some (.cell a n b::r)
  |_,_,_=>none
def cFn (P:Program) (f:FuncId):Option CFn:=
 match P.funcs[f]? with
 |some fn=>if fn.name== "runtime.NumGoroutine" then none else match fn.body with
  |some c=>match cCode P c,cRes P fn.results.toList with
   |some c,some r=>some ⟨fn.ntmps,c,r⟩
   |_,_=>none
  |none=>none
 |none=>none
def resVar (tmps:Array Value):ResultVar→Sem Value
 | .tmp t=>pure (tmps.getD t undef)
 | .cell a t=>do loadVar t (←asAddr (tmps.getD a undef))
theorem results_eq (fn:Func) (tmps:Array Value):results fn tmps=(do let vs ←fn.results.mapM (resVar tmps);pure (if h:vs.size=1 then vs[0] else .tuple vs):Sem Value):=by
 unfold results
 congr 1
theorem res_ok {P:Program} {ρ:List RB} {a:AFrame} {m:AMem} {tmps:Array Value} {w:World} (hs:Sim ρ m w) (hgl:Glob ρ m w) (hf:FR ρ a tmps): ∀(rs:List ResultVar) (cs:List ARes) (xs:List AVal),cRes P rs=some cs→resEv a m cs=some xs→
  ∃vs:List Value,(rs.mapM (resVar tmps)).run P w= .ok vs w∧VRs ρ xs vs
 | [],cs,xs,hc,hx=>by
  simp only[cRes,Option.some.injEq] at hc
  subst hc
  simp only[resEv,Option.some.injEq] at hx
  subst hx
  exact ⟨[],rfl,by simp[VRs]⟩
 | .tmp t::r,cs,xs,hc,hx=>by
  simp only[cRes,Option.map_eq_some_iff] at hc
  obtain ⟨cr,hcr,rfl⟩:=hc
  simp only[resEv,ARes.ev] at hx
  split at hx
  ·rename_i x xs' h1 h2
   simp only[Option.some.injEq] at h1 hx
   subst h1 hx
   obtain ⟨vs,h3,h4⟩:=res_ok hs hgl hf r cr xs' hcr h2
   have hv:=FR.ev (act:=⟨tmps,[]⟩) hf (x:= .tmp t) (y:= .t t) rfl
   exact ⟨tmps.getD t undef::vs,by simp only[List.mapM_cons,resVar,Sem.run_bind,Sem.run_pure,Result.andThen_ok,h3],by simp only[VRs];exact ⟨_,_,rfl,hv,h4⟩⟩
  ·simp at hx
 | .cell q t::r,cs,xs,hc,hx=>by
  simp only[cRes] at hc
  split at hc
  ·rename_i n b cr h1 h2 hcr
   simp only[Option.some.injEq] at hc
   subst hc
   simp only[resEv,ARes.ev] at hx
   split at hx
   ·rename_i x xs' h5 h6
    simp only[Option.some.injEq] at hx
    subst hx
    obtain ⟨vs,h3,h4⟩:=res_ok hs hgl hf r cr xs' hcr h6
    have hld: ∃v,(loadVar t ((match tmps.getD q undef with| .pointer (some a)=>a|_=>⟨0,0,none⟩))).run P w= .ok v w∧VR ρ x v∧ ∃a,tmps.getD q undef= .pointer (some a):=by
     obtain ⟨v,e1,e2⟩:=cRead_ok (P:=P) (o:={dst:=none,op:= .load t (.tmp q),type:=0,pos:= "",after:= #[],guard:=none}) (r:= .load n b (.t q)) (by simp[cRead,h1,h2,cArg]) (act:=⟨tmps,[]⟩) hf hs hgl h5
     have hv:=FR.ev (act:=⟨tmps,[]⟩) hf (x:= .tmp q) (y:= .t q) rfl
     simp only[ROp.ev] at h5
     split at h5
     ·rename_i B of he
      rw[he] at hv
      simp only[VR] at hv
      obtain ⟨A,_,hv⟩:=hv
      simp only[Act.eval] at hv
      refine ⟨v,?_,e2,_,hv⟩
      simp only[execOp,Act.eval,hv,Instr.loadAt,Instr.sureAddr,pure_bind,Sem.run_bind] at e1
      rw[hv]
      cases hr:(loadVar t ⟨A.block,A.off+of,none⟩).run P w with
      |ok u w'=>rw[hr] at e1;simp only[Result.andThen_ok,Sem.run_pure,Result.ok.injEq,Next.value.injEq] at e1;simp only[e1]
      |halt h w'=>rw[hr] at e1;simp at e1
     ·rename_i B of he
      rw[he] at hv
      simp only[VR,Act.eval] at hv
      refine ⟨v,?_,e2,_,hv⟩
      simp only[execOp,Act.eval,hv,Instr.loadAt,Instr.sureAddr,pure_bind,Sem.run_bind] at e1
      rw[hv]
      cases hr:(loadVar t ⟨B,of,none⟩).run P w with
      |ok u w'=>rw[hr] at e1;simp only[Result.andThen_ok,Sem.run_pure,Result.ok.injEq,Next.value.injEq] at e1;simp only[e1]
      |halt h w'=>rw[hr] at e1;simp at e1
     ·cases h5
    obtain ⟨v,e1,e2,A,e3⟩:=hld
    rw[e3] at e1
    have ha:(asAddr (tmps.getD q undef)).run P w= .ok A w:=by rw[e3];rfl
    exact ⟨v::vs,by simp only[List.mapM_cons,resVar,Sem.run_bind,ha,Sem.run_pure,Result.andThen_ok,e1,h3],by simp only[VRs];exact ⟨_,_,rfl,e2,h4⟩⟩
   ·simp at hx
  ·simp at hc
theorem resOf_ok {P:Program} {ρ:List RB} {a:AFrame} {m:AMem} {tmps:Array Value} {w:World} {fn:Func} {cs:List ARes} {x:AVal} (hs:Sim ρ m w) (hgl:Glob ρ m w) (hf:FR ρ a tmps) (hc:cRes P fn.results.toList=some cs) (hx:resOf a m cs=some x):
  ∃v,(results fn tmps).run P w= .ok v w∧VR ρ x v:=by
 unfold resOf at hx
 have hm: ∀vs:List Value,(fn.results.toList.mapM (resVar tmps)).run P w= .ok vs w→(results fn tmps).run P w= .ok (if h:vs.toArray.size=1 then vs.toArray[0] else .tuple vs.toArray) w:=by
  intro vs h
  rw[results_eq,Sem.run_bind,Array.mapM_eq_mapM_toList,Sem.run_map,h]
  rfl
 cases he:resEv a m cs with
 |none=>rw[he] at hx;simp at hx
 |some xs=>
  rw[he] at hx
  obtain ⟨vs,h1,h2⟩:=res_ok (P:=P) hs hgl hf _ cs xs hc he
  have hl:=h2.length
  refine ⟨_,hm vs h1,?_⟩
  match xs,hx,h2,hl with
  | [],hx,h2,hl=>
   simp only[Option.some.injEq] at hx
   subst hx
   rw[dif_neg (by simp only[List.size_toArray,hl,List.length_nil];omega)]
   simp only[VR]
   exact ⟨_,rfl,by simpa using h2⟩
  | [y],hx,h2,hl=>
   simp only[Option.some.injEq] at hx
   subst hx
   simp only[VRs] at h2
   obtain ⟨v,vs',rfl,hv,rfl⟩:=h2
   simpa using hv
  |y::z::r,hx,h2,hl=>
   simp only[Option.some.injEq] at hx
   subst hx
   rw[dif_neg (by simp only[List.size_toArray,hl,List.length_cons];omega)]
   simp only[VR]
   exact ⟨_,rfl,by simpa using h2⟩
def retPost (rs:List ARes) (R:AVal→AMem→Prop):AEx→AFrame→AMem→Prop
 | .normal,a,m| .ret,a,m=>match resOf a m rs with
  |some v=>R v m
  |none=>False
 | .exit _,_,_=>False
theorem leavesM {P:Program} {n:Nat} {fn:Func} {tmps:Array Value} {R:Ending→World→Prop} {ρ ρ0:List RB} {m m0:AMem} {w0:World} (hend: ∀w,Sim ρ m w→Evol ρ0 m0 w0 ρ m w→ ∃v,(results fn tmps).run P w= .ok v w∧R (.returned v) w):
  ∀(rs:List Nat) (w:World),Sim ρ m w→Evol ρ0 m0 w0 ρ m w→rs.Nodup→(∀r∈rs,w.heap[r]? =some (.deferred (some []))∧ ¬Owned ρ m r∧w0.heap.size≤r)→
   LeavesInM Fence.wide n P fn tmps R (rs.map fun r=>{target:= .collected r,args:= #[]}) .returning w
 | [],w,hs,he,_,_=>hend w hs he
 |r::rs,w,hs,he,hn,hr=>by
  obtain ⟨h1,h2,h3⟩:=hr r (List.mem_cons_self ..)
  refine ⟨by simp,.inl ⟨r,_,rfl,run_takeDeferred h1,?_⟩⟩
  have hother: ∀k,k≠r→(w.putObj r (.deferred none)).heap[k]? =w.heap[k]? :=fun k hk=>World.putObj_heap_other hk
  refine leavesM hend rs _ (hs.turn h1 h2 _) ⟨he.pre,he.os,he.tape,he.output,by simpa using he.size,fun k hk hn=>by rw[hother k (by omega)];exact he.frame k hk hn,he.own⟩ (List.nodup_cons.1 hn).2 fun k hk=>?_
  obtain ⟨k1,k2,k3⟩:=hr k (List.mem_cons_of_mem _ hk)
  exact ⟨by rw[hother k (fun e=>(List.nodup_cons.1 hn).1 (e▸hk))];exact k1,k2,k3⟩
theorem enter {P:Program} (hmix:P.follows .mixedOrders=true) {f:FuncId} {cf:CFn} (hc:cFn P f=some ⟨cf.nt,cf.body.erase,cf.res⟩) {args:List AVal} {m:AMem} {R:AVal→AMem→Prop}
  (h:cf.body.wp P (retPost cf.res R) (args++List.replicate (cf.nt-args.length) .undef) m):ACalls P f args m R:=by
 unfold cFn at hc
 split at hc
 ·rename_i fn hfn
  split at hc
  ·simp at hc
  ·rename_i hname
   split at hc
   ·rename_i c hbody
    split at hc
    ·rename_i cc cr hcc hcr
     simp only[Option.some.injEq,CFn.mk.injEq] at hc
     obtain ⟨hnt,rfl,rfl⟩:=hc
     refine ⟨⟨fn,hfn,by simpa using hname,by simp[hbody]⟩,fun ρ w args' hs hg hv=>?_⟩
     refine callsIn_wide.1 (callsIn_of_wp_marks (F:=Fence.wide) (n:=0) hfn hbody trivial (CC.wp_ok hmix cf.body none (by simp) 0 ρ m w hg c hcc _ _ _ _ _ _ h ⟨⟨ρ,hs,?_,Evol.refl _ _ _,Marks.nil⟩⟩ ?_))
     ·have hl:=hv.length
      simp only[Array.length_toList] at hl
      refine ⟨by simp[hl,hnt],fun i x hx=>?_⟩
      rcases Nat.lt_or_ge i args.length with hi|hi
      ·rw[List.getElem?_append_left hi] at hx
       obtain ⟨v,h1,h2⟩:=hv.get i x hx
       exact ⟨v,by rw[Array.getElem?_append_left (by omega)];simpa using h1,h2⟩
      ·rw[List.getElem?_append_right hi,List.getElem?_replicate] at hx
       split at hx
       ·rename_i hlt
        simp only[Option.some.injEq] at hx
        subst hx
        exact ⟨undef,by rw[Array.getElem?_append_right (by omega),Array.getElem?_replicate,if_pos (by omega)],by simp[VR]⟩
       ·simp at hx
     ·intro e a m' act w' hq hsr
      obtain ⟨⟨ρ',h1,h2,h3,rs,hd,hnd,hrs⟩⟩:=hsr
      have fin:(match resOf a m' cf.res with|some v=>R v m'|none=>False)→LeavesInM Fence.wide 0 P fn act.tmps (fun e w''=> ∃v' x m'' ρ'',e= .returned v'∧R x m''∧VR ρ'' x v'∧Sim ρ'' m'' w''∧Evol ρ m w ρ'' m'' w'') act.defers .returning w':=by
       intro hq
       split at hq
       ·rename_i x hx
        rw[hd]
        refine leavesM (ρ:=ρ') (m:=m') (ρ0:=ρ) (m0:=m) (w0:=w) (fun w2 s2 e2=>?_) rs w' h1 h3 hnd hrs
        obtain ⟨v,k1,k2⟩:=resOf_ok s2 (hg.evol e2) h2 hcr hx
        exact ⟨v,k1,v,x,m',ρ',rfl,hq,k2,s2,e2⟩
       ·exact hq.elim
      cases e with
      |normal=>exact fin hq
      |ret=>exact fin hq
      |exit id=>exact hq.elim
    ·simp at hc
   ·simp at hc
 ·simp at hc
end Go.Proofs.YtodhalcpnmddjaaDoor.Ax
