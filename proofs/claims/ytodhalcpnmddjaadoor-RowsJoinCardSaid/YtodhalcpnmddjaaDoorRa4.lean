/- Layer 22's laws.  Conditions: none beyond those stated. -/
import Derived.Test.YtodhalcpnmddjaaDoorRa3
import Derived.Shelf.Strings.OnBuilder
import Derived.Shelf.Strconv.Itoa4
import Derived.Test.YtodhalcpnmddjaaDoorProg
import Derived.Lib.AppendIntMem
import Derived.ProofKit
import Derived.SizedLaws
import Derived.SliceStrings
import Derived.Deep.Slices
import Derived.DataElems
import Derived.Test.YtodhalcpnmddjaaDoorCards
import Derived.Test.YtodhalcpnmddjaaDoorTie
import Derived.OpenShut
import Derived.Deep.DeepHandedRow
import Derived.Lib.LaidU8
set_option linter.unusedSimpArgs false
set_option linter.unusedVariables false
set_option linter.unusedSectionVars false
namespace Go.Proofs
open Go.Shelf
def Tryd.lays156_ren:Go.Shelf.Ren:=⟨fun|156=>51|165=>77|166=>78|169=>79|240=>90|241=>91|276=>98|277=>99|n=>n,fun|31=>93|9=>9|3=>3|4=>4|0=>0|20=>20|72=>122|76=>126|70=>119|37=>120|75=>125|127=>141|164=>149|5=>5|80=>128|n=>n,fun|n=>n⟩
theorem Tryd.lays156:Go.Proofs.Lays.n156 Tryd.prog Tryd.lays156_ren:={
 mixed:=by kernel_rfl
 f156:=Tryd.func51.trans (congrArg some (by kernel_rfl))
 f165:=Tryd.func77.trans (congrArg some (by kernel_rfl))
 f166:=Tryd.func78.trans (congrArg some (by kernel_rfl))
 f169:=Tryd.func79.trans (congrArg some (by kernel_rfl))
 f240:=Tryd.func90.trans (congrArg some (by kernel_rfl))
 f241:=Tryd.func91.trans (congrArg some (by kernel_rfl))
 f276:=Tryd.func98.trans (congrArg some (by kernel_rfl))
 f277:=Tryd.func99.trans (congrArg some (by kernel_rfl))
 t0:=Tryd.underlying0
 a0:=Tryd.isAgg0
 z0:=Tryd.sizeOf0
 v0:=Tryd.zeroValue0
 t3:=Tryd.underlying3
 a3:=Tryd.isAgg3
 z3:=Tryd.sizeOf3
 v3:=Tryd.zeroValue3
 t4:=Tryd.underlying4
 a4:=Tryd.isAgg4
 z4:=Tryd.sizeOf4
 v4:=Tryd.zeroValue4
 t9:=Tryd.underlying9
 a9:=Tryd.isAgg9
 z9:=Tryd.sizeOf9
 v9:=Tryd.zeroValue9
 t20:=Tryd.underlying20
 a20:=Tryd.isAgg20
 z20:=Tryd.sizeOf20
 v20:=Tryd.zeroValue20
 t31:=Tryd.underlying93
 a31:=Tryd.isAgg93
 z31:=Tryd.sizeOf93
 v31:=Tryd.zeroValue93
 t37:=Tryd.underlying120
 a37:=Tryd.isAgg120
 z37:=Tryd.sizeOf120
 v37:=Tryd.zeroValue120
 t70:=Tryd.underlying119
 a70:=Tryd.isAgg119
 z70:=Tryd.sizeOf119
 v70:=Tryd.zeroValue119
 t72:=Tryd.underlying122
 a72:=Tryd.isAgg122
 z72:=Tryd.sizeOf122
 v72:=Tryd.zeroValue122
 t75:=Tryd.underlying125
 a75:=Tryd.isAgg125
 z75:=Tryd.sizeOf125
 v75:=Tryd.zeroValue125
 t76:=Tryd.underlying126
 a76:=Tryd.isAgg126
 z76:=Tryd.sizeOf126
 v76:=Tryd.zeroValue126
 t127:=Tryd.underlying141
 a127:=Tryd.isAgg141
 z127:=Tryd.sizeOf141
 v127:=Tryd.zeroValue141
 t164:=Tryd.underlying149
 a164:=Tryd.isAgg149
 z164:=Tryd.sizeOf149
 v164:=Tryd.zeroValue149}
theorem Tryd.Builder_Extra_156:Builder.Extra Tryd.prog Tryd.lays156_ren:={
 sizeBuilder:=by kernel_rfl
 liesBuilder:=by kernel_rfl
 t5:=Tryd.underlying5
 a5:=Tryd.isAgg5
 z5:=Tryd.sizeOf5
 v5:=Tryd.zeroValue5
 infoByte:=by kernel_rfl
 cellsByte:=by kernel_rfl
 sizeByte:=by kernel_rfl
 neB5:=by decide}
open Go.RowKit in
theorem Tryd.strings_Join_none (a:Option Addr) (c:Nat) (sep:ByteArray) (w:World):
  Calls Tryd.prog 51 #[.slice a 0 c,.string sep] w fun e w'=>e= .returned (.string ⟨#[]⟩)∧w'=w:=Any.strings_Join_none Tryd.lays156 Tryd.Builder_Extra_156 a c sep w
open Go.RowKit in
theorem Tryd.strings_Join (bk o c:Nat) (xs:List ByteArray) (sep:ByteArray) (w:World) (hcells: ∀(j:Nat) x,xs[j]? =some x→w.cell? ⟨bk,o+j,none⟩=some (.string x)) (hbk:bk<w.heap.size) (hN:xs.length≤140737488355328) (hcap:xs.length≤c) (hlen:(Lib.join (xs.map (·.data.toList)) sep.data.toList).length≤140737488355328):
  Calls Tryd.prog 51 #[.slice (some ⟨bk,o,none⟩) xs.length c,.string sep] w fun e w'=>e= .returned (.string ⟨(Lib.join (xs.map (·.data.toList)) sep.data.toList).toArray⟩)∧Below w.heap.size w w':=Any.strings_Join Tryd.lays156 Tryd.Builder_Extra_156 bk o c xs sep w hcells hbk hN hcap hlen
def Tryd.laysM173_ren:Go.Shelf.Ren:=⟨fun|173=>50|246=>76|283=>86|284=>87|285=>88|286=>89|129=>94|317=>93|318=>95|319=>96|320=>97|337=>101|338=>102|n=>n,fun|2=>2|3=>3|9=>9|4=>4|171=>136|0=>0|53=>129|37=>120|5=>5|173=>139|212=>144|51=>145|20=>20|213=>146|46=>147|232=>154|233=>155|n=>n,fun|17=>0|18=>2|19=>3|n=>n⟩
theorem Tryd.laysM173:Go.Proofs.LaysM.n173 Tryd.prog Tryd.laysM173_ren:={
 mixed:=by kernel_rfl
 f129:=Tryd.func94.trans (congrArg some (by kernel_rfl))
 f173:=Tryd.func50.trans (congrArg some (by kernel_rfl))
 f246:=Tryd.func76.trans (congrArg some (by kernel_rfl))
 f283:=Tryd.func86.trans (congrArg some (by kernel_rfl))
 f284:=Tryd.func87.trans (congrArg some (by kernel_rfl))
 f285:=Tryd.func88.trans (congrArg some (by kernel_rfl))
 f286:=Tryd.func89.trans (congrArg some (by kernel_rfl))
 f317:=Tryd.func93.trans (congrArg some (by kernel_rfl))
 f318:=Tryd.func95.trans (congrArg some (by kernel_rfl))
 f319:=Tryd.func96.trans (congrArg some (by kernel_rfl))
 f320:=Tryd.func97.trans (congrArg some (by kernel_rfl))
 f337:=Tryd.func101.trans (congrArg some (by kernel_rfl))
 f338:=Tryd.func102.trans (congrArg some (by kernel_rfl))
 t0:=Tryd.underlying0
 a0:=Tryd.isAgg0
 z0:=Tryd.sizeOf0
 v0:=Tryd.zeroValue0
 t2:=Tryd.underlying2
 a2:=Tryd.isAgg2
 z2:=Tryd.sizeOf2
 v2:=Tryd.zeroValue2
 t3:=Tryd.underlying3
 a3:=Tryd.isAgg3
 z3:=Tryd.sizeOf3
 v3:=Tryd.zeroValue3
 t4:=Tryd.underlying4
 a4:=Tryd.isAgg4
 z4:=Tryd.sizeOf4
 v4:=Tryd.zeroValue4
 t5:=Tryd.underlying5
 a5:=Tryd.isAgg5
 z5:=Tryd.sizeOf5
 v5:=Tryd.zeroValue5
 t9:=Tryd.underlying9
 a9:=Tryd.isAgg9
 z9:=Tryd.sizeOf9
 v9:=Tryd.zeroValue9
 t20:=Tryd.underlying20
 a20:=Tryd.isAgg20
 z20:=Tryd.sizeOf20
 v20:=Tryd.zeroValue20
 t37:=Tryd.underlying120
 a37:=Tryd.isAgg120
 z37:=Tryd.sizeOf120
 v37:=Tryd.zeroValue120
 t46:=Tryd.underlying147
 a46:=Tryd.isAgg147
 z46:=Tryd.sizeOf147
 v46:=Tryd.zeroValue147
 t51:=Tryd.underlying145
 a51:=Tryd.isAgg145
 z51:=Tryd.sizeOf145
 v51:=Tryd.zeroValue145
 t53:=Tryd.underlying129
 a53:=Tryd.isAgg129
 z53:=Tryd.sizeOf129
 v53:=Tryd.zeroValue129
 t171:=Tryd.underlying136
 a171:=Tryd.isAgg136
 z171:=Tryd.sizeOf136
 v171:=Tryd.zeroValue136
 t173:=Tryd.underlying139
 a173:=Tryd.isAgg139
 z173:=Tryd.sizeOf139
 v173:=Tryd.zeroValue139
 t212:=Tryd.underlying144
 a212:=Tryd.isAgg144
 z212:=Tryd.sizeOf144
 v212:=Tryd.zeroValue144
 t213:=Tryd.underlying146
 a213:=Tryd.isAgg146
 z213:=Tryd.sizeOf146
 t232:=Tryd.underlying154
 a232:=Tryd.isAgg154
 z232:=Tryd.sizeOf154
 v232:=Tryd.zeroValue154
 t233:=Tryd.underlying155
 a233:=Tryd.isAgg155
 z233:=Tryd.sizeOf155
 v233:=Tryd.zeroValue155
 g17:=by kernel_rfl
 g18:=by kernel_rfl
 g19:=by kernel_rfl
 i0:=by kernel_rfl
 i2:=by kernel_rfl
 i3:=by kernel_rfl
 i4:=by kernel_rfl
 i5:=by kernel_rfl
 i9:=by kernel_rfl
 i20:=by kernel_rfl
 i37:=by kernel_rfl
 i46:=by kernel_rfl
 i51:=by kernel_rfl
 i53:=by kernel_rfl
 i171:=by kernel_rfl
 i173:=by kernel_rfl
 i212:=by kernel_rfl
 i232:=by kernel_rfl
 i233:=by kernel_rfl
 m17:=by kernel_rfl
 m18:=by kernel_rfl
 m19:=by kernel_rfl}
open Go.RowKit Go.Sort Go.Lib in
theorem Tryd.strconv_FormatInt_10 (n:Int) (h0: -9223372036854775808≤n) (h1:n≤9223372036854775807) (w:World) (htab:Lib.TabIs Tryd.prog w "internal/strconv.uint64pow10" .u64 Lib.pow10Tab):
  Calls Tryd.prog 50 #[.int .i64 n,.int .i64 10] w fun e w'=>e= .returned (.string ⟨(Lib.itoa n).toArray⟩)∧ ∃k os,w'=grow (w.drewN k) os:=Any.strconv_FormatInt_10 Tryd.laysM173 n h0 h1 w htab
end Go.Proofs
namespace Go.Proofs.YtodhalcpnmddjaaDoor
open Go Ax Go.RowKit
set_option maxRecDepth 100000
theorem below_sim {ρ:List RB} {m:AMem} {w w':World} (h:Sim ρ m w) (hb:Below w.heap.size w w'):Sim ρ m w'∧Evol ρ m w ρ m w':=
 ⟨⟨h.len,fun b blk a h1 h2=>(h.ok b blk a h1 h2).heapA (hb.block _ (h.bound b a h2)),h.sep,fun b a ha=>Nat.lt_of_lt_of_le (h.bound b a ha) hb.size⟩,⟨List.prefix_refl _,hb.os,hb.tape,hb.output,hb.size,fun r hr _=>hb.block r hr,fun r hr=> .inr hr⟩⟩
abbrev strB (l:List UInt8):AVal:= .str ⟨l.toArray⟩
instance:Cell strB:=⟨fun _=>rfl,fun _=>rfl⟩
theorem ba_len (l:List UInt8):(⟨l.toArray⟩:ByteArray).size=l.length:=by simp[ByteArray.size]
theorem ba_app (a b:List UInt8):(⟨a.toArray⟩++⟨b.toArray⟩:ByteArray)=⟨(a++b).toArray⟩:=by
 apply ByteArray.ext
 simp
theorem str_app (a b:List UInt8) (h:a.length+b.length≤9223372036854775807):binStr .add ⟨a.toArray⟩ ⟨b.toArray⟩=some (strB (a++b)):=by
 simp only[binStr,ba_len]
 rw[if_pos h,ba_app]
theorem gPow: Tryd.prog.globalNamed "internal/strconv.uint64pow10" =some 0:=by kernel_rfl
theorem pow_cells: ∀p∈globs,p.1=0∧p.2.length=20∧ ∀i,i<20→p.2[i]? =some (.int .u64 ((10^i:Nat):Int)):=by
 intro p hp
 simp only[globs,List.mem_singleton] at hp
 subst hp
 refine ⟨rfl,rfl,fun i hi=>?_⟩
 exact pow_at i hi
where pow_at: ∀i,i<20→(globs.head (by simp[globs])).2[i]? =some (.int .u64 ((10^i:Nat):Int))
 |0,_=>rfl
 |1,_=>rfl
 |2,_=>rfl
 |3,_=>rfl
 |4,_=>rfl
 |5,_=>rfl
 |6,_=>rfl
 |7,_=>rfl
 |8,_=>rfl
 |9,_=>rfl
 |10,_=>rfl
 |11,_=>rfl
 |12,_=>rfl
 |13,_=>rfl
 |14,_=>rfl
 |15,_=>rfl
 |16,_=>rfl
 |17,_=>rfl
 |18,_=>rfl
 |19,_=>rfl
 |n+20,h=>by omega
theorem tab_is {ρ:List RB} {m:AMem} {w:World} (h:Glob ρ m w):Lib.TabIs Tryd.prog w "internal/strconv.uint64pow10" .u64 Lib.pow10Tab:=by
 obtain ⟨p,hp⟩: ∃p,p∈globs:=⟨_,List.mem_singleton.2 rfl⟩
 obtain ⟨_,_,h3,arr,t,fz,h4,h5⟩:=h p hp
 obtain ⟨e0,e1,e2⟩:=pow_cells p hp
 rw[e0] at h3 h4
 rw[e1] at h5
 unfold Lib.TabIs World.var?
 rw[gPow]
 simp only[Option.bind_some]
 rw[h4]
 simp only[Option.some.injEq]
 refine Array.ext (by rw[h5];simp[Lib.pow10Tab]) fun i hi hi'=>?_
 have hi20:i<20:=by rw[h5] at hi;exact hi
 obtain ⟨v,hv,hr⟩:=h3 i _ (e2 i hi20)
 simp only[VR] at hr
 subst hr
 unfold World.cell? at hv
 simp only[h4] at hv
 have:arr[i]? =some (.int .u64 ((10^i:Nat):Int)):=by simpa using hv
 rw[Array.getElem?_eq_getElem hi] at this
 rw[Option.some.inj this]
 simp[Lib.pow10Tab]
theorem k50 (n:Int) (h0: -9223372036854775808≤n) (h1:n≤9223372036854775807) (m:AMem):ACalls Tryd.prog 50 [.int .i64 n,.int .i64 10] m fun v m'=>v=strB (Lib.itoa n)∧m'=m:=by
 refine ⟨⟨_,Tryd.func50,by kernel_rfl,by kernel_rfl⟩,fun ρ w args' hs hg hv=>?_⟩
 simp only[VRs,VR] at hv
 obtain ⟨_,_,e1,rfl,_,_,rfl,rfl,rfl⟩:=hv
 obtain rfl:args'= #[.int .i64 n,.int .i64 10]:=by rw[←Array.toList_inj];simpa using e1
 refine (Tryd.strconv_FormatInt_10 n h0 h1 w (tab_is hg)).mono ?_
 rintro e w' ⟨rfl,k,os,rfl⟩
 exact ⟨_,_,m,ρ,rfl,⟨rfl,rfl⟩,by simp[VR],below_sim hs (Lib.below_grow _ _ (Nat.le_refl _) _ _)⟩
theorem k51 (s:AVal) (ss:List (List UInt8)) (sep:UInt8) (m:AMem) (h:Sl m 1 s ss.length (ss.map strB)) (hn:ss.length≤2^40) (hl:(Lib.join ss [sep]).length≤2^46):
  ACalls Tryd.prog 51 [s,.str ⟨#[sep]⟩] m fun v m'=>v=strB (Lib.join ss [sep])∧m'=m:=by
 refine ⟨⟨_,Tryd.func51,by kernel_rfl,by kernel_rfl⟩,fun ρ w args' hs _ hv=>?_⟩
 simp only[VRs,VR] at hv
 obtain ⟨sv,_,e1,hsv,_,_,rfl,rfl,rfl⟩:=hv
 obtain rfl:args'= #[sv,.string ⟨#[sep]⟩]:=by rw[←Array.toList_inj];simpa using e1
 have hend: ∀{w':World} {e:Ending},e= .returned (.string ⟨(Lib.join ss [sep]).toArray⟩)∧Below w.heap.size w w'→ ∃v' v m' ρ',e= .returned v'∧(v=strB (Lib.join ss [sep])∧m'=m)∧VR ρ' v v'∧Sim ρ' m' w'∧Evol ρ m w ρ' m' w':=fun {w' e} ⟨he,hb⟩=>⟨_,_,m,ρ,he,⟨rfl,rfl⟩,by simp[VR],below_sim hs hb⟩
 rcases h with ⟨rfl,e,_⟩|⟨b,o,cap,gr,rfl,⟨hcap,_⟩,h2⟩
 ·simp only[VR] at hsv
  subst hsv
  obtain rfl:=List.eq_nil_of_length_eq_zero e
  exact (Tryd.strings_Join_none none 0 ⟨#[sep]⟩ w).mono fun e w' ⟨he,hw⟩=>hend ⟨he,hw▸Below.refl _ _⟩
 ·simp only[VR] at hsv
  obtain ⟨A,a',c,rfl,hA,hc,hlc,_,hcc,_⟩:=hsv
  rcases h2 with ⟨e,_⟩|⟨hne,bl,h3,h4⟩
  ·rw[e]
   obtain rfl:=List.eq_nil_of_length_eq_zero e
   exact (Tryd.strings_Join_none (some a') c ⟨#[sep]⟩ w).mono fun e w' ⟨he,hw⟩=>hend ⟨he,hw▸Below.refl _ _⟩
  ·have hc:=hc (by omega)
   subst hc
   have hlen:(ss.map fun l:List UInt8=>(⟨l.toArray⟩:ByteArray)).length=ss.length:=by simp
   have hmm:(ss.map fun l:List UInt8=>(⟨l.toArray⟩:ByteArray)).map (·.data.toList)=ss:=by rw[List.map_map];exact (List.map_congr_left fun _ _=>rfl).trans (List.map_id _)
   have hj:= Tryd.strings_Join A.block (A.off+o) c (ss.map fun l:List UInt8=>(⟨l.toArray⟩:ByteArray)) ⟨#[sep]⟩ w (fun j x hx=>by
    rw[List.getElem?_map] at hx
    obtain ⟨y,hy,rfl⟩:=Option.map_eq_some_iff.1 hx
    have hjl:=(List.getElem?_eq_some_iff.1 hy).1
    have:=readN_get h4 (i:=j) (by omega)
    rw[List.getElem?_map,hy] at this
    have hmb: ∃blk,m[b]? =some blk∧blk.cells=some bl:=by
     unfold readB at h3
     cases hmb:m[b]? with
     |none=>rw[hmb] at h3;simp at h3
     |some blk=>rw[hmb] at h3;exact ⟨blk,rfl,h3⟩
    obtain ⟨blk,g1,g2⟩:=hmb
    obtain ⟨v,p1,p2⟩:=hs.read g1 g2 hA this
    simp only[VR] at p2
    subst p2
    simpa[at_,Nat.add_assoc] using p1) (hs.bound b A hA) (by rw[hlen];omega) (by rw[hlen];omega) (by rw[hmm];show (Lib.join ss [sep]).length≤_;omega)
   rw[hlen,hmm] at hj
   exact hj.mono fun e w' h=>hend h
theorem dec_len: ∀(k u:Nat),u<10^(k+1)→(Lib.decDigits u).length≤k+1
 |0,u,h=>by unfold Lib.decDigits;rw[dif_pos (by simpa using h)];simp
 |k+1,u,h=>by
  unfold Lib.decDigits
  split
  ·simp
  ·have:=dec_len k (u / 10) (by rw[Nat.div_lt_iff_lt_mul (by omega),←Nat.pow_succ];exact h)
   rw[List.length_append]
   simp only[List.length_cons,List.length_nil]
   omega
theorem itoa_len {n:Int} (h0: -9223372036854775808≤n) (h1:n≤9223372036854775807):(Lib.itoa n).length≤21:=by
 unfold Lib.itoa
 split
 ·have:=dec_len 19 n.natAbs (by omega)
  simp only[List.length_cons]
  omega
 ·have:=dec_len 19 n.toNat (by omega)
  omega
def i64 (n:Int):Prop:= -9223372036854775808≤n∧n≤9223372036854775807
def oneB (b:Int×Int):List UInt8:=Lib.itoa b.1++ [58]++Lib.itoa b.2
def textB (bs:List (Int×Int)):List UInt8:= [91]++Lib.join (bs.map oneB) [44]++ [93]
theorem oneB_len {b:Int×Int} (h:i64 b.1∧i64 b.2):(oneB b).length≤43:=by
 have h1:=itoa_len h.1.1 h.1.2
 have h2:=itoa_len h.2.1 h.2.2
 unfold oneB
 simp only[List.length_append,List.length_cons,List.length_nil]
 omega
theorem join_len {ss:List (List UInt8)} {c:Nat} (h: ∀x∈ss,x.length≤c):(Lib.join ss [44]).length≤ss.length*(c+1):=by
 unfold Lib.join
 induction ss with
 |nil=>simp
 |cons x ss ih=>
  have hx:=h x List.mem_cons_self
  have:=ih fun y hy=>h y (List.mem_cons_of_mem _ hy)
  cases ss with
  |nil=>simp[List.intercalate];omega
  |cons y ys=>
   have he:List.intercalate [44] (x::y::ys)=x++ [44]++List.intercalate [44] (y::ys):=by simp[List.intercalate]
   rw[he,List.length_append,List.length_append,show (x::y::ys).length=(y::ys).length+1 from rfl,Nat.succ_mul]
   simp only[List.length_cons,List.length_nil] at this ⊢
   omega
set_option maxHeartbeats 4000000 in
theorem k16 (s:AVal) (bs:List (Int×Int)) (m:AMem) (hs:SlF 2 bdC m s bs) (hn:bs.length≤1000) (h64: ∀x∈bs,i64 x.1∧i64 x.2):
  ACalls Tryd.prog 16 [s] m fun v m'=>m<+:m'∧v=strB (textB bs):=by
 refine w16 ?_
 simp[hs.len]
 obtain ⟨I,hI⟩: ∃I:Nat→AFrame→AMem→Prop,∀q f m',I q f m'↔(∃(i:Nat) (o:AVal),i+q=bs.length∧f=h16_0 o s (.int .i64 bs.length) (.int .i64 i)∧m<+:m'∧OwL strB m.length m' 9 o ((bs.take i).map oneB)):=⟨_,fun _ _ _=>Iff.rfl⟩
 refine W_loop I bs.length ((hI _ _ _).2 ⟨0,.nilslice,by simp,by simp,List.prefix_refl _,OwL.nil⟩) ?_
 rintro q f m2 hIn
 obtain ⟨i,o,hq,rfl,hm2,hO⟩:=(hI _ _ _).1 hIn
 clear hIn
 simp
 refine bbind_dec (fun hil=>?_) fun hil=>?_
 rotate_left
 ·have:i=bs.length:=by omega
  subst this
  rw[List.take_length] at hO
  simp
  have hlen:(bs.map oneB).length=bs.length:=by simp
  have hj:(Lib.join (bs.map oneB) [44]).length≤bs.length*44:=by
   have:=join_len (ss:=bs.map oneB) (c:=43) (fun x hx=>by
    obtain ⟨b,hb,rfl⟩:=List.mem_map.1 hx
    exact oneB_len (h64 b hb))
   simpa using this
  refine C_of (k51 o (bs.map oneB) 44 m2 (Ow.sl hO) (by omega) (by omega)) ?_
  rintro _ m2 ⟨rfl,rfl⟩
  have e1:=str_app [91] (Lib.join (bs.map oneB) [44]) (by simp only[List.length_cons,List.length_nil];omega)
  have e2:=str_app ([91]++Lib.join (bs.map oneB) [44]) [93] (by simp only[List.length_append,List.length_cons,List.length_nil];omega)
  simp at e1 e2
  simp[e1,e2,textB,hm2]
 have hil:i<bs.length:=by omega
 have hw:IntKind.i64.wrap ((i:Int)+1)=(i:Int)+1:=wrap64 (by omega) (by omega)
 obtain ⟨b1,o1,p1,_,p3⟩:=(hs.mono hm2).at hil
 have htk:=take_snoc hil
 have hx64:=h64 bs[i] (List.getElem_mem hil)
 generalize bs[i]=x at*
 have l1:=itoa_len hx64.1.1 hx64.1.2
 have l2:=itoa_len hx64.2.1 hx64.2.2
 simp only[bdC] at p3
 simp[p1,p3]
 rw[store_new _ _ [AVal.int .i64 x.1,AVal.int .i64 x.2] _ _ 2 rfl rfl rfl]
 have hb3:=readB_new m2 [AVal.int .i64 x.1,AVal.int .i64 x.2] 83 none
 have hm3:m2<+:m2++ [ABlk.own [AVal.int .i64 x.1,AVal.int .i64 x.2] 83 none]:=List.prefix_append _ _
 generalize m2++ [ABlk.own [AVal.int .i64 x.1,AVal.int .i64 x.2] 83 none]=m3 at*
 generalize m2.length=b3 at*
 have e1:=str_app (Lib.itoa x.1) [58] (by simp only[List.length_cons,List.length_nil];omega)
 have e2:=str_app (Lib.itoa x.1++ [58]) (Lib.itoa x.2) (by simp only[List.length_append,List.length_cons,List.length_nil];omega)
 have e3:Lib.itoa x.1++ [58]++Lib.itoa x.2=oneB x:=rfl
 simp only[List.append_assoc,List.singleton_append] at e1 e2 e3
 simp
 refine W_draw (fun i v _=>match i with
  |3=>v=strB (Lib.itoa x.1)
  |7=>v=strB (Lib.itoa x.2)
  |_=>True) (by simp[maxDst]) ?_
 refine D_pc 0 3 [3,4,5,6,7,8,9,10,11] ?_
 simp[bx hb3]
 intro fs _
 refine D_Cv (fn:=50) (fs':= []) (cs:= []) (strB (Lib.itoa x.1)) rfl trivial rfl (by simp) (fun m' h1 _=>by simpa using (k50 x.1 hx64.1.1 hx64.1.2 m').mono fun v m'' h=>⟨by rw[h.2];exact List.prefix_refl _,h.1⟩) ?_
 simp
 have hf1: ∀j m',upd fs 3 (fun _=>True) j m':=upd_true (by assumption) _
 refine D_pc 4 3 [7,8,9,10,11] (hfs:=hf1) ?_
 simp[e1,bx hb3]
 intro fs2 hfs2
 refine D_Cv (fn:=50) (fs':= []) (cs:= []) (strB (Lib.itoa x.2)) rfl trivial rfl (by simp) (fun m' h1 _=>by simpa using (k50 x.2 hx64.2.1 hx64.2.2 m').mono fun v m'' h=>⟨by rw[h.2];exact List.prefix_refl _,h.1⟩) ?_
 simp
 refine D_P rfl trivial ?_
 simp[e2,e3]
 refine D_An rfl trivial ?_
 simp[fillA,setN]
 intro b9 hb9
 refine D_X rfl rfl fun m4 hm4 hf=>?_
 have hf9:=hf 9
 simp[upd] at hf9
 have hsc:sliceCells m4 1 (.slice b9 0 1 1 none)=some (1,[strB (oneB x)]):=by simp[sliceCells,readB,hf9,ABlk.cells,readN]
 have hm24:=hm3.trans hm4
 have hm04:=hm2.trans hm24
 obtain ⟨o',m5,happ,hch,hO5,_⟩:=OwL.append (hO.mono hm24) (by have:=hm04.length_le;omega) (by_:=16) (by omega) [oneB x] (by simp;omega)
 simp at happ
 simp[hsc,happ,lateOf]
 refine D_P rfl trivial ?_
 simp
 refine D_end fun m6 hm6 _=>?_
 simp[hw]
 refine ⟨q-1,by omega,(hI _ _ _).2 ⟨i+1,o',by omega,by simp,(hch.pre hm04 fun b hb e=>by have:=(hO.blk_lo e).1;omega).trans hm6,?_⟩⟩
 rw[htk,List.map_append]
 exact hO5.mono hm6
end Go.Proofs.YtodhalcpnmddjaaDoor
namespace Go.Proofs.YtodhalcpnmddjaaDoor
open Go Ax
set_option maxRecDepth 100000
def D0:Dsc:=⟨0,[⟨1,2,3⟩,⟨0,2,1⟩]⟩
def S0:Dsc:=⟨3,[⟨0,2,1⟩]⟩
theorem e_make:makeD [(1,2),(0,2)]=(D0,0):=rfl
theorem e_count:D0.count=6:=rfl
theorem e_place:placeD D0 [2,1]=(4,0,0):=rfl
theorem e_sub:subD D0 0 2=(S0,0):=rfl
theorem e_bad:S0.bad=false:=rfl
theorem e_meet:meetD S0 D0=true:=rfl
theorem e_same:sameD S0 S0=true:=same_self e_bad
theorem e_text:textB [(0,2)]= [91,48,58,50,93]:=by
 simp[textB,oneB,Lib.itoa,Lib.decDigits,Lib.join,List.intercalate]
set_option maxHeartbeats 4000000 in
theorem k11 (m:AMem):ACalls Tryd.prog 11 [] m fun v m'=>m<+:m'∧v= .bool true:=by
 refine w11 ?_
 simp[fillA,setN]
 have hO:=OwF.new (w:=2) (f:=bdC) m 83 [(1,2),(0,2)]
 have hm1:m<+:m++ [ABlk.own [AVal.int .i64 1,AVal.int .i64 2,AVal.int .i64 0,AVal.int .i64 2] 83 none]:=List.prefix_append _ _
 have hs1:SlF 2 bdC (m++ [ABlk.own [AVal.int .i64 1,AVal.int .i64 2,AVal.int .i64 0,AVal.int .i64 2] 83 none]) (.slice m.length 0 2 2 none) [(1,2),(0,2)]:=hO.sl
 clear hO
 generalize m++ [ABlk.own [AVal.int .i64 1,AVal.int .i64 2,AVal.int .i64 0,AVal.int .i64 2] 83 none]=m1 at*
 refine C_of (k12 _ [(1,2),(0,2)] m1 hs1 (by simp)) ?_
 rw[e_make]
 rintro _ m2 ⟨hm2,w,rfl,hD⟩
 replace hD:=hD.ds
 obtain ⟨s,rfl,hs,hsb⟩:=id hD
 obtain ⟨o1,o2⟩:=hs.one
 simp
 rw[store_new m2 _ [AVal.int .i64 D0.b,s] _ _ 2 rfl rfl (by simp[o1])]
 have hb:=readB_new m2 [AVal.int .i64 D0.b,s] 26 none
 have hm3:m2<+:m2++ [ABlk.own [AVal.int .i64 D0.b,s] 26 none]:=List.prefix_append _ _
 generalize m2++ [ABlk.own [AVal.int .i64 D0.b,s] 26 none]=m3 at*
 generalize m2.length=b1 at*
 have hbw:=bxW hb 2
 simp[readN] at hbw
 simp[hbw,fillA,setN]
 have hs4:RInts (m3++ [ABlk.own [AVal.int .i64 2,AVal.int .i64 1] 2 none]) (.slice m3.length 0 2 2 none) [2,1]:=OwL.ints (Ow.new (m:=m3) (ty:=2) (esz:=1) (n:=2) (cs:= [AVal.int .i64 2,AVal.int .i64 1]) rfl rfl)
 have hm4:m3<+:m3++ [ABlk.own [AVal.int .i64 2,AVal.int .i64 1] 2 none]:=List.prefix_append _ _
 generalize m3++ [ABlk.own [AVal.int .i64 2,AVal.int .i64 1] 2 none]=m4 at*
 refine C_of (k28 _ _ D0 [2,1] m4 (hD.mono (hm3.trans hm4)) hs4 (by simp[D0]) (by simp)) ?_
 rw[e_place]
 rintro _ m5 ⟨hm5,rfl⟩
 have hm35:=hm4.trans hm5
 have hbw:=bxW (readB_mono hm35 hb) 2
 simp[readN] at hbw
 simp[hbw]
 refine C_of (k40 _ D0 0 2 m5 (hD.mono (hm3.trans hm35)) (by simp[D0])) ?_
 rw[e_sub]
 rintro _ m6 ⟨hm6,w',rfl,hS⟩
 obtain ⟨s',rfl,hs',hsb'⟩:=id hS
 obtain ⟨o1',o2'⟩:=hs'.one
 simp
 rw[store_new m6 _ [AVal.int .i64 S0.b,s'] _ _ 2 rfl rfl (by simp[o1'])]
 have hb6:=readB_new m6 [AVal.int .i64 S0.b,s'] 26 none
 have hm7:m6<+:m6++ [ABlk.own [AVal.int .i64 S0.b,s'] 26 none]:=List.prefix_append _ _
 generalize m6++ [ABlk.own [AVal.int .i64 S0.b,s'] 26 none]=m7 at*
 generalize m6.length=b6 at*
 have hm37:=hm35.trans (hm6.trans hm7)
 have hD7:=hD.mono (hm3.trans hm37)
 have hS7:=hS.mono hm7
 have hm07:=hm1.trans (hm2.trans (hm3.trans hm37))
 have hb7:=readB_mono hm37 hb
 clear hb hbw hs4 hm4 hm5 hm35 hm6 hm7 hm37 hD hS hm1 hm2 hm3 hs1 hs hs'
 have hbw:=bxW hb7 2
 simp[readN] at hbw
 simp[hbw]
 refine C_of (k23 _ D0 m7 hD7 (by simp[D0])) ?_
 rw[e_count]
 rintro _ m8 ⟨hm8,rfl⟩
 have hbw:=bxW (readB_mono hm8 hb6) 2
 simp[readN] at hbw
 have hs0b:S0.b=3:=rfl
 simp[bx (readB_mono hm8 hb6),hbw,hs0b]
 have hS8:=hS7.mono hm8
 rw[hs0b] at hS8 hb6
 refine C_of (k25 _ S0 m8 hS8 (by simp[S0])) ?_
 rw[e_bad]
 rintro v9 m9 ⟨hm9,hB9⟩
 rw[if_neg (by simp),show S0.bnds= [(0,2)] from rfl] at hB9
 simp
 refine C_of (k16 v9 [(0,2)] m9 hB9 (by simp) (by simp[i64])) ?_
 rw[e_text]
 rintro _ m10 ⟨hm10,rfl⟩
 have hteq:binStr .eql ⟨#[91,48,58,50,93]⟩ ⟨#[91,48,58,50,93]⟩=some (.bool true):=by simp[binStr]
 have hm810:=hm8.trans (hm9.trans hm10)
 have hbw:=bxW (readB_mono hm810 hb6) 2
 simp[readN] at hbw
 simp[hteq,hbw]
 refine C_of (k25 _ S0 m10 (hS8.mono (hm9.trans hm10)) (by simp[S0])) ?_
 rw[e_bad]
 rintro v11 m11 ⟨hm11,hB11⟩
 rw[if_neg (by simp),show S0.bnds= [(0,2)] from rfl] at hB11
 simp[fillA,setN]
 have hO:=(OwF.new (w:=2) (f:=bdC) m11 83 [(0,2)]).sl
 have hm12:m11<+:m11++ [ABlk.own [AVal.int .i64 0,AVal.int .i64 2] 83 none]:=List.prefix_append _ _
 have hs12:SlF 2 bdC (m11++ [ABlk.own [AVal.int .i64 0,AVal.int .i64 2] 83 none]) (.slice m11.length 0 1 1 none) [(0,2)]:=hO
 clear hO
 generalize m11++ [ABlk.own [AVal.int .i64 0,AVal.int .i64 2] 83 none]=m12 at*
 refine C_of (k18 v11 _ [(0,2)] [(0,2)] m12 (hB11.mono hm12) hs12 (by simp)) ?_
 rintro _ m13 ⟨hm13,rfl⟩
 have hm813:=hm810.trans (hm11.trans (hm12.trans hm13))
 have hbw:=bxW (readB_mono hm813 hb6) 2
 simp[readN] at hbw
 simp[hbw]
 have hS13:=hS8.mono ((hm9.trans hm10).trans (hm11.trans (hm12.trans hm13)))
 refine C_of (k33 _ _ S0 S0 m13 hS13 hS13 (by simp[S0]) (by simp[S0])) ?_
 rw[e_same]
 rintro _ m14 ⟨hm14,rfl⟩
 have hm814:=hm813.trans hm14
 have hbw:=bxW (readB_mono hm814 hb6) 2
 simp[readN] at hbw
 have hbw':=bxW (readB_mono hm814 hb7) 2
 simp[readN] at hbw'
 simp[hbw,hbw']
 refine C_of (k35 _ _ S0 D0 m14 (hS13.mono hm14) (hD7.mono hm814) (by simp[S0]) (by simp[D0])) ?_
 rw[e_meet]
 rintro _ m15 ⟨hm15,rfl⟩
 simp[hm07.trans (hm814.trans hm15)]
end Go.Proofs.YtodhalcpnmddjaaDoor
namespace Go.Proofs.YtodhalcpnmddjaaDoor
open Go Ax
set_option maxRecDepth 100000
theorem plain_take {bs:List (Int×Int)} {i:Nat} (hi:i<bs.length):(plainW bs).take (i+1)=(plainW bs).take i++ [⟨bs[i].1,bs[i].2,IntKind.i64.wrap (prodN (bs.drop (i+1)):Int)⟩]:=by
 rw[take_snoc (by rw[plainW_len];exact hi),plainW_get hi]
set_option maxHeartbeats 8000000 in
theorem k13 (s:AVal) (bs:List (Int×Int)) (m:AMem) (hs:SlF 2 bdC m s bs) (hn:bs.length<2^30):
  ACalls Tryd.prog 13 [s] m fun v m'=>m<+:m'∧ ∃w,v= .tuple [w,.int .i64 (makeD bs).2]∧DsO m.length m' w (makeD bs).1:=by
 refine w13 ?_
 simp
 have hm1:m<+:m++ [ABlk.own [AVal.int .i64 0,AVal.nilslice] 32 none]:=List.prefix_append _ _
 have hx1:(m++ [ABlk.own [AVal.int .i64 0,AVal.nilslice] 32 none])[m.length]? =some (.own [.int .i64 0,.nilslice] 32 none):=by simp
 generalize m++ [ABlk.own [AVal.int .i64 0,AVal.nilslice] 32 none]=m1 at*
 refine C_of (k48 s bs m1 (hs.mono hm1) (by omega)) ?_
 rintro _ m2 ⟨hm2,rfl⟩
 have hx2:=prefix_get hm2 hx1
 have hlt:=(List.getElem?_eq_some_iff.1 hx2).1
 by_cases hc:checkB bs=0
 rotate_left
 ·have hmk:makeD bs=(.zero,checkB bs):=by unfold makeD;rw[if_pos hc]
  simp[bneT hc,fillA]
  rw[store_boxN (cs:= [.int .i64 0,.nilslice]) (n:=2) hx2 rfl rfl rfl]
  simp[loadE,readB,hlt,ABlk.cells,readN,hmk]
  have hcc:Ch (fun b=>b=m.length) m2 (m2.set m.length (.own [.int .i64 0,.nilslice] 32 none)):=Ch.setS _ rfl
  exact ⟨hcc.pre (hm1.trans hm2) fun b hb h=>by omega,DsO.zero _ _⟩
 have hmk:makeD bs=(⟨0,plainW bs⟩,0):=by unfold makeD;rw[if_neg (by simp[hc])]
 obtain ⟨_,hc2,_⟩:=check_zero.1 hc
 have hnear: ∀x∈bs,(nearI x.1&&nearI x.2)=true:=fun x hx=>by simp[hc2 x hx]
 simp[hc]
 have hm3:m2<+:m2++ [ABlk.own [AVal.int .i64 0,AVal.nilslice] 32 none]:=List.prefix_append _ _
 have hx3:(m2++ [ABlk.own [AVal.int .i64 0,AVal.nilslice] 32 none])[m2.length]? =some (.own [.int .i64 0,.nilslice] 32 none):=by simp
 have hl3:(m2++ [ABlk.own [AVal.int .i64 0,AVal.nilslice] 32 none]).length=m2.length+1:=by simp
 generalize m2++ [ABlk.own [AVal.int .i64 0,AVal.nilslice] 32 none]=m3 at*
 generalize hb5:m2.length=b5 at*
 have hx23:=prefix_get hm3 hx2
 have hm03:=hm1.trans (hm2.trans hm3)
 clear hm1 hm2 hm3 hx1 hx2
 obtain ⟨I,hI⟩: ∃I:Nat→AFrame→AMem→Prop,∀q f m',I q f m'↔(∃(i:Nat) (o:AVal),i+q=bs.length∧f=h13_0 s (.ptr m.length 0) (.ptr b5 0) (.int .i64 i)∧m'[b5]? =some (.own [.int .i64 0,o] 32 none)∧OwF 3 dmC m3.length m' 90 o ((plainW bs).take i)∧Ch (fun b=>b=b5) m3 m'):=⟨_,fun _ _ _=>Iff.rfl⟩
 refine W_loop I bs.length ((hI _ _ _).2 ⟨0,.nilslice,by simp,by simp,hx3,OwF.nil,.refl _ _⟩) ?_
 rintro q f m4 hIn
 obtain ⟨i,o,hq,rfl,hx4,hO4,hc4⟩:=(hI _ _ _).1 hIn
 clear hIn
 have hm04:=hc4.pre hm03 fun b hb h=>by have:=hm03.length_le;omega
 simp[hs.len]
 refine bbind_dec (fun hil=>?_) fun hil=>?_
 rotate_left
 ·have:i=bs.length:=by omega
  subst this
  rw[List.take_of_length_le (by rw[plainW_len];omega)] at hO4
  obtain ⟨o1,o2⟩:=hO4.sl.one
  have hx24:=hc4.keep _ _ hx23 (by omega)
  have hlt4:=(List.getElem?_eq_some_iff.1 hx24).1
  simp[bxW (box_read hx4),readN]
  rw[store_boxN (cs:= [.int .i64 0,o]) (n:=2) hx24 rfl rfl (by simp[o1])]
  simp[loadE,readB,hlt4,ABlk.cells,readN,hmk]
  have hcc:Ch (fun b=>b=b5∨b=m.length) m3 (m4.set m.length (.own [.int .i64 0,o] 32 none)):=(hc4.weaken fun b _ h=> .inl h).set (.inl (.inr rfl)) _
  refine ⟨hcc.pre hm03 fun b hb h=>by omega,DsO.own (hO4.ch (Ch.setS (S:=fun b=>b=m.length) _ rfl) fun b hb h=>?_) (by have:=hm03.length_le;omega)⟩
  have:=(hO4.blk_lo hb).1
  omega
 have hil:i<bs.length:=by omega
 have hwi:IntKind.i64.wrap ((i:Int)+1)=((i+1:Nat):Int):=by rw[wrap64 (by omega) (by omega)];rfl
 simp[hwi]
 obtain ⟨I2,hI2⟩: ∃I:Nat→AFrame→AMem→Prop,∀q f m',I q f m'↔(∃(k:Nat),i+1+k+q=bs.length∧f=h13_1 s (.ptr m.length 0) (.ptr b5 0) (.int .i64 i) (.int .i64 (IntKind.i64.wrap (prodN ((bs.drop (i+1)).take k):Int))) (.int .i64 ((i+1+k:Nat):Int))∧m4<+:m'):=⟨_,fun _ _ _=>Iff.rfl⟩
 refine W_loop I2 (bs.length-(i+1)) ((hI2 _ _ _).2 ⟨0,by omega,?_,List.prefix_refl _⟩) ?_
 ·rw[List.take_zero,show (prodN []:Int)=1 from rfl,show IntKind.i64.wrap 1=1 from wrap64 (by omega) (by omega)]
  simp
 rintro q2 f m5 hIn
 obtain ⟨k,hq2,rfl,hm5⟩:=(hI2 _ _ _).1 hIn
 clear hIn
 have hm05:=hm04.trans hm5
 simp[hs.len]
 refine bbind_dec (fun hkl=>?_) fun hkl=>?_
 ·have hkl:i+1+k<bs.length:=by omega
  have hwk:IntKind.i64.wrap (((i+1+k:Nat):Int)+1)=((i+1+(k+1):Nat):Int):=by rw[wrap64 (by omega) (by omega)];omega
  obtain ⟨b1,o1,p1,p2,_⟩:=(hs.mono hm05).at hkl
  have hx:=hnear bs[i+1+k] (List.getElem_mem hkl)
  have htk:prodN ((bs.drop (i+1)).take (k+1))=prodN ((bs.drop (i+1)).take k)*lenB bs[i+1+k]:=by
   rw[prodN_take (by rw[List.length_drop];omega),List.getElem_drop]
  obtain ⟨hl1,hl2⟩:=near_len hx
  generalize bs[i+1+k]=x at*
  have p20:=p2 0 (by omega)
  have p21:=p2 1 (by omega)
  simp[bdC] at p20 p21
  push_cast at p1 hwk
  simp
  refine W_draw (fun _ _ _=>True) (by simp[maxDst]) ?_
  refine D_pc 0 11 [11,12,13] ?_
  simp[p1,p20,p21]
  intro fs _
  refine D_X rfl rfl fun m6 hm6 _=>?_
  simp
  refine C_of (k49 x.1 x.2 m6 (near_k374 hx)) ?_
  rintro _ m6 ⟨rfl,rfl⟩
  rw[hl1]
  refine ⟨by simp[lateOf],?_⟩
  refine D_pc 12 2 [] (hfs:=fun _ _=>trivial) ?_
  have hw1:IntKind.i64.wrap (IntKind.i64.wrap (prodN ((bs.drop (i+1)).take k):Int)*(lenB x:Int))=IntKind.i64.wrap (prodN ((bs.drop (i+1)).take (k+1)):Int):=by
   rw[wrap_mul_l,htk,Int.natCast_mul]
  simp[hw1]
  intro _ _
  refine D_end fun m7 hm7 _=>?_
  simp[hwk]
  refine ⟨q2-1,by omega,(hI2 _ _ _).2 ⟨k+1,by omega,by simp,hm5.trans (hm6.trans hm7)⟩⟩
 have hk:i+1+k=bs.length:=by omega
 have hdt:(bs.drop (i+1)).take k=bs.drop (i+1):=List.take_of_length_le (by rw[List.length_drop];omega)
 rw[hdt]
 clear hI2 hwi
 have hx5:=prefix_get hm5 hx4
 have hb5r:=box_read hx5
 obtain ⟨b1,o1,p1,p2,_⟩:=(hs.mono hm05).at hil
 have hpt:=plain_take hil
 generalize bs[i]=x at*
 have p20:=p2 0 (by omega)
 have p21:=p2 1 (by omega)
 simp[bdC] at p20 p21
 simp
 refine W_draw (fun _ _ _=>True) (by simp[maxDst]) ?_
 refine D_pc 0 14 [14,15,16,17] ?_
 simp[bx hb5r,p1,p20,p21,fillA,setN]
 intro fs _
 refine D_An rfl trivial ?_
 simp[fillA,setN]
 intro b9 hb9
 refine D_X rfl rfl fun m6 hm6 hf=>?_
 have hf9:=hf 14
 simp[upd] at hf9
 have hsc:sliceCells m6 3 (.slice b9 0 1 1 none)=some (1,[.int .i64 x.1,.int .i64 x.2,.int .i64 (IntKind.i64.wrap (prodN (bs.drop (i+1)):Int))]):=by simp[sliceCells,readB,hf9,ABlk.cells,readN]
 have hm46:=hm5.trans hm6
 have hl46:=hm46.length_le
 have hl34:=hc4.len
 obtain ⟨o',m7,happ,hch,hO7,hg7⟩:=(hO4.mono hm46).push (by omega) (by_:=24) (by omega) ⟨x.1,x.2,IntKind.i64.wrap (prodN (bs.drop (i+1)):Int)⟩ (by rw[List.length_take,plainW_len];omega)
 simp only[dmC] at happ
 simp[hsc,happ,lateOf]
 refine D_P rfl trivial ?_
 simp
 refine D_W rfl rfl fun m8 hm8 _=>?_
 have hblo: ∀b,o.blk=some b→m3.length≤b:=fun b hb=>(hO4.blk_lo hb).1
 have hx7:=hch.keep b5 _ (prefix_get hm6 hx5) (fun h=>by have:=hblo _ h;omega)
 have hx8:=prefix_get hm8 hx7
 obtain ⟨q1,q2⟩:=hO7.sl.one
 simp
 rw[store_cell (cs:= [.int .i64 0,o]) hx8 (by simp) q2 q1]
 simp
 refine D_end fun m9 hm9 _=>?_
 have hl8:=(List.getElem?_eq_some_iff.1 hx8).1
 have hx9:m9[b5]? =some (.own [.int .i64 0,o'] 32 none):=prefix_get hm9 (by rw[List.getElem?_set_self hl8])
 have hc9:Ch (fun b=>b=b5) m3 m9:=by
  have h1:Ch (fun b=>b=b5∨o.blk=some b) m4 m9:=((((Ch.of_prefix hm46).trans (hch.weaken fun b _ h=> .inr h)).trans (.of_prefix hm8)).set (.inl (.inl rfl)) _).trans (.of_prefix hm9)
  refine ch_trans2 hc4 h1 fun b hb=>?_
  rcases hb with h|h
  ·exact .inl h
  ·exact .inr (hblo b h)
 have hwi:IntKind.i64.wrap ((i:Int)+1)=(i:Int)+1:=wrap64 (by omega) (by omega)
 simp[hwi]
 refine ⟨q-1,by omega,(hI _ _ _).2 ⟨i+1,o',by omega,by simp,hx9,?_,hc9⟩⟩
 rw[hpt]
 refine ((hO7.mono hm8).ch (Ch.setS (S:=fun b=>b=b5) _ rfl) fun b hb h=>?_).mono hm9
 have:=(hO7.blk_lo hb).1
 omega
end Go.Proofs.YtodhalcpnmddjaaDoor
namespace Go.Proofs.YtodhalcpnmddjaaDoor
open Go Ax
set_option maxRecDepth 100000
set_option maxHeartbeats 4000000 in
theorem k14 (s:AVal) (bs:List (Int×Int)) (m:AMem) (hs:SlF 2 bdC m s bs) (hn:bs.length<2^30):ACalls Tryd.prog 14 [s] m fun v m'=>m<+:m'∧SlF 2 bdC m' v bs:=by
 refine w14 ?_
 simp
 obtain ⟨I,hI⟩: ∃I:Nat→AFrame→AMem→Prop,∀q f m',I q f m'↔(∃(i:Nat) (o:AVal),i+q=bs.length∧f=h14_0 s o (.int .i64 i)∧m<+:m'∧OwF 2 bdC m.length m' 88 o (bs.take i)):=⟨_,fun _ _ _=>Iff.rfl⟩
 refine W_loop I bs.length ((hI _ _ _).2 ⟨0,.nilslice,by simp,by simp,List.prefix_refl _,OwF.nil⟩) ?_
 rintro q f m2 hIn
 obtain ⟨i,o,hq,rfl,hm2,hO⟩:=(hI _ _ _).1 hIn
 clear hIn
 simp[hs.len]
 refine bbind_dec (fun hil=>?_) fun hil=>?_
 rotate_left
 ·have:i=bs.length:=by omega
  subst this
  rw[List.take_length] at hO
  simp
  exact ⟨hm2,hO.sl⟩
 have hil:i<bs.length:=by omega
 have hw:IntKind.i64.wrap ((i:Int)+1)=(i:Int)+1:=wrap64 (by omega) (by omega)
 obtain ⟨b1,o1,p1,p2,_⟩:=(hs.mono hm2).at hil
 have htk:=take_snoc hil
 generalize bs[i]=x at*
 have p20:=p2 0 (by omega)
 have p21:=p2 1 (by omega)
 simp[bdC] at p20 p21
 simp
 refine W_draw (fun _ _ _=>True) (by simp[maxDst]) ?_
 refine D_pc 0 12 [12,13,14] ?_
 simp[p1,p20,p21,fillA,setN]
 intro fs _
 refine D_An rfl trivial ?_
 simp[fillA,setN]
 intro b9 hb9
 refine D_X rfl rfl fun m3 hm3 hf=>?_
 have hf9:=hf 12
 simp[upd] at hf9
 have hsc:sliceCells m3 2 (.slice b9 0 1 1 none)=some (1,[.int .i64 x.1,.int .i64 x.2]):=by simp[sliceCells,readB,hf9,ABlk.cells,readN]
 have hm03:=hm2.trans hm3
 obtain ⟨o',m4,happ,hch,hO4,hg4⟩:=(hO.mono hm3).push (by have:=hm03.length_le;omega) (by_:=16) (by omega) x (by simp;omega)
 simp only[bdC] at happ
 simp[hsc,happ,lateOf]
 refine D_P rfl trivial ?_
 simp
 refine D_end fun m5 hm5 _=>?_
 simp[hw]
 refine ⟨q-1,by omega,(hI _ _ _).2 ⟨i+1,o',by omega,by simp,(hch.pre hm03 fun b hb e=>by have:=(hO.blk_lo e).1;omega).trans hm5,?_⟩⟩
 rw[htk]
 exact hO4.mono hm5
set_option maxHeartbeats 4000000 in
theorem k15 (v w:AVal) (d:Dsc) (m:AMem) (hv:DsR m v d) (hw:DsR m w d) (hn:d.ds.length<2^30):ACalls Tryd.prog 15 [v,w] m fun r m'=>m<+:m'∧r= .bool true:=by
 obtain ⟨s,rfl,hs,_⟩:=hv
 obtain ⟨t,rfl,ht,_⟩:=hw
 refine w15 ?_
 obtain ⟨h1,h2⟩:=hs.one
 obtain ⟨h1',h2'⟩:=ht.one
 simp[h1,h2,h1',h2']
 have hm:m<+:m++ [ABlk.own [AVal.int .i64 d.b,s] 26 none,ABlk.own [AVal.int .i64 d.b,t] 32 none]:=List.prefix_append _ _
 have hb:readB (m++ [ABlk.own [AVal.int .i64 d.b,s] 26 none,ABlk.own [AVal.int .i64 d.b,t] 32 none]) m.length=some [.int .i64 d.b,s]:=by simp[readB,ABlk.cells]
 have hb':readB (m++ [ABlk.own [AVal.int .i64 d.b,s] 26 none,ABlk.own [AVal.int .i64 d.b,t] 32 none]) (m.length+1)=some [.int .i64 d.b,t]:=by simp[readB,ABlk.cells]
 generalize m++ [ABlk.own [AVal.int .i64 d.b,s] 26 none,ABlk.own [AVal.int .i64 d.b,t] 32 none]=m1 at*
 simp[bx hb,bx hb',hs.len,ht.len]
 obtain ⟨I,hI⟩: ∃I:Nat→AFrame→AMem→Prop,∀q f m',I q f m'↔(∃(i:Nat),i+q=d.ds.length∧f=h15_0 (.ptr m.length 0) (.ptr (m.length+1) 0) (.int .i64 i)∧m1<+:m'):=⟨_,fun _ _ _=>Iff.rfl⟩
 refine W_loop I d.ds.length ((hI _ _ _).2 ⟨0,by simp,by simp,List.prefix_refl _⟩) ?_
 rintro q f m2 hIn
 obtain ⟨i,hq,rfl,hm2⟩:=(hI _ _ _).1 hIn
 clear hIn
 have hb2:=readB_mono hm2 hb
 have hb2':=readB_mono hm2 hb'
 simp[bx hb2,hs.len]
 refine bbind_dec (fun hil=>?_) fun hil=>?_
 rotate_left
 ·simp[hm.trans hm2]
 have hil:i<d.ds.length:=by omega
 have hw:IntKind.i64.wrap ((i:Int)+1)=(i:Int)+1:=wrap64 (by omega) (by omega)
 obtain ⟨b1,o1,p1,p2,_⟩:=(hs.mono (hm.trans hm2)).at hil
 obtain ⟨b1',o1',p1',p2',_⟩:=(ht.mono (hm.trans hm2)).at hil
 generalize d.ds[i]=x at*
 have p20:=p2 0 (by omega)
 have p21:=p2 1 (by omega)
 have p22:=p2 2 (by omega)
 have p20':=p2' 0 (by omega)
 have p21':=p2' 1 (by omega)
 have p22':=p2' 2 (by omega)
 simp[dmC] at p20 p21 p22 p20' p21' p22'
 simp
 refine W_drawPR (by simp[maxDst]) rfl rfl ?_
 simp[bx hb2,bx hb2',p1,p1',p20,p21,p22,p20',p21',p22']
 intro m3 hm3
 simp[hw]
 exact ⟨q-1,by omega,(hI _ _ _).2 ⟨i+1,by omega,by simp,hm2.trans hm3⟩⟩
def joinD (n:Int) (bs:List (Int×Int)):Dsc×Int:=if n<0 then (.zero,11) else makeD ((1,n)::bs)
set_option maxHeartbeats 4000000 in
theorem k37 (s:AVal) (n:Int) (bs:List (Int×Int)) (m:AMem) (hs:SlF 2 bdC m s bs) (hn:bs.length<2^20):
  ACalls Tryd.prog 37 [.int .i64 n,s] m fun v m'=>m<+:m'∧ ∃w,v= .tuple [w,.int .i64 (joinD n bs).2]∧DsO m.length m' w (joinD n bs).1:=by
 refine w37 ?_
 have hm1:m<+:m++ [ABlk.own [AVal.int .i64 0,AVal.nilslice] 26 none]:=List.prefix_append _ _
 have hx1:(m++ [ABlk.own [AVal.int .i64 0,AVal.nilslice] 26 none])[m.length]? =some (.own [.int .i64 0,.nilslice] 26 none):=by simp
 simp
 generalize m++ [ABlk.own [AVal.int .i64 0,AVal.nilslice] 26 none]=m1 at*
 refine bbind_dec (fun h=>?_) fun h=>?_
 ·have hlt:=(List.getElem?_eq_some_iff.1 hx1).1
  have hj:joinD n bs=(.zero,11):=by unfold joinD;rw[if_pos h]
  simp[fillA]
  rw[store_boxN (cs:= [.int .i64 0,.nilslice]) (n:=2) hx1 rfl rfl rfl]
  simp[loadE,readB,hlt,ABlk.cells,readN,hj]
  have hcc:Ch (fun b=>b=m.length) m1 (m1.set m.length (.own [.int .i64 0,.nilslice] 26 none)):=Ch.setS _ rfl
  exact ⟨hcc.pre hm1 fun b hb h=>by omega,DsO.zero _ _⟩
 have hj:joinD n bs=makeD ((1,n)::bs):=by unfold joinD;rw[if_neg h]
 simp[fillA,setN]
 have hO:=OwF.new (w:=2) (f:=bdC) m1 83 [(1,n)]
 have hm2:m1<+:m1++ [ABlk.own [AVal.int .i64 1,AVal.int .i64 n] 83 none]:=List.prefix_append _ _
 have hO2:OwF 2 bdC m1.length (m1++ [ABlk.own [AVal.int .i64 1,AVal.int .i64 n] 83 none]) 83 (.slice m1.length 0 1 1 none) [(1,n)]:=hO
 clear hO
 have hbl:(AVal.slice m1.length 0 1 1 none).blk=some m1.length:=rfl
 have hl12:(m1++ [ABlk.own [AVal.int .i64 1,AVal.int .i64 n] 83 none]).length=m1.length+1:=by simp
 generalize AVal.slice m1.length 0 1 1 none=sl at*
 generalize m1++ [ABlk.own [AVal.int .i64 1,AVal.int .i64 n] 83 none]=m2 at*
 have hs2:=hs.mono (hm1.trans hm2)
 obtain ⟨o',m3,happ,hch,hO3,hg3⟩:=hO2.append (by omega) (by_:=16) (by omega) bs (by simp;omega)
 simp[hs2.cells,happ]
 have hx2:=prefix_get hm2 hx1
 have hl1:=(List.getElem?_eq_some_iff.1 hx1).1
 have hx3:=hch.keep _ _ hx2 (fun h=>by rw[hbl,Option.some.injEq] at h;omega)
 have hm13:m1<+:m3:=hch.pre hm2 fun b hb h=>by rw[hbl,Option.some.injEq] at h;omega
 refine C_of (k12 o' ((1,n)::bs) m3 hO3.sl (by simp;omega)) ?_
 rintro _ m4 ⟨hm4,w,rfl,hD⟩
 obtain ⟨t,rfl,ht,htb⟩:=hD
 obtain ⟨o1,o2⟩:=ht.one
 have hx4:=prefix_get hm4 hx3
 have hlt:=(List.getElem?_eq_some_iff.1 hx4).1
 simp
 rw[store_boxN (cs:= [.int .i64 (makeD ((1,n)::bs)).1.b,t]) (n:=2) hx4 rfl rfl (by simp[o1])]
 simp[loadE,readB,hlt,ABlk.cells,readN,hj]
 have hcc:Ch (fun b=>b=m.length) m4 (m4.set m.length (.own [.int .i64 (makeD ((1,n)::bs)).1.b,t] 26 none)):=Ch.setS _ rfl
 refine ⟨hcc.pre (hm1.trans (hm13.trans hm4)) fun b hb h=>by omega,t,rfl,ht.ch hcc fun b hb h=>?_,fun b hb=>⟨?_,by simpa using (htb b hb).2⟩⟩
 ·have:=(htb b hb).1
  have:=hm13.length_le
  omega
 ·have:=(htb b hb).1
  have:=hm1.length_le
  have:=hm13.length_le
  omega
set_option maxHeartbeats 4000000 in
theorem k38 (s:AVal) (n:Int) (bs:List (Int×Int)) (m:AMem) (hs:SlF 2 bdC m s bs) (hn:bs.length<2^20):
  ACalls Tryd.prog 38 [.int .i64 n,s] m fun v m'=>m<+:m'∧ ∃w,v= .tuple [w,.int .i64 (joinD n bs).2]∧DsO m.length m' w (joinD n bs).1:=by
 refine w38 ?_
 have hm1:m<+:m++ [ABlk.own [AVal.int .i64 0,AVal.nilslice] 32 none]:=List.prefix_append _ _
 have hx1:(m++ [ABlk.own [AVal.int .i64 0,AVal.nilslice] 32 none])[m.length]? =some (.own [.int .i64 0,.nilslice] 32 none):=by simp
 simp
 generalize m++ [ABlk.own [AVal.int .i64 0,AVal.nilslice] 32 none]=m1 at*
 refine bbind_dec (fun h=>?_) fun h=>?_
 ·have hlt:=(List.getElem?_eq_some_iff.1 hx1).1
  have hj:joinD n bs=(.zero,11):=by unfold joinD;rw[if_pos h]
  simp[fillA]
  rw[store_boxN (cs:= [.int .i64 0,.nilslice]) (n:=2) hx1 rfl rfl rfl]
  simp[loadE,readB,hlt,ABlk.cells,readN,hj]
  have hcc:Ch (fun b=>b=m.length) m1 (m1.set m.length (.own [.int .i64 0,.nilslice] 32 none)):=Ch.setS _ rfl
  exact ⟨hcc.pre hm1 fun b hb h=>by omega,DsO.zero _ _⟩
 have hj:joinD n bs=makeD ((1,n)::bs):=by unfold joinD;rw[if_neg h]
 simp[fillA,setN]
 have hO:=OwF.new (w:=2) (f:=bdC) m1 88 [(1,n)]
 have hm2:m1<+:m1++ [ABlk.own [AVal.int .i64 1,AVal.int .i64 n] 88 none]:=List.prefix_append _ _
 have hO2:OwF 2 bdC m1.length (m1++ [ABlk.own [AVal.int .i64 1,AVal.int .i64 n] 88 none]) 88 (.slice m1.length 0 1 1 none) [(1,n)]:=hO
 clear hO
 have hbl:(AVal.slice m1.length 0 1 1 none).blk=some m1.length:=rfl
 have hl12:(m1++ [ABlk.own [AVal.int .i64 1,AVal.int .i64 n] 88 none]).length=m1.length+1:=by simp
 generalize AVal.slice m1.length 0 1 1 none=sl at*
 generalize m1++ [ABlk.own [AVal.int .i64 1,AVal.int .i64 n] 88 none]=m2 at*
 have hs2:=hs.mono (hm1.trans hm2)
 obtain ⟨o',m3,happ,hch,hO3,hg3⟩:=hO2.append (by omega) (by_:=16) (by omega) bs (by simp;omega)
 simp[hs2.cells,happ]
 have hx2:=prefix_get hm2 hx1
 have hl1:=(List.getElem?_eq_some_iff.1 hx1).1
 have hx3:=hch.keep _ _ hx2 (fun h=>by rw[hbl,Option.some.injEq] at h;omega)
 have hm13:m1<+:m3:=hch.pre hm2 fun b hb h=>by rw[hbl,Option.some.injEq] at h;omega
 refine C_of (k13 o' ((1,n)::bs) m3 hO3.sl (by simp;omega)) ?_
 rintro _ m4 ⟨hm4,w,rfl,hD⟩
 obtain ⟨t,rfl,ht,htb⟩:=hD
 obtain ⟨o1,o2⟩:=ht.one
 have hx4:=prefix_get hm4 hx3
 have hlt:=(List.getElem?_eq_some_iff.1 hx4).1
 simp
 rw[store_boxN (cs:= [.int .i64 (makeD ((1,n)::bs)).1.b,t]) (n:=2) hx4 rfl rfl (by simp[o1])]
 simp[loadE,readB,hlt,ABlk.cells,readN,hj]
 have hcc:Ch (fun b=>b=m.length) m4 (m4.set m.length (.own [.int .i64 (makeD ((1,n)::bs)).1.b,t] 32 none)):=Ch.setS _ rfl
 refine ⟨hcc.pre (hm1.trans (hm13.trans hm4)) fun b hb h=>by omega,t,rfl,ht.ch hcc fun b hb h=>?_,fun b hb=>⟨?_,by simpa using (htb b hb).2⟩⟩
 ·have:=(htb b hb).1
  have:=hm13.length_le
  omega
 ·have:=(htb b hb).1
  have:=hm1.length_le
  have:=hm13.length_le
  omega
set_option maxHeartbeats 4000000 in
theorem k6 (s:AVal) (n:Int) (bs:List (Int×Int)) (m:AMem) (hs:SlF 2 bdC m s bs) (hn:bs.length<2^62):
  ACalls Tryd.prog 6 [.int .i64 n,s] m fun v m'=>m<+:m'∧v= .bool true:=by
 refine w6 ?_
 simp
 refine C_of (k11 m) ?_
 rintro _ m1 ⟨hm1,rfl⟩
 simp[hs.len]
 by_cases hl:5<bs.length
 ·have hl':(5:Int)<(bs.length:Int):=by omega
  simp[hl']
  refine C_of (k11 m1) ?_
  rintro _ m2 ⟨hm2,rfl⟩
  simp[hm1.trans hm2]
 have hl': ¬(5:Int)<(bs.length:Int):=by omega
 simp[hl']
 refine C_of (k37 s n bs m1 (hs.mono hm1) (by omega)) ?_
 rintro _ m2 ⟨hm2,w,rfl,hD⟩
 replace hD:=hD.ds
 obtain ⟨t,rfl,ht,htb⟩:=id hD
 obtain ⟨o1,o2⟩:=ht.one
 simp
 rw[store_new m2 _ [AVal.int .i64 (joinD n bs).1.b,t] _ _ 2 rfl rfl (by simp[o1])]
 have hb:=readB_new m2 [AVal.int .i64 (joinD n bs).1.b,t] 26 none
 have hm3:m2<+:m2++ [ABlk.own [AVal.int .i64 (joinD n bs).1.b,t] 26 none]:=List.prefix_append _ _
 generalize m2++ [ABlk.own [AVal.int .i64 (joinD n bs).1.b,t] 26 none]=m3 at*
 generalize m2.length=b5 at*
 have hm03:=hm1.trans (hm2.trans hm3)
 simp
 refine C_of (k14 s bs m3 (hs.mono hm03) (by omega)) ?_
 rintro v4 m4 ⟨hm4,hs4⟩
 simp
 refine C_of (k38 v4 n bs m4 hs4 (by omega)) ?_
 rintro _ m5 ⟨hm5,w',rfl,hE⟩
 replace hE:=hE.ds
 obtain ⟨t',rfl,ht',htb'⟩:=id hE
 obtain ⟨o1',o2'⟩:=ht'.one
 simp
 rw[store_new m5 _ [AVal.int .i64 (joinD n bs).1.b,t'] _ _ 2 rfl rfl (by simp[o1'])]
 have hb7:=readB_new m5 [AVal.int .i64 (joinD n bs).1.b,t'] 32 none
 have hm6:m5<+:m5++ [ABlk.own [AVal.int .i64 (joinD n bs).1.b,t'] 32 none]:=List.prefix_append _ _
 generalize m5++ [ABlk.own [AVal.int .i64 (joinD n bs).1.b,t'] 32 none]=m6 at*
 generalize m5.length=b7 at*
 have hm36:=hm4.trans (hm5.trans hm6)
 have hbw:=bxW (readB_mono hm36 hb) 2
 have hbw7:=bxW hb7 2
 simp[readN] at hbw hbw7
 simp[hbw,hbw7]
 have hlen:(joinD n bs).1.ds.length<2^30:=by
  unfold joinD makeD
  split
  ·simp[Dsc.zero]
  ·split
   ·simp[Dsc.zero]
   ·simp only[plainW_len,List.length_cons];omega
 refine C_of (k15 _ _ (joinD n bs).1 m6 (hD.mono (hm3.trans hm36)) (hE.mono hm6) hlen) ?_
 rintro _ m7 ⟨hm7,rfl⟩
 simp[hm03.trans (hm36.trans hm7)]
end Go.Proofs.YtodhalcpnmddjaaDoor
namespace Go.Proofs.YtodhalcpnmddjaaDoor.Ax
open Go Go.ChangeShapes Go.WideShapes Go.ChangeAt Go.RowKit
set_option maxRecDepth 100000
def RoMem (m:AMem):Prop:= ∀(b:Nat) blk,m[b]? =some blk→blk.isOwn=false
theorem Sim.nil (w:World):Sim [] [] w:=⟨rfl,by simp,by simp,by simp⟩
theorem RoMem.nil:RoMem []:=by intro b blk h;simp at h
theorem Sim.ro {ρ:List RB} {m:AMem} {w:World} (h:Sim ρ m w) (hm:RoMem m) {a:RB} (cs:List AVal) (ha:a.block<w.heap.size) (hc: ∀(i:Nat) x,cs[i]? =some x→ ∃v,w.cell? (at_ a i)=some v∧VR ρ x v):
  Sim (ρ++ [a]) (m++ [.ro cs]) w∧RoMem (m++ [.ro cs]):=by
 have hp:ρ<+:ρ++ [a]:=List.prefix_append _ _
 have hr:RoMem (m++ [.ro cs]):=by
  intro b blk hb
  rcases Nat.lt_or_ge b m.length with hlt|hge
  ·rw[List.getElem?_append_left hlt] at hb;exact hm b blk hb
  ·rw[List.getElem?_append_right hge] at hb
   cases hk:b-m.length with
   |zero=>rw[hk] at hb;simp at hb;subst hb;rfl
   |succ k=>rw[hk] at hb;simp at hb
 refine ⟨⟨by simp[h.len],?_,?_,?_⟩,hr⟩
 ·intro b blk a' hb ha'
  rcases Nat.lt_or_ge b m.length with hlt|hge
  ·rw[List.getElem?_append_left hlt] at hb
   rw[List.getElem?_append_left (by rw[h.len];exact hlt)] at ha'
   exact (h.ok b blk a' hb ha').mono hp
  ·rw[List.getElem?_append_right hge] at hb
   rw[List.getElem?_append_right (by rw[h.len];exact hge),h.len] at ha'
   cases hk:b-m.length with
   |zero=>
    rw[hk] at hb ha'
    simp only[List.getElem?_cons_zero,Option.some.injEq] at hb ha'
    subst hb ha'
    intro i x hx
    obtain ⟨v,h1,h2⟩:=hc i x hx
    exact ⟨v,h1,VR.mono hp x v h2⟩
   |succ k=>rw[hk] at hb;simp at hb
 ·intro b b' blk blk' a1 a2 _ hb _ _ _ ho
  rw[hr b blk hb] at ho
  simp at ho
 ·intro b a' ha'
  rcases Nat.lt_or_ge b ρ.length with hlt|hge
  ·rw[List.getElem?_append_left hlt] at ha';exact h.bound b a' ha'
  ·rw[List.getElem?_append_right hge] at ha'
   cases hk:b-ρ.length with
   |zero=>rw[hk] at ha';simp at ha';subst ha';exact ha
   |succ k=>rw[hk] at ha';simp at ha'
theorem slice_in {ρ:List RB} {m:AMem} {w:World} (h:Sim ρ m w) (hm:RoMem m) (hne:0<w.heap.size) {a:Addr} {len cap esz:Nat} (hlc:len≤cap)
  (hcell:cap≠0→ ∃v,w.cell? a=some v) {xs:List AVal} (hx:xs.length=len*esz) (hc: ∀(i:Nat) x,xs[i]? =some x→ ∃v,w.cell? (a.add i)=some v∧VR ρ x v):
  ∃ρ' m' s,ρ<+:ρ'∧m<+:m'∧RoMem m'∧Sim ρ' m' w∧VR ρ' s (.slice (some a) len cap)∧Sl m' esz s len xs:=by
 by_cases hcap:cap=0
 ·subst hcap
  obtain rfl:len=0:=by omega
  obtain rfl:xs= []:=List.eq_nil_of_length_eq_zero (by simpa using hx)
  obtain ⟨h1,h2⟩:=h.ro hm (a:=⟨0,0,0,0⟩) [] hne (by simp)
  refine ⟨_,_,.slice m.length 0 0 0 none,List.prefix_append _ _,List.prefix_append _ _,h2,h1,?_,.inr ⟨_,_,_,_,rfl,⟨by omega,.inl rfl⟩,.inl ⟨rfl,rfl⟩⟩⟩
  simp only[VR]
  exact ⟨⟨0,0,0,0⟩,a,0,rfl,by rw[←h.len];simp,by simp,by omega,by simp,by omega,by simp⟩
 ·obtain ⟨v0,hv0⟩:=hcell hcap
  have hs:=World.cell?_spot hv0
  obtain ⟨b,off,sp⟩:=a
  simp only at hs
  subst hs
  have hb:b<w.heap.size:=by
   rcases Nat.lt_or_ge b w.heap.size with hlt|hge
   ·exact hlt
   ·unfold World.cell? at hv0
    simp only[Array.getElem?_eq_none hge] at hv0
    simp at hv0
  obtain ⟨h1,h2⟩:=h.ro hm (a:=⟨b,off,0,0⟩) xs hb fun i x hx=>by
   obtain ⟨v,h1,h2⟩:=hc i x hx
   rw[Go.WideShapes.add_plain] at h1
   exact ⟨v,h1,h2⟩
  refine ⟨_,_,.slice m.length 0 len cap none,List.prefix_append _ _,List.prefix_append _ _,h2,h1,?_,.inr ⟨_,_,_,_,rfl,⟨hlc,.inl rfl⟩,?_⟩⟩
  ·simp only[VR]
   exact ⟨⟨b,off,0,0⟩,_,cap,rfl,by rw[←h.len];simp,by simp,hlc,by simp,by omega,by simp⟩
  ·by_cases hl:len=0
   ·subst hl
    exact .inl ⟨rfl,List.eq_nil_of_length_eq_zero (by simpa using hx)⟩
   ·refine .inr ⟨hl,xs,by simp[readB,ABlk.cells],?_⟩
    have h0:0+len*esz≤xs.length:=by omega
    unfold readN
    rw[if_pos h0,List.drop_zero,List.take_of_length_le (by omega)]
def Enters (w:World) (vs:List Value) (Rep:AMem→List AVal→Prop):Prop:=
 ∀ρ m,Sim ρ m w→RoMem m→ ∃ρ' m' xs,ρ<+:ρ'∧m<+:m'∧RoMem m'∧Sim ρ' m' w∧VRs ρ' xs vs∧Rep m' xs
variable {H:Type} {enc:TypeId×Value→H} {P:Program} {w:World} {base:Nat} {spare:Nat→Bool} {held:Bool}
structure ModeT (P:Program) where
 tT:TypeId
 tM:TypeId
 tI:TypeId
 eI:TypeId
 tS:TypeId
 eS:TypeId
 k0:TypeId
 k1:TypeId
 k4:TypeId
 k5:TypeId
 fs:Array Field
 hT:P.underlying tT=some (.slice tM)
 hM:P.underlying tM=some (.struct fs)
 hI:P.underlying tI=some (.slice eI)
 hi:P.underlying eI=some (.int .i64)
 hS:P.underlying tS=some (.slice eS)
 hs:P.underlying eS=some .string
 h0:P.underlying k0=some (.int .i64)
 h1:P.underlying k1=some (.int .i64)
 h4:P.underlying k4=some (.int .i64)
 h5:P.underlying k5=some .bool
 cM:P.cellsOf tM=6
 ci:P.cellsOf eI=1
 cs:P.cellsOf eS=1
 c0:P.cellsOf k0=1
 c1:P.cellsOf k1=1
 cI:P.cellsOf tI=1
 cS:P.cellsOf tS=1
 c4:P.cellsOf k4=1
 c5:P.cellsOf k5=1
 bi:P.bytesOf eI=8
 bs:P.bytesOf eS=16
 bM:1≤P.bytesOf tM
 sz:fs.size=6
 f0:(fs[0]?).map (fun f=>(f.type,f.offset))=some (k0,0)
 f1:(fs[1]?).map (fun f=>(f.type,f.offset))=some (k1,1)
 f2:(fs[2]?).map (fun f=>(f.type,f.offset))=some (tI,2)
 f3:(fs[3]?).map (fun f=>(f.type,f.offset))=some (tS,3)
 f4:(fs[4]?).map (fun f=>(f.type,f.offset))=some (k4,4)
 f5:(fs[5]?).map (fun f=>(f.type,f.offset))=some (k5,5)
theorem field_of {fs:Array Field} {i:Nat} {t:TypeId} {o:Nat} (h:(fs[i]?).map (fun f=>(f.type,f.offset))=some (t,o)): ∃f,fs[i]? =some f∧f.type=t∧f.offset=o:=by
 cases hf:fs[i]? with
 |none=>rw[hf] at h;simp at h
 |some f=>rw[hf] at h;simp at h;exact ⟨f,rfl,h.1,h.2⟩
theorem below_of_evol {ρ ρ':List RB} {m m':AMem} {w':World} (hm:RoMem m) (h:Evol ρ m w ρ' m' w'):Below w.heap.size w w':=
 ⟨h.os,h.tape,h.output,h.size,fun k hk=>h.frame k hk fun ⟨b,blk,a,hb,ho,_⟩=>by rw[hm b blk hb] at ho;cases ho⟩
end Go.Proofs.YtodhalcpnmddjaaDoor.Ax
namespace Go.Proofs.YtodhalcpnmddjaaDoor.Ax
open Go Go.RowKit
variable {H:Type} {enc:TypeId×Value→H} {P:Program} {w:World} {base:Nat} {held:Bool}
theorem enters_slF {α:Type} {wd:Nat} {f:α→List AVal} [hf:SCell wd f] {t e:TypeId} (hwd:1≤wd) (hT:P.underlying t=some (.slice e)) (hc:P.cellsOf e=wd) (hB1:1≤P.bytesOf e)
  (hel: ∀{fuel:Nat} {cs:List Value} {x:DataW H×List MemPlace},DataW.trod enc P w base (fun _=>true) held fuel e cs=some x→ ∃y:α,Enters w cs (fun _ xs=>xs=f y)) {fuel:Nat} {cs:List Value}
  (hne: ∀a len cap,cs= [.slice (some a) len cap]→0<w.heap.size) {x:DataW H×List MemPlace} (h:DataW.trod enc P w base (fun _=>true) held fuel t cs=some x):
  ∃l:List α,Enters w cs (fun m xs=> ∃s,xs= [s]∧SlF wd f m s l)∧(∀B,(x.1.weights P t).all (· ≤B)=true→l.length≤B):=by
 rcases Go.Deep.open_slice hT h with ⟨rfl,rfl⟩|⟨a,len,cap,mm,n,D,Pl,rfl,_,hlc,_,hmm,rfl,hle⟩
 ·exact ⟨[],fun ρ m hs hm=>⟨ρ,m,[.nilslice],List.prefix_refl _,List.prefix_refl _,hm,hs,by simp[VRs,VR],.nilslice,rfl,SlF.nil⟩,by simp⟩
 ·replace hne:=hne _ _ _ rfl
  simp only[if_true] at hmm
  subst hmm
  rw[hc] at hle
  have hmd: ∀i,i<len→ ∃(cs':List Value) (y:α),w.cells? base (a.add (i*wd)) wd=some cs'∧Enters w cs' (fun _ xs=>xs=f y):=fun i hi=>by
   obtain ⟨cs',h1,h2⟩:=hle i (by omega)
   obtain ⟨y,h3⟩:=hel h2
   exact ⟨cs',y,h1,h3⟩
  have hl: ∃l:List α,l.length=len∧ ∀(i:Nat) y,l[i]? =some y→ ∃(cs':List Value),w.cells? base (a.add (i*wd)) wd=some cs'∧Enters w cs' (fun _ xs=>xs=f y):=by
   have: ∀k,k≤len→ ∃l:List α,l.length=k∧ ∀(i:Nat) y,l[i]? =some y→ ∃(cs':List Value),w.cells? base (a.add (i*wd)) wd=some cs'∧Enters w cs' (fun _ xs=>xs=f y):=by
    intro k
    induction k with
    |zero=>exact fun _=>⟨[],rfl,by simp⟩
    |succ k ih=>
     intro hk
     obtain ⟨l,h1,h2⟩:=ih (by omega)
     obtain ⟨cs',y,h3,h4⟩:=hmd k (by omega)
     refine ⟨l++ [y],by simp[h1],fun i y' hi=>?_⟩
     rcases Nat.lt_or_ge i l.length with hlt|hge
     ·rw[List.getElem?_append_left hlt] at hi;exact h2 i y' hi
     ·rw[List.getElem?_append_right hge] at hi
      cases hj:i-l.length with
      |zero=>
       rw[hj] at hi
       simp only[List.getElem?_cons_zero,Option.some.injEq] at hi
       subst hi
       obtain rfl:i=k:=by omega
       exact ⟨cs',h3,h4⟩
      |succ j=>rw[hj] at hi;simp at hi
   exact this len (Nat.le_refl _)
  obtain ⟨l,hlen,hl⟩:=hl
  refine ⟨l,fun ρ m hs hm=>?_,fun B hB=>?_⟩
  ·have key: ∀k,k≤len→ ∃(ρ':List RB) (m':AMem),ρ<+:ρ'∧m<+:m'∧RoMem m'∧Sim ρ' m' w∧(∀(i:Nat) x,((l.take k).flatMap f)[i]? =some x→ ∃v,w.cell? (a.add i)=some v∧VR ρ' x v):=by
    intro k
    induction k with
    |zero=>exact fun _=>⟨ρ,m,List.prefix_refl _,List.prefix_refl _,hm,hs,by simp⟩
    |succ k ih=>
     intro hk
     obtain ⟨ρ1,m1,h1,h2,h3,h4,h6⟩:=ih (by omega)
     have hkl:k<l.length:=by omega
     obtain ⟨cs',c1,c2⟩:=hl k l[k] (List.getElem?_eq_getElem hkl)
     obtain ⟨ρ2,m2,ys,g1,g2,g3,g4,g5,rfl⟩:=c2 ρ1 m1 h4 h3
     obtain ⟨_,c3,c4⟩:=World.cells?_some c1
     have hfl:((l.take k).flatMap f).length=k*wd:=by rw[flat_len,List.length_take,Nat.min_eq_left (by omega)]
     refine ⟨ρ2,m2,h1.trans g1,h2.trans g2,g3,g4,fun i x hx=>?_⟩
     rw[List.take_add_one,List.getElem?_eq_getElem hkl,Option.toList_some,List.flatMap_append,List.flatMap_cons,List.flatMap_nil,List.append_nil] at hx
     rcases Nat.lt_or_ge i (k*wd) with hlt|hge
     ·rw[List.getElem?_append_left (by omega)] at hx
      obtain ⟨v,hv,hr⟩:=h6 i x hx
      exact ⟨v,hv,VR.mono g1 x v hr⟩
     ·rw[List.getElem?_append_right (by omega),hfl] at hx
      have hj:=(List.getElem?_eq_some_iff.1 hx).1
      rw[hf.len] at hj
      obtain ⟨v,hv,hr⟩:=g5.get _ x hx
      refine ⟨v,?_,hr⟩
      have:=c4 (i-k*wd) hj
      rw[Addr.add_add,hv] at this
      rw[←this]
      congr 2
      omega
   obtain ⟨ρ1,m1,h1,h2,h3,h4,h6⟩:=key len (Nat.le_refl _)
   rw[List.take_of_length_le (by omega)] at h6
   obtain ⟨ρ',m',s,g1,g2,g3,g4,g5,g6⟩:=slice_in (esz:=wd) h4 h3 hne hlc (fun hcap=>by
    obtain ⟨cs',c1,_⟩:=hle 0 (by omega)
    obtain ⟨_,c3,c4⟩:=World.cells?_some c1
    have:=c4 0 (by omega)
    rw[Addr.add_add] at this
    rw[List.getElem?_eq_getElem (by omega)] at this
    exact ⟨_,by simpa[Addr.add] using this⟩) (xs:=l.flatMap f) (by rw[flat_len,hlen]) h6
   exact ⟨ρ',m',[s],h1.trans g1,h2.trans g2,g3,g4,by simp only[VRs];exact ⟨_,_,rfl,g5,rfl⟩,s,rfl,by unfold SlF;rw[hlen];exact g6⟩
  ·simp only[DataW.weights,hT,List.all_cons,Bool.and_eq_true,decide_eq_true_eq,List.all_append] at hB
   obtain ⟨b1,_⟩:=hB
   simp only[List.length_map,List.length_range] at b1
   have h3:len≤(len+(mm-len))*P.bytesOf e:=by
    calc len≤(len+(mm-len))*1:=by omega
     _≤_:=Nat.mul_le_mul_left _ hB1
   omega
end Go.Proofs.YtodhalcpnmddjaaDoor.Ax
namespace Go.Proofs.YtodhalcpnmddjaaDoor
open Go Ax Go.ChangeShapes Go.WideShapes Go.ChangeAt Go.RowKit
set_option maxRecDepth 100000
theorem under3: Tryd.prog.underlying 3=some (.int .i64):=by kernel_rfl
theorem under2: Tryd.prog.underlying 2=some (.int .i64):=by kernel_rfl
theorem under4: Tryd.prog.underlying 4=some .bool:=by kernel_rfl
theorem cells2: Tryd.prog.cellsOf 2=1:=by kernel_rfl
theorem laidOut:laidOutB Tryd.prog=true:=by kernel_rfl
theorem own0:ownKnob Tryd.prog.godebug=none:=by kernel_rfl
def laidL:List (String×DataW Unit):= [("math/bits.deBruijn32tab",Rows.laid_math_bits_deBruijn32tab),("math/bits.deBruijn64tab",Rows.laid_math_bits_deBruijn64tab),("internal/strconv.uint64pow10",Rows.laid_internal_strconv_uint64pow10)]
noncomputable def tyPow:TypeId:=((Tryd.prog.globals[0]?).map (·.type)).getD 0
theorem gPowT:(Tryd.prog.globals[0]?).map (·.type)=some tyPow:=by kernel_rfl
theorem underPow: ∃e,Tryd.prog.underlying tyPow=some (.array 20 e)∧ Tryd.prog.underlying e=some (.int .u64)∧ Tryd.prog.cellsOf e=1∧ Tryd.prog.cellsOf tyPow=20:=by
 refine ⟨((match Tryd.prog.underlying tyPow with|some (.array _ e)=>e|_=>0)),by kernel_rfl,by kernel_rfl,by kernel_rfl,by kernel_rfl⟩
theorem pow_is {W:World} (hL:laidMetH Tryd.prog laidL W):Lib.TabIs Tryd.prog W "internal/strconv.uint64pow10" .u64 Lib.pow10Tab:=by
 have hL':laidMet Tryd.prog laidL W:=hL
 obtain ⟨g,t,cs,fuel,q,h1,h2,h3,h4⟩:=Lib.laidMet.reads hL' (n:= "internal/strconv.uint64pow10") (d:=Rows.laid_internal_strconv_uint64pow10) (by simp[laidL])
 obtain rfl:=Option.some.inj (gPow.symm.trans h1)
 obtain rfl:=Option.some.inj (gPowT.symm.trans h2)
 obtain ⟨e,e1,e2,e3,e4⟩:=underPow
 unfold Lib.TabIs
 rw[h3]
 have hd:(Rows.laid_internal_strconv_uint64pow10:DataW Unit)=Lib.tabData .u64 Lib.pow10Tab:=rfl
 rw[hd] at h4
 rw[←Lib.cells_of_tab e1 e2 e3 e4 h4]
theorem pow_heap {W:World} (hL:laidMetH Tryd.prog laidL W):0<W.heap.size:=by
 have hv:=pow_is hL
 unfold Lib.TabIs World.var? at hv
 rw[gPow] at hv
 simp only[Option.bind_some] at hv
 rcases Nat.eq_zero_or_pos W.heap.size with h0|h0
 ·rw[Array.getElem?_eq_none (by omega)] at hv
  simp at hv
 ·exact h0
theorem glob_of {ρ:List RB} {m:AMem} {W:World} (hL:laidMetH Tryd.prog laidL W) (hro:RoMem m):Glob ρ m W:=by
 have ht:=pow_is hL
 intro p hp
 obtain ⟨e0,e1,e2⟩:=pow_cells p hp
 have hv:=ht
 unfold Lib.TabIs World.var? at hv
 rw[gPow] at hv
 simp only[Option.bind_some] at hv
 rw[e0]
 cases hh:W.heap[0]? with
 |none=>rw[hh] at hv;simp at hv
 |some o=>
  rw[hh] at hv
  cases o<;>simp only[reduceCtorEq,Option.some.injEq] at hv
  rename_i arr t fz
  subst hv
  refine ⟨(Array.getElem?_eq_some_iff.1 hh).1,fun ho=>?_,fun i x hx=>?_,_,t,fz,rfl,by rw[e1];simp[Lib.pow10Tab]⟩
  ·obtain ⟨b,blk,a,hb,hown,_⟩:=ho
   rw[hro b blk hb] at hown
   cases hown
  ·have hi:i<20:=by have:=(List.getElem?_eq_some_iff.1 hx).1;omega
   rw[e2 i hi] at hx
   cases hx
   have:=ht.cell gPow i (by rw[Lib.pow10Tab_length];exact hi)
   rw[Lib.pow10Tab_at i hi] at this
   exact ⟨_,this,by simp[VR]⟩
theorem i64_of {n:Int} (h:(Lit.int .i64 n).wf=true):i64 n:=by
 simp only[Lit.wf,Bool.and_eq_true,decide_eq_true_eq] at h
 obtain ⟨h1,h2⟩:=h
 have e1:IntKind.i64.min= -9223372036854775808:=by decide
 have e2:IntKind.i64.max=9223372036854775807:=by decide
 rw[e1] at h1
 rw[e2] at h2
 exact ⟨h1,h2⟩
def Opn (t:TypeId) {α:Type} (Rep:α→AMem→AVal→Prop):Prop:=
 ∀{H:Type} {enc:TypeId×Value→H} {W:World} {r:Reach} {b0:Nat} {v:Value} {d:DataW H} {ps:List MemPlace},0<W.heap.size→Value.okWide Tryd.prog W r b0 t v→DataW.Trod enc Tryd.prog W 0 (fun _=>true) true t v d ps→(d.weights Tryd.prog t).all (· ≤reachBytes)=true→
  ∃y:α,∀ρ m,Sim ρ m W→RoMem m→ ∃ρ' m' x,ρ<+:ρ'∧m<+:m'∧RoMem m'∧Sim ρ' m' W∧VR ρ' x v∧Rep y m' x
def iR (a:Int) (_:AMem) (x:AVal):Prop:=x= .int .i64 a∧i64 a
theorem opn_int:Opn 3 iR:=fun {H enc W r b0 v d ps} _ hv hd _=>by
 obtain ⟨a,rfl,rfl,rfl,w⟩:=open_int under3 hv hd
 exact ⟨a,fun ρ m hs hm=>⟨ρ,m,.int .i64 a,List.prefix_refl _,List.prefix_refl _,hm,hs,by simp[VR],rfl,i64_of w⟩⟩
theorem liftedR2 {os:Os} {F:Stop.Interp} (started:os.Started) {H:Type} {enc:TypeId×Value→H} {f:FuncId} {fn:Func} {s:ChangeSpec} {conds:List PathCond} {ta tb:TypeId} {α β:Type} {RA:α→AMem→AVal→Prop} {RB:β→AMem→AVal→Prop}
  (oA:Opn ta RA) (oB:Opn tb RB) (mA: ∀a m m' x,m<+:m'→RA a m x→RA a m' x) (cA: Tryd.prog.readableRec ta=true) (cA':ta< Tryd.prog.types.size) (cB: Tryd.prog.readableRec tb=true) (cB':tb< Tryd.prog.types.size)
  (noInit: Tryd.checked.prog.inits.idxOf? f=none) (hfn: Tryd.checked.prog.funcs[f]? =some fn) (hp:fn.params= #[ta,tb]) (hr:fn.resultTypes= #[4]) (hs:s.vars= [])
  (hsf: ∀d1 d2:DataW H,s.fn H [d1,d2]={results:= [.lit (.bool true)],args:= [d1,d2]})
  (witness: ∃(w:World) (tape:Tape) (i:Input),w.os=os∧(w.forCall tape i).Shaped Tryd.checked.prog∧i.vars= []∧Input.okWide Tryd.checked.prog (w.forCall tape i) .any w.heap.size f i∧
   (OpenSpec.ofChange s).preRow enc Tryd.prog fn conds false laidL (w.forCall tape i).memory i.args∧({}:Assume).holds Tryd.checked.prog (lone (Frame.enter Tryd.checked.prog f i.args .normal) [] (w.forCall tape i)))
  (law: ∀a b m x y,RA a m x→RB b m y→ACalls Tryd.prog f [x,y] m fun v _=>v= .bool true):
  ReturnsInHanded {} Tryd.checked os f .any ((OpenSpec.ofChange s).preRow enc Tryd.prog fn conds false laidL) (((OpenSpec.ofChange s).at F).post enc Tryd.prog fn false true false false):=by
 refine returnsInHanded_of_row (C:= Tryd.checked) (s:=OpenSpec.ofChange s) own0 started noInit hfn witness ?_
 intro W base args ds gs before hval0 hW _ _ hsz0 hL _ _
 show Calls _ _ _ _ fun e W'=> ∃v,e= .returned v∧s.post enc Tryd.prog fn false true false false W args v W'
 replace hW:DataW.Whole enc Tryd.prog fn.params.toList s.vars false W args.toList ds gs before:=hW
 have hW':=hW
 rw[hp] at hval0 hsz0
 obtain ⟨p,q,hA,hV,rfl,_,_⟩:=hW
 rw[hp] at hA
 rw[hs] at hV
 obtain ⟨v0,v1,d0,d1,p0,p1,rfl,rfl,rfl,h0,h1⟩:=trodAll_two hA
 obtain ⟨rfl,rfl⟩:=trodVars_none hV
 have hwt: ∀(j:Nat) (t:TypeId) (d:DataW H),[ta,tb][j]? =some t→ [d0,d1][j]? =some d→(d.weights Tryd.prog t).all (· ≤reachBytes)=true:=fun j t d ht hd=>by
  rw[List.all_eq_true] at hsz0 ⊢
  intro n hn
  exact hsz0 n (DataW.weights_mem_each (j:=j) (t:=t) (d:=d) (by rcases j with _|_|j<;>simp_all) (by rcases j with _|_|j<;>simp_all) n hn)
 have hne:0<W.heap.size:=pow_heap hL
 obtain ⟨a,ea⟩:=oA hne (hval0 0 ta v0 rfl rfl) h0 (hwt 0 ta d0 rfl rfl)
 obtain ⟨b,eb⟩:=oB hne (hval0 1 tb v1 rfl rfl) h1 (hwt 1 tb d1 rfl rfl)
 obtain ⟨ρ1,m1,x,_,_,hro1,hsim1,hvr1,hR1⟩:=ea [] [] (Sim.nil W) RoMem.nil
 obtain ⟨ρ2,m2,y,hp2,hm2,hro,hsim,hvr2,hR2⟩:=eb ρ1 m1 hsim1 hro1
 have hlt: ∀x∈p0++(p1++ []),x.block<W.heap.size:=fun x hx=>hW'.lt x (by simpa using hx)
 refine ((law a b m2 x y (mA _ _ _ _ hm2 hR1) hR2).2 ρ2 W #[v0,v1] hsim (glob_of hL hro) (by simp only[VRs];exact ⟨_,_,rfl,VR.mono hp2 _ _ hvr1,_,_,rfl,hvr2,rfl⟩)).mono fun e W' h=>?_
 obtain ⟨v',v,m'',ρ'',rfl,rfl,hv,_,hev⟩:=h
 simp only[VR] at hv
 subst hv
 have hb:=below_of_evol hro hev
 refine ⟨_,rfl,[d0,d1],[],_,[],p0++(p1++ []),[],hW',?_,?_,?_,hb.frame _,fun h=>by cases h⟩
 ·rw[hr]
  show DataW.TrodAll enc _ W' _ _ _ [4] _ (s.fn H [d0,d1]).results []
  rw[hsf]
  exact trodAll_mk1 (shut_bool under4 true)
 ·rw[hp]
  show DataW.TrodAll enc _ W' _ _ _ [ta,tb] _ (s.fn H [d0,d1]).args _
  rw[hsf]
  exact trodAll_cons_mk (Below.trod laidOut cA cA' h0 hb fun x hx=>hlt x (by simp[hx])) (trodAll_cons_mk (Below.trod laidOut cB cB' h1 hb fun x hx=>hlt x (by simp[hx])) trodAll_mk0)
 ·show DataW.TrodVars enc _ W' _ s.vars (s.fn H [d0,d1]).vars _
  rw[hsf,hs]
  rfl
end Go.Proofs.YtodhalcpnmddjaaDoor
namespace Go.Proofs.YtodhalcpnmddjaaDoor
open Go Ax Go.ChangeShapes Go.WideShapes Go.ChangeAt Go.RowKit
set_option maxRecDepth 100000
def FlatT (t:TypeId) (n:Nat):Prop:=
 ∀{H:Type} {enc:TypeId×Value→H} {W:World} {base:Nat} {held:Bool} {fuel:Nat} {cs:List Value} {x:DataW H×List MemPlace},DataW.trod enc Tryd.prog W base (fun _=>true) held fuel t cs=some x→
  ∃zs:List Int,zs.length=n∧cs=zs.map (Value.int .i64)∧ ∀z∈zs,i64 z
theorem flat_int {t:TypeId} (ht: Tryd.prog.underlying t=some (.int .i64)):FlatT t 1:=fun {H enc W base held fuel cs x} h=>by
 obtain ⟨n,rfl,_,hw⟩:=DataW.trod_int ht h
 exact ⟨[n],rfl,rfl,fun z hz=>by simp at hz;subst hz;exact i64_of hw⟩
def FA (fs:Array Field):Nat→Nat→List (TypeId×Nat)→Prop
 |_,_,[]=>True
 |k,o,p::L=>(fs[k]?).map (fun f=>(f.type,f.offset))=some (p.1,o)∧FA fs (k+1) (o+p.2) L
def sumN (L:List (TypeId×Nat)):Nat:=(L.map (·.2)).sum
theorem flat_fields {fs:Array Field} {H:Type} {enc:TypeId×Value→H} {W:World} {base:Nat} {held:Bool} {n:Nat} {cs:List Value} {xs:List (DataW H×List MemPlace)} (hx:xs.length=fs.size)
  (hall: ∀(i:Nat) (f:Field),fs[i]? =some f→DataW.trod enc Tryd.prog W base (fun _=>true) held n f.type ((cs.drop f.offset).take (Tryd.prog.cellsOf f.type))=xs[i]?):
  ∀(L:List (TypeId×Nat)) (k o:Nat),(∀p∈L,FlatT p.1 p.2∧ Tryd.prog.cellsOf p.1=p.2)→FA fs k o L→ ∃zs:List Int,zs.length=sumN L∧(cs.drop o).take (sumN L)=zs.map (Value.int .i64)∧ ∀z∈zs,i64 z
 | [],k,o,_,_=>⟨[],rfl,by simp[sumN],by simp⟩
 |p::L,k,o,hL,⟨hk,hF⟩=>by
  obtain ⟨hp,hc⟩:=hL p List.mem_cons_self
  obtain ⟨f,hf,ht,ho⟩:=field_of hk
  have e:=hall k f hf
  rw[ht,ho,hc] at e
  have hkl:k<xs.length:=by rw[hx];exact (Array.getElem?_eq_some_iff.1 hf).1
  rw[List.getElem?_eq_getElem hkl] at e
  obtain ⟨zs,h1,h2,h3⟩:=hp e
  obtain ⟨zs',g1,g2,g3⟩:=flat_fields hx hall L (k+1) (o+p.2) (fun q hq=>hL q (List.mem_cons_of_mem _ hq)) hF
  have hs:sumN (p::L)=p.2+sumN L:=by simp[sumN]
  refine ⟨zs++zs',by rw[List.length_append,h1,g1,hs],?_,fun z hz=>?_⟩
  ·rw[hs,List.take_add,h2,List.drop_drop,g2,List.map_append]
  ·rcases List.mem_append.1 hz with h|h
   ·exact h3 z h
   ·exact g3 z h
theorem flat_struct {t:TypeId} {fs:Array Field} {L:List (TypeId×Nat)} {n:Nat} (ht: Tryd.prog.underlying t=some (.struct fs)) (hc: Tryd.prog.cellsOf t=n) (hn:sumN L=n) (hL: ∀p∈L,FlatT p.1 p.2∧ Tryd.prog.cellsOf p.1=p.2) (hF:FA fs 0 0 L):FlatT t n:=fun {H enc W base held fuel cs x} h=>by
 obtain ⟨xs,k,_,rfl,hl,hxl,hall⟩:=DataW.trod_struct ht h
 rw[hc] at hl
 obtain ⟨zs,h1,h2,h3⟩:=flat_fields hxl hall L 0 0 hL hF
 rw[hn] at h1 h2
 rw[List.drop_zero,List.take_of_length_le (by omega)] at h2
 exact ⟨zs,h1,h2,h3⟩
theorem flat_vrs (ρ:List RB): ∀zs:List Int,VRs ρ (zs.map (AVal.int .i64)) (zs.map (Value.int .i64))
 | []=>by simp[VRs]
 |z::zs=>by simp only[List.map_cons,VRs,VR];exact ⟨_,_,rfl,rfl,flat_vrs ρ zs⟩
noncomputable def fsOf (t:TypeId):Array Field:=match Tryd.prog.underlying t with|some (.struct fs)=>fs|_=> #[]
theorem underLBD: Tryd.prog.underlying 22=some (.slice 83):=by kernel_rfl
theorem underBD: Tryd.prog.underlying 83=some (.struct (fsOf 83)):=by kernel_rfl
theorem flatBD:FlatT 83 2:=flat_struct (L:= [(2,1),(2,1)]) underBD (by kernel_rfl) rfl (by simp only[List.mem_cons,List.not_mem_nil,or_false,or_self,forall_eq];exact ⟨flat_int under2,cells2⟩) ⟨by kernel_rfl,by kernel_rfl,trivial⟩
theorem cellsBD: Tryd.prog.cellsOf 83=2:=by kernel_rfl
end Go.Proofs.YtodhalcpnmddjaaDoor
namespace Go.Proofs.YtodhalcpnmddjaaDoor
open Go Ax Go.ChangeShapes Go.WideShapes Go.ChangeAt Go.RowKit
set_option maxRecDepth 100000
def BdW:Type:={b:Int×Int // i64 b.1∧i64 b.2}
def bdW (b:BdW):List AVal:=bdC b.1
instance:SCell 2 bdW:=⟨fun _=>rfl,fun _=>rfl⟩
def bsR (bs:List (Int×Int)) (m:AMem) (x:AVal):Prop:=SlF 2 bdC m x bs∧bs.length≤reachBytes∧ ∀b∈bs,i64 b.1∧i64 b.2
theorem bsR.mono (bs:List (Int×Int)) (m m':AMem) (x:AVal) (hm:m<+:m') (h:bsR bs m x):bsR bs m' x:=⟨h.1.mono hm,h.2⟩
theorem flat_map_val {α β γ:Type} (g:α→β) (f:β→List γ) (l:List α):(l.map g).flatMap f=l.flatMap fun x=>f (g x):=by
 induction l with
 |nil=>rfl
 |cons x l ih=>rw[List.map_cons,List.flatMap_cons,List.flatMap_cons,ih]
theorem opn_bnds:Opn 22 bsR:=fun {H enc W r b0 v d ps} hne hv hd hw=>by
 obtain ⟨fuel,hd⟩:=hd
 obtain ⟨a0,len,cap,rfl⟩:=okWide_slice underLBD hv
 obtain ⟨l,hent,hbd⟩:=enters_slF (enc:=enc) (f:=bdW) (by omega) underLBD cellsBD (of_decide_eq_true (by kernel_rfl)) (fun {fuel cs x} h=>by
  obtain ⟨zs,h1,rfl,h3⟩:=flatBD h
  obtain ⟨a,b,rfl⟩: ∃a b,zs= [a,b]:=by
   match zs,h1 with
   | [a,b],_=>exact ⟨_,_,rfl⟩
  refine ⟨⟨(a,b),h3 a (by simp),h3 b (by simp)⟩,fun ρ m hs hm=>⟨ρ,m,_,List.prefix_refl _,List.prefix_refl _,hm,hs,flat_vrs ρ [a,b],rfl⟩⟩) (fun _ _ _ _=>hne) hd
 refine ⟨l.map (·.1),fun ρ m hs hm=>?_⟩
 obtain ⟨ρ',m',xs,k1,k2,k3,k4,k5,s,rfl,k6⟩:=hent ρ m hs hm
 simp only[VRs] at k5
 obtain ⟨_,_,e,k5,rfl⟩:=k5
 simp[Value.cells] at e
 subst e
 refine ⟨ρ',m',s,k1,k2,k3,k4,k5,?_,by rw[List.length_map];exact hbd _ hw,fun b hb=>?_⟩
 ·unfold SlF at k6 ⊢
  rw[List.length_map,flat_map_val]
  exact k6
 ·obtain ⟨y,_,rfl⟩:=List.mem_map.1 hb
  exact y.2
def ssR (ss:List Int) (m:AMem) (x:AVal):Prop:=RInts m x ss∧ss.length≤reachBytes
theorem ssR.mono (ss:List Int) (m m':AMem) (x:AVal) (hm:m<+:m') (h:ssR ss m x):ssR ss m' x:=⟨Sl.mono h.1 hm,h.2⟩
def DmW:Type:={x:Dm // i64 x.l∧i64 x.u∧i64 x.s}
def dmW (x:DmW):List AVal:=dmC x.1
instance:SCell 3 dmW:=⟨fun _=>rfl,fun _=>rfl⟩
def dsR (d:Dsc) (m:AMem) (x:AVal):Prop:=DsR m x d∧d.ds.length≤reachBytes∧i64 d.b∧ ∀y∈d.ds,i64 y.l∧i64 y.u∧i64 y.s
theorem dsR.mono (d:Dsc) (m m':AMem) (x:AVal) (hm:m<+:m') (h:dsR d m x):dsR d m' x:=⟨h.1.mono hm,h.2⟩
end Go.Proofs.YtodhalcpnmddjaaDoor
namespace Go.Proofs.YtodhalcpnmddjaaDoor
open Go Ax Go.ChangeShapes Go.WideShapes Go.ChangeAt Go.RowKit
set_option maxRecDepth 100000
def litsOf:DataW Unit→Array Value
 | .agg ds=>(ds.map fun| .lit l=>l.value|_=> .bool false).toArray
 |_=> #[]
noncomputable def setCells (a:Array Value):Obj→Obj
 | .cells _ t frozen=> .cells a t frozen
 |o=>o
noncomputable def laidWorld (os:Os):World:=
 {World.holding Tryd.prog os ⟨#[],#[],[]⟩ with heap:=((((World.holding Tryd.prog os ⟨#[],#[],[]⟩).heap.modify 0 (setCells (litsOf Rows.laid_internal_strconv_uint64pow10))).modify 2 (setCells (litsOf Rows.laid_math_bits_deBruijn32tab))).modify 3 (setCells (litsOf Rows.laid_math_bits_deBruijn64tab)))}
end Go.Proofs.YtodhalcpnmddjaaDoor
namespace Go.Proofs.YtodhalcpnmddjaaDoor
open Go Ax Go.ChangeShapes Go.WideShapes Go.ChangeAt Go.RowKit
set_option maxRecDepth 100000
end Go.Proofs.YtodhalcpnmddjaaDoor
