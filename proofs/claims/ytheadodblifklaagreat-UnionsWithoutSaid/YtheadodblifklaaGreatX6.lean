/- environlaw11.UnionsWithout returns true for every table of modes and any two numbers, and leaves its arguments as they were.  Conditions: none beyond those stated. -/
import Derived.Test.YtheadodblifklaaGreatX5
import Derived.ProofKit
import Derived.SizedLaws
import Derived.SliceStrings
import Derived.Deep.Slices
import Derived.DataElems
import Derived.Test.YtheadodblifklaaGreatRows
import Derived.OpenShut
namespace Go.Proofs.YtheadodblifklaaGreat
open Go Ax
set_option maxRecDepth 100000
set_option maxHeartbeats 4000000 in
theorem k138 (s : AVal) (c : List AVal) (l : List Md) (x : Md) (m : AMem) (hs : RTab m s l) (hx : RMode m c x) (hsz : ∀ y ∈ l ++ [x], y.elems.length < 2 ^ 40 ∧ y.names.length < 2 ^ 40) (hn : l.length < 2 ^ 20) :
    ACalls Tryz.prog 138 [s, .agg c] m fun v m' => m <+: m' ∧ OwT m.length m' v (l ++ [x]) := by
  have hx0 := hx
  have hcl := hx.all
  obtain ⟨e, nm, rfl, he, hnm⟩ := hx
  refine w138 ?_
  have h1 := Sl.one he
  have h2 := Sl.one hnm
  have hw : IntKind.i64.wrap ((l.length : Int) + 1) = ((l.length + 1 : Nat) : Int) := by rw [wrap64 (by omega) (by omega)]; omega
  have hc0 : (0 : Int) ≤ l.length + 1 := by omega
  have hc1 : 80 * ((l.length : Int) + 1) ≤ 281474976710656 := by omega
  have hc2 : (l.length : Int) + 1 ≤ 9223372036854775807 := by omega
  simp [h1, h2, hs.len, hw, hc0, hc1, hc2]
  have hb0 : readB (m ++ [ABlk.own [.int .i64 x.kind, .int .i64 x.size, e, nm, .int .i64 x.dims, .bool x.flex] 49 none, ABlk.own (List.replicate (l.length + 1) [AVal.int .i64 0, AVal.int .i64 0, AVal.nilslice, AVal.nilslice, AVal.int .i64 0, AVal.bool false]).flatten 49 none]) m.length = some [.int .i64 x.kind, .int .i64 x.size, e, nm, .int .i64 x.dims, .bool x.flex] := by simp [readB, ABlk.cells]
  have hm02 : m <+: m ++ [ABlk.own [.int .i64 x.kind, .int .i64 x.size, e, nm, .int .i64 x.dims, .bool x.flex] 49 none, ABlk.own (List.replicate (l.length + 1) [AVal.int .i64 0, AVal.int .i64 0, AVal.nilslice, AVal.nilslice, AVal.int .i64 0, AVal.bool false]).flatten 49 none] := List.prefix_append _ _
  have hl02 : (m ++ [ABlk.own [.int .i64 x.kind, .int .i64 x.size, e, nm, .int .i64 x.dims, .bool x.flex] 49 none, ABlk.own (List.replicate (l.length + 1) [AVal.int .i64 0, AVal.int .i64 0, AVal.nilslice, AVal.nilslice, AVal.int .i64 0, AVal.bool false]).flatten 49 none]).length = m.length + 2 := by simp
  have hO : OwT m.length (m ++ [ABlk.own [.int .i64 x.kind, .int .i64 x.size, e, nm, .int .i64 x.dims, .bool x.flex] 49 none, ABlk.own (List.replicate (l.length + 1) [AVal.int .i64 0, AVal.int .i64 0, AVal.nilslice, AVal.nilslice, AVal.int .i64 0, AVal.bool false]).flatten 49 none]) (.slice (m.length + 1) 0 0 (l.length + 1) none) [] := by
    refine ⟨[], .inr ⟨m.length + 1, 0, l.length + 1, none, (List.replicate (l.length + 1) [AVal.int .i64 0, AVal.int .i64 0, AVal.nilslice, AVal.nilslice, AVal.int .i64 0, AVal.bool false]).flatten, none, rfl, by omega, by rw [List.getElem?_append_right (by omega)]; simp, by simp [readN], by simp, by simp, by simp [List.all_flatten], .inl rfl⟩, by simp⟩
  have hob : ∀ b, (AVal.slice (m.length + 1) 0 0 (l.length + 1) none).blk = some b → b = m.length + 1 := fun b hb => by simp [AVal.blk] at hb; omega
  generalize AVal.slice (m.length + 1) 0 0 (l.length + 1) none = out at *
  generalize m ++ [ABlk.own [.int .i64 x.kind, .int .i64 x.size, e, nm, .int .i64 x.dims, .bool x.flex] 49 none, ABlk.own (List.replicate (l.length + 1) [AVal.int .i64 0, AVal.int .i64 0, AVal.nilslice, AVal.nilslice, AVal.int .i64 0, AVal.bool false]).flatten 49 none] = m2 at *
  refine W_draw (fun i w m' => i = 1 → OwB m m2.length m' w l) (by simp [maxDst]) ?_
  have : ∀ (j : Nat) (m' : AMem), noFacts j m' := fun _ _ => trivial
  refine D_pre 0 1 [1, 2, 3, 6, 4, 5] (by simp only [List.drop_zero, List.drop_succ_cons, List.take_succ_cons, List.take_zero]; rfl) rfl rfl ‹_› ?_
  simp
  intro _ _
  refine D_C rfl trivial rfl (fun m' hm' _ => (k66 s l m m' (hm02.trans hm') hs (by omega)).mono ?_) ?_ ?_ ?_
  · rintro w m'' ⟨g1, cs, g2, g3⟩
    exact ⟨g1, fun _ => ⟨cs, g2.lo hm'.length_le, g3⟩⟩
  · obtain ⟨cs, g2, g3⟩ := hs
    have hcl2 := g2.length
    exact ⟨_, _, List.prefix_append _ _, fun _ => ⟨cs, Ow.new hcl2 (tab_all hcl2 g3), g3⟩⟩
  · rintro w m' m'' hm hk h
    exact (hk h).mono hm
  rintro w m4 hm4 hw4
  clear hw4
  refine D_R rfl trivial ⟨_, List.prefix_refl _, fun _ h => by cases h⟩ ?_
  simp [bxW hb0, readN]
  refine D_A rfl trivial ?_
  simp [fillA, setN, h1, h2]
  intro b'
  refine D_P rfl trivial ?_
  simp
  refine D_W rfl rfl fun m5 hm5 hf => ?_
  have g13 := hf 1
  have g15 := hf 3
  simp [upd] at g13 g15
  have hsc : sliceCells m5 6 (.slice b' 0 1 1 none) = some (1, [.int .i64 x.kind, .int .i64 x.size, e, nm, .int .i64 x.dims, .bool x.flex]) := by simp [sliceCells, readB, g15, ABlk.cells, readN]
  obtain ⟨t16, m6, happ, hch6, hB, hbl⟩ := g13.push hm5.length_le hx0 (by omega)
  have hm26 : m2 <+: m6 := hch6.pre hm5 fun b hb h => by have := (g13.blk_lo h).1; omega
  simp [hsc, happ]
  refine D_P rfl trivial ?_
  have htl := (hB.tab (hm02.trans hm26)).len
  simp [htl]
  refine D_end fun m7 hm7 _ => ?_
  simp
  replace hB := hB.mono hm7
  replace hm26 := hm26.trans hm7
  replace hO := hO.mono hm26
  replace htl := (hB.tab (hm02.trans hm26)).len
  clear g13 g15 hsc happ hch6 hbl hm5 hb0 hm4
  have hlen : (l ++ [x]).length = l.length + 1 := by simp
  generalize hL : l ++ [x] = L at *
  have hm27 := hm26.length_le
  obtain ⟨I, hI⟩ : ∃ I : Nat → AFrame → AMem → Prop, ∀ q a m', I q a m' ↔ (∃ (k : Nat) (o : AVal), k + q = L.length ∧ a = h138_0 o t16 (.int .i64 ((l.length : Int) + 1)) (.int .i64 k) ∧ m <+: m' ∧ Ch (fun b => b = m.length + 1) m7 m' ∧ OwT m.length m' o (L.take k) ∧ ∀ b, o.blk = some b → b = m.length + 1 ∨ m7.length ≤ b) := ⟨_, fun _ _ _ => Iff.rfl⟩
  refine W_loop I L.length ((hI _ _ _).2 ⟨0, out, by simp, by simp, hm02.trans hm26, .refl _ _, by simpa using hO, fun b hb => .inl (hob b hb)⟩) ?_
  clear hO hob
  rintro q a m8 hIn
  obtain ⟨k, o, hk, rfl, hm8, hch8, hO, hob⟩ := (hI _ _ _).1 hIn
  clear hIn
  simp
  refine bbind_dec (fun hkl => ?_) fun hkl => ?_
  · have hkl : k < L.length := by omega
    have hw := step64 (k := k) (n := L.length) hkl (by omega)
    obtain ⟨q, rfl⟩ : ∃ q', q = q' + 1 := ⟨q - 1, by omega⟩
    have hT8 := (hB.ch hch8 fun b hb e => by have := (hB.blk_lo hb).1; omega).tab hm8
    obtain ⟨bx', ox, c, h4, h5, _, _, h6⟩ := hT8.atC hkl
    simp [h4, h5]
    have hcl := h6.all
    rw [store_new _ _ c _ _ 6 hcl.1 rfl hcl.2]
    have hb7 : (m8 ++ [ABlk.own c 49 none])[m8.length]? = some (.own c 49 none) := by simp
    have hm89 : m8 <+: m8 ++ [ABlk.own c 49 none] := List.prefix_append _ _
    have hl9 : (m8 ++ [ABlk.own c 49 none]).length = m8.length + 1 := by simp
    have hsy := hsz _ (List.getElem_mem hkl)
    simp
    generalize hy : L[k] = y at *
    generalize m8 ++ [ABlk.own c 49 none] = m9 at *
    generalize hb7e : m8.length = b7 at *
    obtain ⟨e2, nm2, c0, c1, c2, c3, c4, c5, he2, hnm2, rfl⟩ := h6.get
    replace he2 := he2.mono hm89
    replace hnm2 := hnm2.mono hm89
    refine W_draw (fun i v m' => (i = 2 → OwL (AVal.int .i64) m9.length m' 3 v y.elems) ∧ (i = 5 → OwL AVal.str m9.length m' 9 v y.names)) (by simp [maxDst]) ?_
    have : ∀ (j : Nat) (m' : AMem), noFacts j m' := fun _ _ => trivial
    refine D_pre 0 2 [2, 3, 4, 5, 6, 7, 8, 9] (by simp only [List.drop_zero, List.drop_succ_cons, List.take_succ_cons, List.take_zero]; rfl) rfl rfl ‹_› ?_
    simp [bx (own_read hb7)]
    intro _ _
    refine D_C rfl trivial rfl (fun m' hm' _ => (k30 e2 y.elems m' (he2.mono hm') (by omega)).mono ?_) ?_ ?_ ?_
    · rintro w m'' ⟨g1, g2⟩
      exact ⟨g1, fun _ => g2.lo' hm'.length_le, by simp⟩
    · exact ⟨_, _, List.prefix_append _ _, fun _ => OwL.new m9 3 y.elems, by simp⟩
    · rintro w m' m'' hm hk
      exact ⟨fun h => (hk.1 h).mono hm, fun h => (hk.2 h).mono hm⟩
    rintro v2 m10 hm10 hv2
    have v2s := (Ow.sl (hv2.1 rfl)).self
    clear hv2 hm10
    refine D_P rfl trivial ?_
    simp
    refine D_R rfl trivial ⟨_, List.prefix_refl _, fun _ h => by cases h⟩ ?_
    simp [bx (own_read hb7)]
    refine D_C rfl trivial rfl (fun m' hm' _ => (k142 nm2 y.names m' (hnm2.mono hm') (by omega)).mono ?_) ?_ ?_ ?_
    · rintro w m'' ⟨g1, g2, _⟩
      exact ⟨g1, by simp, fun _ => g2.lo' hm'.length_le⟩
    · exact ⟨_, _, List.prefix_append _ _, by simp, fun _ => OwL.new m9 9 y.names⟩
    · rintro w m' m'' hm hk
      exact ⟨fun h => (hk.1 h).mono hm, fun h => (hk.2 h).mono hm⟩
    rintro v5 m10 hm10 hv5
    have v5s := (Ow.sl (hv5.2 rfl)).self
    clear hv5 hm10
    refine D_P rfl trivial ?_
    simp
    refine D_W rfl rfl fun m10 hm10 hf => ?_
    have g2 := hf 2
    have g5 := hf 5
    simp [upd] at g2 g5
    have hb10 := own_mono hb7 hm10
    obtain ⟨m11, hst, hb11, hch11⟩ := fld_store (i := 2) hb10 (by simp) v2s.2 v2s.1
    simp [hst]
    refine D_P rfl trivial ?_
    simp
    refine D_W rfl rfl fun m12 hm12 _ => ?_
    have hb12 := own_mono hb11 hm12
    obtain ⟨m13, hst13, hb13, hch13⟩ := fld_store (i := 3) hb12 (by simp) v5s.2 v5s.1
    simp [hst13]
    refine D_end fun m14 hm14 _ => ?_
    have hb14 := own_mono hb13 hm14
    simp at hb14
    have hchx : Ch (fun b => b = b7) m10 m14 := ((hch11.trans (.of_prefix hm12)).trans hch13).trans (.of_prefix hm14)
    have g2' := g2.ch hchx fun b hb e => by have := (g2.blk_lo hb).1; omega
    have g5' := g5.ch hchx fun b hb e => by have := (g5.blk_lo hb).1; omega
    have hm814 : m8 <+: m14 := hchx.pre (hm89.trans hm10) fun b hb e => by omega
    have hO14 := hO.mono hm814
    have hsc : sliceCells (m14 ++ [ABlk.own [.int .i64 y.kind, .int .i64 y.size, v2, v5, .int .i64 y.dims, .bool y.flex] 49 none]) 6 (.slice m14.length 0 1 1 none) = some (1, [.int .i64 y.kind, .int .i64 y.size, v2, v5, .int .i64 y.dims, .bool y.flex]) := by simp [sliceCells, readB, ABlk.cells, readN]
    have hm1415 : m14 <+: m14 ++ [ABlk.own [.int .i64 y.kind, .int .i64 y.size, v2, v5, .int .i64 y.dims, .bool y.flex] 49 none] := List.prefix_append _ _
    have hol : ∀ b, o.blk = some b → m.length ≤ b ∧ b < m8.length := fun b hb => hO.blk_lo hb
    simp [bxW (own_read hb14), readN, fillA, setN, v2s.1, v5s.1]
    generalize m14 ++ [ABlk.own [.int .i64 y.kind, .int .i64 y.size, v2, v5, .int .i64 y.dims, .bool y.flex] 49 none] = m15 at *
    have hm815 := hm814.trans hm1415
    have hl815 := hm815.length_le
    obtain ⟨o', m16, happ, hch16, hO16, hob16⟩ := (hO14.mono hm1415).push (c := [.int .i64 y.kind, .int .i64 y.size, v2, v5, .int .i64 y.dims, .bool y.flex]) (x := y) (by have := hm8.length_le; omega) (fun m' hc => ⟨v2, v5, rfl, ((g2'.mono hm1415).ch hc fun b hb e => by have := (g2.blk_lo hb).1; have := hol b e; omega).ints, Ow.sl ((g5'.mono hm1415).ch hc fun b hb e => by have := (g5.blk_lo hb).1; have := hol b e; omega)⟩) (by simp; omega)
    simp [hsc, happ, hw]
    refine ⟨q, by omega, (hI _ _ _).2 ⟨k + 1, o', by omega, by simp, hch16.pre (hm8.trans hm815) fun b hb e => by have := hol b e; omega, (hch8.andThen (.of_prefix (S := fun _ => False) hm815) fun b hb h => h.elim).andThen hch16 fun b hb h => ?_, ?_, fun b hb => ?_⟩⟩
    · rcases hob b h with h | h
      · exact h
      · omega
    · rw [List.take_add_one, List.getElem?_eq_getElem hkl, hy]
      exact hO16
    · rcases hob16 b hb with h | h
      · exact hob b h
      · have := hch8.len; right; omega
  · have hkl : k = L.length := by omega
    subst hkl
    rw [List.take_length] at hO
    simp
    exact ⟨hm8, hO⟩
end Go.Proofs.YtheadodblifklaaGreat

namespace Go.Proofs.YtheadodblifklaaGreat
open Go Ax
set_option maxRecDepth 100000
def slice3E (esz : Nat) (v hi mx : AVal) : Option AVal := match v with
  | .nilslice => (bdE (some hi) 0).bind fun h => (bdE (some mx) 0).bind fun m => evSlice esz .nilslice 0 h (some m)
  | .slice b o n k ex => (bdE (some hi) n).bind fun h => (bdE (some mx) 0).bind fun m => evSlice esz (.slice b o n k ex) 0 h (some m)
  | _ => none
theorem ev_slice3 (a : AFrame) (esz : Nat) (x hi mx : Arg) : POp.ev a (.slice esz x none (some hi) (some mx)) = slice3E esz (a.ev x) (a.ev hi) (a.ev mx) := by
  simp only [POp.ev, bnd_eq, slice3E]
  cases a.ev x <;> rfl
theorem RTab.slice3 {m : AMem} {s : AVal} {L : List Md} (h : RTab m s L) {n : Nat} (hn : n ≤ L.length) : ∃ s', slice3E 6 s (.int .i64 n) (.int .i64 n) = some s' ∧ RTab m s' (L.take n) := by
  obtain ⟨cs, h1, h2⟩ := h
  have hcl := h1.length
  have hmd : ∀ (i : Nat) x, (L.take n)[i]? = some x → RMode m (((cs.take (n * 6)).drop (i * 6)).take 6) x := by
    intro i x hx
    have hi : i < n := by
      have := (List.getElem?_eq_some_iff.1 hx).1
      simp at this; omega
    rw [List.getElem?_take, if_pos hi] at hx
    have := h2 i x hx
    rw [List.drop_take, List.take_take, Nat.min_eq_left (by omega)]
    exact this
  have hlt : (L.take n).length = n := by simp; omega
  rcases h1 with ⟨rfl, hl, rfl⟩ | ⟨b, o, cap, gr, rfl, ⟨hc, hg⟩, h3⟩
  · obtain rfl : n = 0 := by omega
    exact ⟨.nilslice, by simp [slice3E, bdE, evSlice], [], by simpa using Sl.nil, by simp⟩
  · refine ⟨.slice b o n n none, ?_, cs.take (n * 6), ?_, hmd⟩
    · simp [slice3E, bdE, evSlice]
      omega
    · rw [hlt]
      refine .inr ⟨b, o, n, none, rfl, ⟨Nat.le_refl _, .inl rfl⟩, ?_⟩
      by_cases h0 : n = 0
      · subst h0; exact .inl ⟨rfl, by simp⟩
      · rcases h3 with ⟨h3, _⟩ | ⟨_, bl, h4, h5⟩
        · omega
        · refine .inr ⟨h0, bl, h4, ?_⟩
          have := readN_sub h5 (i := 0) (k := n * 6) (by omega)
          simpa using this
noncomputable def findI (l : List Md) (x : Md) : Option Nat :=
  if (l.length : Int) ∈ x.elems then none
  else if checkI (l ++ [x]) ≠ 0 then none
  else if fidx (fun i => RR (l ++ [x]) i == RR (l ++ [x]) l.length) 0 (l.length + 1) = l.length then none
  else some (fidx (fun i => RR (l ++ [x]) i == RR (l ++ [x]) l.length) 0 (l.length + 1)).toNat
noncomputable def putI (l : List Md) (x : Md) : List Md × Int × Int :=
  if checkI l ≠ 0 then ([], 0, checkI l)
  else match findI l x with
    | some i => (l, i, 0)
    | none => if checkI (l ++ [x]) ≠ 0 then ([], 0, checkI (l ++ [x])) else (l ++ [x], l.length, 0)
theorem k137 (s : AVal) (c : List AVal) (l : List Md) (x : Md) (m : AMem) (hs : RTab m s l) (hx : RMode m c x) (hsz : ∀ y ∈ l ++ [x], smallN y) (h40 : ∀ y ∈ l ++ [x], y.elems.length < 2 ^ 40 ∧ y.names.length < 2 ^ 40) (hn : l.length < 13) :
    ACalls Tryz.prog 137 [s, .agg c] m fun v m' => m <+: m' ∧ v = .tuple [.int .i64 ((findI l x).getD 0 : Nat), .bool (findI l x).isSome] := by
  have hx0 := hx
  have hcl := hx.all
  obtain ⟨e, nm, rfl, he, hnm⟩ := hx
  refine w137 ?_
  have h1 := Sl.one he
  have h2 := Sl.one hnm
  simp [h1, h2, hs.len]
  have hb0 := readB_new m [.int .i64 x.kind, .int .i64 x.size, e, nm, .int .i64 x.dims, .bool x.flex] 49 none
  have hm01 : m <+: m ++ [.own [.int .i64 x.kind, .int .i64 x.size, e, nm, .int .i64 x.dims, .bool x.flex] 49 none] := List.prefix_append _ _
  generalize m ++ [.own [.int .i64 x.kind, .int .i64 x.size, e, nm, .int .i64 x.dims, .bool x.flex] 49 none] = m1 at *
  generalize m.length = b3 at *
  have hxs := hsz x (by simp)
  refine C_of (k171 e x.elems _ m1 (he.mono hm01) hxs.1) ?_
  rintro _ m2 ⟨rfl, rfl⟩
  by_cases hin : (l.length : Int) ∈ x.elems
  · simp [hin, findI]
    exact hm01
  · simp [hin, bxW hb0, readN]
    refine C_of (k138 s _ l x m2 (hs.mono hm01) (hx0.mono hm01) h40 (by omega)) ?_
    rintro v3 m3 ⟨hm3, hT⟩
    have hlL : (l ++ [x]).length = l.length + 1 := by simp
    simp
    refine C_of (k49 v3 (l ++ [x]) m3 hT.tab hsz (by omega)) ?_
    rintro _ m4 ⟨rfl, hm4⟩
    have hfind : findI l x = if checkI (l ++ [x]) ≠ 0 then none else if fidx (fun i => RR (l ++ [x]) i == RR (l ++ [x]) l.length) 0 (l.length + 1) = l.length then none else some (fidx (fun i => RR (l ++ [x]) i == RR (l ++ [x]) l.length) 0 (l.length + 1)).toNat := by
      unfold findI
      rw [if_neg hin]
    have hm04 := (hm01.trans hm3).trans hm4
    by_cases hc : checkI (l ++ [x]) = 0
    · have ok := okT_of hc
      simp [hc]
      refine C_of (k52 v3 (l ++ [x]) m4 (hT.mono hm4).tab ok.good (by omega) hsz ok.h64) ?_
      rintro v5 m5 ⟨hm5, ds, kd, hX, hD⟩
      have hXi := ints_of_nat hX
      have hdl := hD.len
      obtain ⟨b1, o1, g1, g2⟩ := hXi.at (i := l.length) (by simp; omega)
      simp [hs.len, g1, g2]
      have hnd : l.length < ds.length := by omega
      refine C_of (k98 v5 _ (ds[l.length] : Nat) m5 hXi (by simp; omega)) ?_
      rintro _ m6 ⟨rfl, rfl⟩
      have hF : fidx (fun i => (ds.map fun z : Nat => (z : Int))[i]? == some ((ds[l.length] : Nat) : Int)) 0 (ds.map fun z : Nat => (z : Int)).length = fidx (fun i => RR (l ++ [x]) i == RR (l ++ [x]) l.length) 0 (l.length + 1) := by
        rw [List.length_map, hdl, hlL]
        refine fidx_congr _ _ fun j _ hj => ?_
        have hso := hD.sameOrd.eq (a := j) (b := l.length) (by omega) (by omega)
        have e1 : ds.getD j 0 = ds[j]'(by omega) := by simp [List.getD, show j < ds.length by omega]
        have e2 : ds.getD l.length 0 = ds[l.length] := by simp [List.getD, hnd]
        rw [e1, e2] at hso
        rw [Bool.eq_iff_iff]
        simp [show j < ds.length by omega]
        rw [← hso]
        omega
      rw [hF]
      have hge : 0 ≤ fidx (fun i => RR (l ++ [x]) i == RR (l ++ [x]) l.length) 0 (l.length + 1) := (fidx_nonneg _ _ _).2 ⟨l.length, by omega, by omega, by simp⟩
      rw [if_neg (by simp [hc])] at hfind
      generalize fidx (fun i => RR (l ++ [x]) i == RR (l ++ [x]) l.length) 0 (l.length + 1) = F at *
      by_cases hFl : F = l.length
      · rw [if_pos hFl] at hfind
        subst hFl
        simp [hs.len, hfind]
        exact hm04.trans hm5
      · rw [if_neg hFl] at hfind
        simp [hs.len, hfind, beqF hFl]
        exact ⟨hm04.trans hm5, by omega⟩
    · have : findI l x = none := by rw [hfind, if_pos hc]
      simp [bneT hc, this]
      exact hm04
theorem RTab.nil0 (m : AMem) : RTab m .nilslice [] := ⟨[], Sl.nil, by simp⟩
theorem k97 (s : AVal) (c : List AVal) (l : List Md) (x : Md) (m : AMem) (hs : RTab m s l) (hx : RMode m c x) (hsz : ∀ y ∈ l ++ [x], smallN y) (h40 : ∀ y ∈ l ++ [x], y.elems.length < 2 ^ 40 ∧ y.names.length < 2 ^ 40) (hn : l.length < 13) :
    ACalls Tryz.prog 97 [s, .agg c] m fun v m' => m <+: m' ∧ ∃ t, v = .tuple [t, .int .i64 (putI l x).2.1, .int .i64 (putI l x).2.2] ∧ RTab m' t (putI l x).1 := by
  have hx0 := hx
  have hcl := hx.all
  obtain ⟨e, nm, rfl, he, hnm⟩ := hx
  refine w97 ?_
  have h1 := Sl.one he
  have h2 := Sl.one hnm
  simp [h1, h2]
  have hb0 := readB_new m [.int .i64 x.kind, .int .i64 x.size, e, nm, .int .i64 x.dims, .bool x.flex] 49 none
  have hm01 : m <+: m ++ [.own [.int .i64 x.kind, .int .i64 x.size, e, nm, .int .i64 x.dims, .bool x.flex] 49 none] := List.prefix_append _ _
  generalize m ++ [.own [.int .i64 x.kind, .int .i64 x.size, e, nm, .int .i64 x.dims, .bool x.flex] 49 none] = m1 at *
  generalize m.length = b3 at *
  have hlL : (l ++ [x]).length = l.length + 1 := by simp
  refine C_of (k49 s l m1 (hs.mono hm01) (fun y hy => hsz y (by simp [hy])) (by omega)) ?_
  rintro _ m2 ⟨rfl, hm2⟩
  have hm02 := hm01.trans hm2
  by_cases hc : checkI l = 0
  · have hp : putI l x = match findI l x with
      | some i => (l, (i : Int), 0)
      | none => if checkI (l ++ [x]) ≠ 0 then ([], 0, checkI (l ++ [x])) else (l ++ [x], (l.length : Int), 0) := by
      unfold putI
      rw [if_neg (by simp [hc])]
    simp [hc, bxW (readB_mono hm2 hb0), readN]
    refine C_of (k137 s _ l x m2 (hs.mono hm02) (hx0.mono hm02) hsz h40 hn) ?_
    rintro _ m3 ⟨hm3, rfl⟩
    have hm03 := hm02.trans hm3
    cases hf : findI l x with
    | some i =>
      rw [hf] at hp
      simp only at hp
      simp [bxW (readB_mono (hm2.trans hm3) hb0), readN]
      refine C_of (k138 s _ l x m3 (hs.mono hm03) (hx0.mono hm03) h40 (by omega)) ?_
      rintro v4 m4 ⟨hm4, hT⟩
      obtain ⟨s', g1, g2⟩ := RTab.slice3 hT.tab (n := l.length) (by omega)
      rw [List.take_left'] at g2
      · simp [hs.len, ev_slice3, g1, hp]
        exact ⟨hm03.trans hm4, g2⟩
      · rfl
    | none =>
      rw [hf] at hp
      simp only at hp
      simp [bxW (readB_mono (hm2.trans hm3) hb0), readN]
      refine C_of (k138 s _ l x m3 (hs.mono hm03) (hx0.mono hm03) h40 (by omega)) ?_
      rintro v4 m4 ⟨hm4, hT⟩
      simp
      refine C_of (k49 v4 (l ++ [x]) m4 hT.tab hsz (by omega)) ?_
      rintro _ m5 ⟨rfl, hm5⟩
      have hm05 := (hm03.trans hm4).trans hm5
      by_cases hc2 : checkI (l ++ [x]) = 0
      · rw [if_neg (by simp [hc2])] at hp
        simp [hc2, hp, hs.len]
        exact ⟨hm05, (hT.mono hm5).tab⟩
      · rw [if_pos hc2] at hp
        simp [bneT hc2, hp]
        exact ⟨hm05, RTab.nil0 _⟩
  · have hp : putI l x = ([], 0, checkI l) := by
      unfold putI
      rw [if_pos hc]
    simp [bneT hc, hp]
    exact ⟨hm02, RTab.nil0 _⟩
end Go.Proofs.YtheadodblifklaaGreat

namespace Go.Proofs.YtheadodblifklaaGreat
open Go Ax
set_option maxRecDepth 100000
theorem k55 (s ro t : AVal) (l : List Md) (rk zs : List Nat) (x b1 b2 : Nat) (m : AMem) (hs : RTab m s l) (hro : RInts m ro (rk.map fun z : Nat => (z : Int))) (ht : RInts m t (zs.map fun z : Nat => (z : Int))) (hz : ∀ z ∈ zs, z < rk.length) (hx : x < rk.length) (hn : zs.length < 2 ^ 62) (hb1 : readB m b1 = some [s, ro]) (hb2 : readB m b2 = some [t]) :
    ACalls Tryz.prog 55 [.int .i64 x, .ptr b1 0, .ptr b2 0] m fun v m' => v = .bool (zs.any fun z => rk.getD z 0 == rk.getD x 0) ∧ m <+: m' := by
  refine w55 ?_
  simp [bxW hb1, readN, bx hb2]
  refine C_of (k46 s ro t rk zs x m hs.self hro ht hz hx hn) ?_
  rintro _ m2 ⟨rfl, hm2⟩
  simp [hm2]
def unionOf (zs : List Nat) : Md := ⟨12, 0, zs.map fun z : Nat => (z : Int), [], 0, false⟩
noncomputable def ofI (l : List Md) (zs : List Nat) : List Md × Int × Int :=
  if zs.length = 1 then ((putI l (mdAt l (zs.getD 0 0))).1, fidx (fun i => RR l i == RR l (zs.getD 0 0)) 0 l.length, (putI l (mdAt l (zs.getD 0 0))).2.2)
  else putI l (unionOf zs)
set_option maxHeartbeats 4000000 in
theorem k56 (s ro t : AVal) (l : List Md) (ds zs : List Nat) (kd : Nat) (m : AMem) (hs : RTab m s l) (hro : RInts m ro (ds.map fun z : Nat => (z : Int))) (hD : DenseOf l.length (fun a b => RR l a < RR l b) ds kd) (ht : RInts m t (zs.map fun z : Nat => (z : Int))) (hz : ∀ z ∈ zs, z < l.length) (hzn : zs.length ≤ 20) (hsz : ∀ y ∈ l, smallN y) (h40 : ∀ y ∈ l, y.elems.length < 2 ^ 40 ∧ y.names.length < 2 ^ 40) (hn : l.length < 13) :
    ACalls Tryz.prog 56 [.agg [s, ro], t] m fun v m' => m <+: m' ∧ ∃ t', v = .tuple [t', .int .i64 (ofI l zs).2.1, .int .i64 (ofI l zs).2.2] ∧ RTab m' t' (ofI l zs).1 := by
  refine w56 ?_
  obtain ⟨hsl, hsc⟩ := hs.self
  obtain ⟨hr1, hr2⟩ := Sl.self hro
  have htl := ht.len
  rw [List.length_map] at htl
  simp [hsl, hsc, hr1, hr2, htl]
  have hb0 := readB_new m [s, ro] 53 none
  have hm1 : m <+: m ++ [.own [s, ro] 53 none] := List.prefix_append _ _
  generalize m ++ [.own [s, ro] 53 none] = m1 at *
  generalize m.length = b2 at *
  by_cases h1 : zs.length = 1
  · have hz0 : zs.getD 0 0 < l.length := by
      have : zs.getD 0 0 = zs[0] := by simp [List.getD, h1]
      rw [this]; exact hz _ (List.getElem_mem _)
    have ho : ofI l zs = ((putI l (mdAt l (zs.getD 0 0))).1, fidx (fun i => RR l i == RR l (zs.getD 0 0)) 0 l.length, (putI l (mdAt l (zs.getD 0 0))).2.2) := by unfold ofI; rw [if_pos h1]
    rw [ho]
    obtain ⟨bt, ot, g1, g2⟩ := ht.at (i := 0) (by simp; omega)
    have e0 : (zs.map fun z : Nat => (z : Int))[0]'(by simp; omega) = ((zs.getD 0 0 : Nat) : Int) := by simp [List.getD, h1]
    rw [e0] at g2
    generalize zs.getD 0 0 = z0 at *
    have hmd := mdAt_eq hz0
    obtain ⟨bx', ox, c, g3, g4, _, _, g5⟩ := hs.atC hz0
    rw [← hmd] at g5
    simp [h1]
    refine W_draw (fun _ _ _ => True) (by simp [maxDst]) ?_
    refine D_pre 0 9 [9, 10, 11, 12, 13, 14, 15, 16] (by simp only [List.drop_zero, List.drop_succ_cons, List.take_succ_cons, List.take_zero]; rfl) rfl rfl (fun _ _ => trivial) ?_
    have g2' := loadE_mono hm1 g2
    have g4' := loadE_mono hm1 g4
    have g10 := g1 .i64
    simp at g10
    simp [bx hb0, g10, g2', g3, g4']
    intro _ _
    refine D_X rfl rfl fun m2 hm2 _ => ?_
    simp
    have hmm : mdAt l z0 ∈ l := by rw [hmd]; exact List.getElem_mem hz0
    have hm02 := hm1.trans hm2
    refine C_of (k97 s c l (mdAt l z0) m2 (hs.mono hm02) (g5.mono hm02) (fun y hy => ?_) (fun y hy => ?_) hn) ?_
    · rcases List.mem_append.1 hy with h | h
      · exact hsz y h
      · simp at h; subst h; exact hsz _ hmm
    · rcases List.mem_append.1 hy with h | h
      · exact h40 y h
      · simp at h; subst h; exact h40 _ hmm
    rintro _ m3 ⟨hm3, t', rfl, hT⟩
    refine ⟨by simp [lateOf], ?_⟩
    refine D_pre 10 7 [] (by simp only [List.drop_zero, List.drop_succ_cons, List.take_succ_cons, List.take_zero]; rfl) rfl rfl (fun _ _ => trivial) ?_
    simp
    intro _ _
    refine D_end fun m4 hm4 _ => ?_
    have hm14 := (hm2.trans hm3).trans hm4
    have hb4 := readB_mono hm14 hb0
    simp
    refine W_draw (fun _ _ _ => True) (by simp [maxDst]) ?_
    refine D_pre 0 10 [11, 10, 12, 13, 14] (by simp only [List.drop_zero, List.drop_succ_cons, List.take_succ_cons, List.take_zero]; rfl) rfl rfl (fun _ _ => trivial) ?_
    obtain ⟨br, or_, g6, g7⟩ := ranksAt hro (x := z0) (by rw [hD.len]; exact hz0)
    have g7 := g7 m4 (hm1.trans hm14)
    have g2'' := loadE_mono hm14 g2'
    simp [bx hb4, g10, g2'', g6, g7]
    intro _ _
    refine D_P rfl trivial ?_
    simp
    refine D_X rfl rfl fun m5 hm5 _ => ?_
    simp
    have hdl := hD.len
    refine C_of (k98 ro _ (ds.getD z0 0 : Nat) m5 (hro.mono ((hm1.trans hm14).trans hm5)) (by simp; omega)) ?_
    rintro _ m6 ⟨rfl, rfl⟩
    have hF : fidx (fun i => (ds.map fun z : Nat => (z : Int))[i]? == some ((ds.getD z0 0 : Nat) : Int)) 0 (ds.map fun z : Nat => (z : Int)).length = fidx (fun i => RR l i == RR l z0) 0 l.length := by
      rw [List.length_map, hdl]
      refine fidx_congr _ _ fun j _ hj => ?_
      have hso := hD.sameOrd.eq (a := j) (b := z0) (by omega) (by omega)
      have e1 : ds.getD j 0 = ds[j]'(by omega) := by simp [List.getD, show j < ds.length by omega]
      rw [Bool.eq_iff_iff]
      simp only [List.getElem?_map, List.getElem?_eq_getElem (show j < ds.length by omega), Option.map_some, beq_iff_eq, Option.some.injEq]
      rw [← hso, e1]
      omega
    rw [hF]
    refine ⟨by simp [lateOf], ?_⟩
    refine D_pre 12 3 [] (by simp only [List.drop_zero, List.drop_succ_cons, List.take_succ_cons, List.take_zero]; rfl) rfl rfl (fun _ _ => trivial) ?_
    simp
    intro _ _
    refine D_end fun m7 hm7 _ => ?_
    simp
    exact ⟨((hm1.trans hm14).trans hm5).trans hm7, hT.mono ((hm4.trans hm5).trans hm7)⟩
  · have ho : ofI l zs = putI l (unionOf zs) := by unfold ofI; rw [if_neg h1]
    rw [ho]
    have h1' : ¬ (zs.length : Int) = 1 := by omega
    have hts := Sl.self ht
    simp [beqF h1', bx hb0, fillA, setN, hts.1, hts.2]
    have hsm : ∀ y ∈ l ++ [unionOf zs], smallN y := fun y hy => by
      rcases List.mem_append.1 hy with h | h
      · exact hsz y h
      · simp at h; subst h; exact ⟨by simp [unionOf]; omega, by simp [unionOf], by simp [unionOf]⟩
    have h40' : ∀ y ∈ l ++ [unionOf zs], y.elems.length < 2 ^ 40 ∧ y.names.length < 2 ^ 40 := fun y hy => by
      rcases List.mem_append.1 hy with h | h
      · exact h40 y h
      · simp at h; subst h; exact ⟨by simp [unionOf]; omega, by simp [unionOf]⟩
    refine C_of (k97 s _ l (unionOf zs) m1 (hs.mono hm1) ⟨t, .nilslice, rfl, ht.mono hm1, Sl.nil⟩ hsm h40' hn) ?_
    rintro _ m3 ⟨hm3, t', rfl, hT⟩
    simp
    exact ⟨hm1.trans hm3, hT⟩
end Go.Proofs.YtheadodblifklaaGreat

namespace Go.Proofs.YtheadodblifklaaGreat
open Go Ax
set_option maxRecDepth 100000
open Classical in
noncomputable def leftI (l : List Md) (u v : Nat) : List Nat := (basesOf l u).filter fun z => !decide (hasRR l v z)
noncomputable def withoutI (l : List Md) (u v : Int) : List Md × Int × Int :=
  if rightI l [u, v] ≠ 0 then ([], 0, rightI l [u, v])
  else if isU (mdAt l u.toNat) = false then ([], 0, 13)
  else if (leftI l u.toNat v.toNat).length = 0 then ([], 0, 12)
  else ofI l (leftI l u.toNat v.toNat)
set_option maxHeartbeats 4000000 in
open Classical in
theorem k24 (s : AVal) (l : List Md) (u v : Int) (m : AMem) (hs : RTab m s l) (hsz : ∀ x ∈ l, smallN x) (h40 : ∀ y ∈ l, y.elems.length < 2 ^ 40 ∧ y.names.length < 2 ^ 40) (hn : l.length < 13) :
    ACalls Tryz.prog 24 [s, .int .i64 u, .int .i64 v] m fun w m' => m <+: m' ∧ ∃ t, w = .tuple [t, .int .i64 (withoutI l u v).2.1, .int .i64 (withoutI l u v).2.2] ∧ RTab m' t (withoutI l u v).1 := by
  refine w24 ?_
  obtain ⟨hsl, hsc⟩ := hs.self
  simp [fillA, setN]
  have hA := two_ints m u v
  have hm1 : m <+: m ++ [.own [.int .i64 u, .int .i64 v] 3 none] := List.prefix_append _ _
  generalize AVal.slice m.length 0 2 2 none = t1 at *
  generalize m ++ [.own [.int .i64 u, .int .i64 v] 3 none] = m1 at *
  refine C_of (k35 s t1 l [u, v] m1 (hs.mono hm1) hA.ints hsz (fun x hx => (h40 x hx).2) (by omega) (by simp)) ?_
  rintro _ m2 ⟨hm2, ⟨hr, rfl⟩ | ⟨hr, ro, ds, k, rfl, hX, hD⟩⟩
  · simp
    rw [tabBox _ _ _ rfl rfl]
    have hm3 : m2 <+: m2 ++ [.own [.nilslice, .nilslice] 53 none] := List.prefix_append _ _
    generalize m2 ++ [.own [.nilslice, .nilslice] 53 none] = m3 at *
    have hW : withoutI l u v = ([], 0, rightI l [u, v]) := by unfold withoutI; rw [if_pos hr]
    simp [bneT hr, hW]
    exact ⟨(hm1.trans hm2).trans hm3, RTab.nil0 _⟩
  obtain ⟨hc, a, b, rfl, rfl, ha, hb⟩ := right2 hr
  have ok := okT_of hc
  have hrs := (Ow.sl hX).self
  have hso := dense_same hD
  have hW : withoutI l a b = if isU (mdAt l a) = false then ([], 0, 13) else if (leftI l a b).length = 0 then ([], 0, 12) else ofI l (leftI l a b) := by
    unfold withoutI
    rw [if_neg (by simp [hr])]
    simp only [Int.toNat_natCast]
  simp
  rw [tabBox _ _ _ hsl hrs.1]
  have hb8 := readB_new m2 [s, ro] 53 none
  have hm3 : m2 <+: m2 ++ [.own [s, ro] 53 none] := List.prefix_append _ _
  generalize m2 ++ [.own [s, ro] 53 none] = m3 at *
  generalize m2.length = b8 at *
  have hm03 := (hm1.trans hm2).trans hm3
  have hRo := (ints_of_nat hX).mono hm3
  simp [bxW hb8, readN]
  refine C_of (k41 s ro l a m3 (hs.mono hm03) hrs ha) ?_
  rintro _ m4 ⟨rfl, hm4⟩
  simp
  have hm04 := hm03.trans hm4
  cases hu : isU (mdAt l a)
  · rw [if_pos hu] at hW
    simp [hW]
    exact ⟨hm04, RTab.nil0 _⟩
  rw [if_neg (by rw [hu]; simp)] at hW
  have hb84 := readB_mono hm4 hb8
  simp [bxW hb84, readN]
  refine C_of (k44n s ro l b hb m4 (hs.mono hm04) hrs ok.good ok.len ok.h64) ?_
  rintro v5 m5 ⟨hm5, P, hP, hPn, hPm⟩
  have hps := (Ow.sl hP).self
  have hPb : IsBases l b P := ⟨hPn, hPm⟩
  have hPl := hPb.length ok.good hb
  have hPlt := hPb.lt ok.good hb
  have hany : ∀ w, w < l.length → (P.any fun z => ds.getD z 0 == ds.getD w 0) = decide (hasRR l b w) := fun w hw => any_hasRR ok.good hso hb hw hPm
  simp
  rw [store_new1 _ _ _ _ _ hps.2 hps.1]
  have hb10 := readB_new m5 [v5] 33 none
  have hm6 : m5 <+: m5 ++ [.own [v5] 33 none] := List.prefix_append _ _
  generalize m5 ++ [.own [v5] 33 none] = m6 at *
  generalize m5.length = b10 at *
  have hb86 := readB_mono (hm5.trans hm6) hb84
  have hm06 := (hm04.trans hm5).trans hm6
  have hm36 := (hm4.trans hm5).trans hm6
  have hP6 := (ints_of_nat hP).mono hm6
  simp
  refine W_draw (fun _ _ _ => True) (by simp [maxDst]) ?_
  refine D_pre 0 3 [5, 3, 4, 6, 7] (by simp only [List.drop_zero, List.drop_succ_cons, List.take_succ_cons, List.take_zero]; rfl) rfl rfl (fun _ _ => trivial) ?_
  simp [bxW hb86, readN]
  intro _ _
  refine D_P rfl trivial ?_
  simp
  refine D_X rfl rfl fun m7 hm7 _ => ?_
  simp
  have hm07 := hm06.trans hm7
  refine C_of (k44n s ro l a ha m7 (hs.mono hm07) hrs ok.good ok.len ok.h64) ?_
  rintro v8 m8 ⟨hm8, O, hO, hOn, hOm⟩
  have hb88 := readB_mono (hm7.trans hm8) hb86
  refine ⟨by simp [lateOf, ROp.ev, hb88, readN], ?_⟩
  refine D_X rfl rfl fun m9 hm9 _ => ?_
  simp
  have hm69 := (hm7.trans hm8).trans hm9
  have hm09 := hm06.trans hm69
  have hR9 := hRo.mono (hm36.trans hm69)
  have hOb : IsBases l a O := ⟨hOn, hOm⟩
  refine C_of (k43 s ro v8 l ds O m9 (hs.mono hm09) hR9 ((ints_of_nat hO).mono hm9) hOn (by have := hOb.length ok.good ha; omega) (fun z hz => by rw [hD.len]; exact hOb.lt ok.good ha z hz)) ?_
  rintro v10 m10 ⟨hm10, zs, hZ, hsb⟩
  refine ⟨by simp [lateOf], ?_⟩
  have hzs := once_eq ok.good hso ha hu hOm hsb
  have hzl : ∀ z ∈ zs, z < l.length := fun z hz => hOb.lt ok.good ha z (hsb.sub z hz)
  have hzn : zs.length ≤ l.length := nodup_le l.length zs (hsb.asc.imp fun hab => by intro e; subst e; omega) hzl
  refine D_X rfl rfl fun m11 hm11 _ => ?_
  simp
  refine C_of (k53 v10 3 m9.length m9 (Nat.le_refl _) 55 [] [.ptr b8 0, .ptr b10 0] (fun z => P.any fun y => ds.getD y 0 == ds.getD z.toNat 0) (zs.map fun z : Nat => (z : Int)) ?_ (by simp; omega) m11 (hm10.trans hm11) (natsI.2 (hZ.mono hm11))) ?_
  · intro z hz m' hm'
    obtain ⟨z, hz', rfl⟩ := List.mem_map.1 hz
    have hmt := hm69.trans hm'
    exact k55 s ro v5 l ds P z b8 b10 m' (hs.mono (hm06.trans hmt)) (hRo.mono (hm36.trans hmt)) (hP6.mono hmt) (fun y hy => by rw [hD.len]; exact hPlt y hy) (by rw [hD.len]; exact hzl z hz') (by omega) (readB_mono hmt hb86) (readB_mono hmt hb10)
  rintro v12 m12 ⟨hm12, _, hF, _⟩
  refine ⟨by simp [lateOf], ?_⟩
  have hfl : ((zs.map fun z : Nat => (z : Int)).filter fun a => !(P.any fun y => ds.getD y 0 == ds.getD a.toNat 0)) = (leftI l a b).map fun z : Nat => (z : Int) := by
    rw [List.filter_map]
    unfold leftI
    rw [← hzs]
    congr 1
    refine List.filter_congr fun z hz => ?_
    simp only [Function.comp, Int.toNat_natCast]
    rw [hany z (hzl z hz)]
  rw [hfl] at hF
  refine D_P rfl trivial ?_
  simp
  refine D_end fun m13 hm13 _ => ?_
  replace hF := hF.mono hm13
  have hll : (leftI l a b).length ≤ l.length := by
    unfold leftI
    rw [← hzs]
    exact Nat.le_trans (List.length_filter_le _ _) hzn
  have hlz : ∀ z ∈ leftI l a b, z < l.length := fun z hz => by
    unfold leftI at hz
    rw [← hzs] at hz
    exact hzl z (List.mem_filter.1 hz).1
  have hm913 := hm12.trans hm13
  have hm013 := hm09.trans hm913
  have hln := hF.len
  rw [List.length_map] at hln
  simp [hln]
  by_cases h0 : leftI l a b = []
  · rw [if_pos (by rw [h0]; rfl)] at hW
    simp [h0, hW]
    exact ⟨hm013, RTab.nil0 _⟩
  · have h0' : ¬ (leftI l a b).length = 0 := by simpa using h0
    have h0i : ¬ ((leftI l a b).length : Int) = 0 := by omega
    rw [if_neg h0'] at hW
    simp [beqF h0i, bxW (readB_mono (hm69.trans hm913) hb86), readN]
    refine C_of (k56 s ro v12 l ds (leftI l a b) k m13 (hs.mono hm013) (hRo.mono (hm36.trans (hm69.trans hm913))) hD hF.ints hlz (by omega) hsz h40 hn) ?_
    rintro _ m14 ⟨hm14, t', rfl, hT⟩
    rw [hW]
    simp
    exact ⟨hm013.trans hm14, hT⟩
end Go.Proofs.YtheadodblifklaaGreat

namespace Go.Proofs.YtheadodblifklaaGreat
open Go Ax
open Relation
set_option maxRecDepth 100000
def mdU (k : Int) (es : List Int) : Md := ⟨k, 0, es, [], 0, false⟩
def tab5 : List Md := [mdU 3 [], mdU 1 [], mdU 12 [0, 1], mdU 2 [], mdU 12 [3, 2]]
def tab6 : List Md := [mdU 3 [], mdU 1 [], mdU 12 [0, 1], mdU 2 [], mdU 12 [3, 2], mdU 12 [1, 0]]
theorem noCycle {l : List Md} (hd : ∀ (a : Nat) x, l[a]? = some x → ∀ e ∈ x.elems, 0 ≤ e ∧ e < (a : Int)) {p : Md → Bool} {a b : Nat} (h : TransGen (stepR l p) a b) : b < a := by
  have one : ∀ a b, stepR l p a b → b < a := by
    rintro a b ⟨x, h1, _, h2⟩
    have := hd a x h1 _ h2
    omega
  induction h with
  | single h => exact one _ _ h
  | tail _ h ih => have := one _ _ h; omega
theorem check_of {l : List Md} (hn : l.length ≤ 512) (h1 : ∀ x ∈ l, oneI x l.length = 0) (hv : l.any (voidsB l) = false) (hd : ∀ (a : Nat) x, l[a]? = some x → ∀ e ∈ x.elems, 0 ≤ e ∧ e < (a : Int)) (hr : ∀ x ∈ l, rowStruct x = false) : checkI l = 0 := by
  unfold checkI
  rw [if_neg (by omega), if_neg, if_neg (by rw [hv]; simp), if_neg, if_neg]
  · rintro ⟨x, _, _, e, _, hf⟩
    have : ∀ m, ¬ FlexP l m := by
      intro m h
      cases h with
      | flex h1 h2 => rw [hr _ (List.mem_of_getElem? h1)] at h2; cases h2
      | step h1 _ => obtain ⟨x, h1, h2, _⟩ := h1; rw [hr _ (List.mem_of_getElem? h1)] at h2; cases h2
    exact this _ hf
  · rintro ⟨r, _, h | h⟩
    · have := noCycle hd h; omega
    · have := noCycle hd h; omega
  · intro h
    apply h
    rw [firstI_zero]
    intro y hy
    obtain ⟨x, hx, rfl⟩ := List.mem_map.1 hy
    exact h1 x hx
theorem check5 : checkI tab5 = 0 := by
  refine check_of (by decide) (by decide) (by decide) ?_ (by decide)
  intro a x hx
  match a, hx with
  | 0, hx => simp [tab5, mdU] at hx; subst hx; simp
  | 1, hx => simp [tab5, mdU] at hx; subst hx; simp
  | 2, hx => simp [tab5, mdU] at hx; subst hx; simp
  | 3, hx => simp [tab5, mdU] at hx; subst hx; simp
  | 4, hx => simp [tab5, mdU] at hx; subst hx; simp
  | a + 5, hx => simp [tab5] at hx
theorem check6 : checkI tab6 = 0 := by
  refine check_of (by decide) (by decide) (by decide) ?_ (by decide)
  intro a x hx
  match a, hx with
  | 0, hx => simp [tab6, mdU] at hx; subst hx; simp
  | 1, hx => simp [tab6, mdU] at hx; subst hx; simp
  | 2, hx => simp [tab6, mdU] at hx; subst hx; simp
  | 3, hx => simp [tab6, mdU] at hx; subst hx; simp
  | 4, hx => simp [tab6, mdU] at hx; subst hx; simp
  | 5, hx => simp [tab6, mdU] at hx; subst hx; simp
  | a + 6, hx => simp [tab6] at hx
theorem R_kindlt {l : List Md} {a b : Nat} (ha : a < l.length) (hb : b < l.length) (h : (mdAt l a).kind < (mdAt l b).kind) : ∀ d, R l (d + 1) a < R l (d + 1) b
  | 0 => by
    rw [R_lt l 0 ha]
    unfold cmpR thenC
    simp only [R]
    have h00 : cmpI 0 0 = 0 := by decide
    rw [if_neg (by simp [h00])]
    simp only [if_true]
    unfold firstC firstL
    rw [firstNZ_cons]
    have : cmpI (mdAt l a).kind (mdAt l b).kind < 0 := cmpI_lt.2 h
    rw [if_pos (by omega)]
    exact this
  | d + 1 => R_refine l (d + 1) ha (R_kindlt ha hb h d)
theorem RR_kindlt {l : List Md} {a b : Nat} (ha : a < l.length) (hb : b < l.length) (h : (mdAt l a).kind < (mdAt l b).kind) : RR l a < RR l b := R_kindlt ha hb h _
theorem R_twin {l : List Md} {a b : Nat} (hf : ∀ y, firstC y (mdAt l a) = firstC y (mdAt l b)) (hk : ∀ r, keyOf l r a = keyOf l r b) : ∀ d, R l d a = R l d b
  | 0 => rfl
  | d + 1 => by
    simp only [R, cntC]
    congr 1
    funext j
    have : cmpR l (R l d) d j a = cmpR l (R l d) d j b := by
      unfold cmpR thenC
      simp only [R_twin hf hk d, hf, hk]
    rw [this]
theorem step5 {a b : Nat} : stepR tab5 isU a b ↔ (a = 2 ∧ (b = 0 ∨ b = 1)) ∨ (a = 4 ∧ (b = 3 ∨ b = 2)) := by
  unfold stepR
  match a with
  | 0 => simp [tab5, mdU, isU]
  | 1 => simp [tab5, mdU, isU]
  | 2 => simp [tab5, mdU, isU]; omega
  | 3 => simp [tab5, mdU, isU]
  | 4 => simp [tab5, mdU, isU]; omega
  | a + 5 => simp [tab5]
theorem step6 {a b : Nat} : stepR tab6 isU a b ↔ (a = 2 ∧ (b = 0 ∨ b = 1)) ∨ (a = 4 ∧ (b = 3 ∨ b = 2)) ∨ (a = 5 ∧ (b = 1 ∨ b = 0)) := by
  unfold stepR
  match a with
  | 0 => simp [tab6, mdU, isU]
  | 1 => simp [tab6, mdU, isU]
  | 2 => simp [tab6, mdU, isU]; omega
  | 3 => simp [tab6, mdU, isU]
  | 4 => simp [tab6, mdU, isU]; omega
  | 5 => simp [tab6, mdU, isU]; omega
  | a + 6 => simp [tab6]
theorem part5 {j : Nat} : IsPart tab5 4 j ↔ j = 0 ∨ j = 1 ∨ j = 3 := by
  have key : ∀ j, TransGen (stepR tab5 isU) 4 j → j = 0 ∨ j = 1 ∨ j = 2 ∨ j = 3 := by
    intro j h
    induction h with
    | single h => rw [step5] at h; omega
    | tail _ h ih => rw [step5] at h; omega
  have s43 : stepR tab5 isU 4 3 := by rw [step5]; omega
  have s42 : stepR tab5 isU 4 2 := by rw [step5]; omega
  have s20 : stepR tab5 isU 2 0 := by rw [step5]; omega
  have s21 : stepR tab5 isU 2 1 := by rw [step5]; omega
  unfold IsPart
  constructor
  · rintro ⟨h1, h2⟩
    rcases key j h1 with rfl | rfl | rfl | rfl
    · omega
    · omega
    · have := h2 (mdU 12 [0, 1]) rfl; simp [isU, mdU] at this
    · omega
  · rintro (rfl | rfl | rfl)
    · exact ⟨.tail (.single s42) s20, by simp [tab5, isU, mdU]⟩
    · exact ⟨.tail (.single s42) s21, by simp [tab5, isU, mdU]⟩
    · exact ⟨.single s43, by simp [tab5, isU, mdU]⟩
theorem part6 {x j : Nat} (hx : x = 2 ∨ x = 5) : IsPart tab6 x j ↔ j = 0 ∨ j = 1 := by
  have key : ∀ j, TransGen (stepR tab6 isU) x j → j = 0 ∨ j = 1 := by
    intro j h
    induction h with
    | single h => rw [step6] at h; omega
    | tail _ h ih => rw [step6] at h; omega
  have s0 : stepR tab6 isU x 0 := by rw [step6]; omega
  have s1 : stepR tab6 isU x 1 := by rw [step6]; omega
  unfold IsPart
  constructor
  · rintro ⟨h1, h2⟩
    exact key j h1
  · rintro (rfl | rfl)
    · exact ⟨.single s0, by simp [tab6, isU, mdU]⟩
    · exact ⟨.single s1, by simp [tab6, isU, mdU]⟩
theorem twin6 : RR tab6 5 = RR tab6 2 := by
  refine R_twin (fun y => ?_) (fun r => ?_) _
  · simp [mdAt, tab6, mdU, firstC, firstL, lenC]
  · unfold keyOf
    have h1 : isU (mdAt tab6 5) = true := rfl
    have h2 : isU (mdAt tab6 2) = true := rfl
    rw [if_pos h1, if_pos h2]
    congr 1
    apply List.filter_congr
    intro v _
    have : (∃ j, IsPart tab6 5 j ∧ r j = v) ↔ ∃ j, IsPart tab6 2 j ∧ r j = v := by simp only [part6 (.inl rfl), part6 (.inr rfl)]
    rw [decide_eq_decide]
    exact this
theorem bases5 : basesOf tab5 4 = [1, 3, 0] := by
  have h : BasesOk tab5 4 [1, 3, 0] := by
    refine ⟨fun _ => ⟨[0, 1, 3], fun j => by rw [part5]; simp, ?_⟩, fun h => by simp [mdAt, tab5, isU, mdU] at h⟩
    have h13 : RR tab5 1 < RR tab5 3 := RR_kindlt (by decide) (by decide) (by decide)
    have h30 : RR tab5 3 < RR tab5 0 := RR_kindlt (by decide) (by decide) (by decide)
    refine ⟨?_, by simp, ?_⟩
    · simp
      omega
    · simp
  exact h.eq.symm
theorem right5 {u v : Int} (h : (0 ≤ u ∧ u < 5) ∧ 0 ≤ v ∧ v < 5) : rightI tab5 [u, v] = 0 := by
  unfold rightI
  rw [if_neg (by rw [check5]; simp), if_neg]
  simp [outB, tab5]
  omega
theorem has5 : hasV tab5 4 0 = .tuple [.bool true, .int .i64 0] := by
  have h13 : RR tab5 1 < RR tab5 3 := RR_kindlt (by decide) (by decide) (by decide)
  have h30 : RR tab5 3 < RR tab5 0 := RR_kindlt (by decide) (by decide) (by decide)
  have h1 : (RR tab5 1 == RR tab5 0) = false := by simp; omega
  have h3 : (RR tab5 3 == RR tab5 0) = false := by simp; omega
  unfold hasV hasB
  rw [right5 (by omega)]
  simp [bases5, atI, fidx, h1, h3]
  simp [mdAt, tab5, isU, mdU]
theorem idx5 : idxV tab5 4 0 = .tuple [.int .i64 2, .int .i64 0] := by
  have h13 : RR tab5 1 < RR tab5 3 := RR_kindlt (by decide) (by decide) (by decide)
  have h30 : RR tab5 3 < RR tab5 0 := RR_kindlt (by decide) (by decide) (by decide)
  have h1 : (RR tab5 1 == RR tab5 0) = false := by simp; omega
  have h3 : (RR tab5 3 == RR tab5 0) = false := by simp; omega
  unfold idxV
  rw [right5 (by omega)]
  simp [bases5, atI, fidx, h1, h3]
  simp [mdAt, tab5, isU, mdU]
end Go.Proofs.YtheadodblifklaaGreat

namespace Go.Proofs.YtheadodblifklaaGreat
open Go Ax
set_option maxRecDepth 100000
theorem rrNe {l : List Md} {a b : Nat} (ha : a < l.length) (hb : b < l.length) (h : (mdAt l a).kind ≠ (mdAt l b).kind) : (RR l a == RR l b) = false := by
  have : RR l a ≠ RR l b := fun e => h (RR_kind ha hb e)
  simpa using this
open Classical in
theorem left5 : leftI tab5 4 3 = [1, 0] := by
  have h1 := rrNe (l := tab5) (a := 3) (b := 1) (by decide) (by decide) (by decide)
  have h0 := rrNe (l := tab5) (a := 3) (b := 0) (by decide) (by decide) (by decide)
  have hb : ∀ z, hasRR tab5 3 z ↔ RR tab5 3 = RR tab5 z := fun z => by
    unfold hasRR
    have : ∀ j, IsBase tab5 3 j ↔ j = 3 := fun j => by
      unfold IsBase
      have h : isU (mdAt tab5 3) = false := by decide
      rw [h, if_neg (by simp)]
    simp only [this]
    exact ⟨fun ⟨j, h1, h2⟩ => by rw [← h1]; exact h2, fun h => ⟨3, rfl, h⟩⟩
  unfold leftI
  rw [bases5]
  simp at h1 h0
  simp [List.filter_cons, hb, h1, h0]
theorem without5 : withoutI tab5 4 3 = (tab5, 2, 0) := by
  unfold withoutI
  rw [right5 (by omega), if_neg (by simp), if_neg (by decide)]
  have e : leftI tab5 (Int.toNat 4) (Int.toNat 3) = [1, 0] := left5
  rw [e, if_neg (by decide)]
  unfold ofI
  rw [if_neg (by decide)]
  unfold putI
  rw [check5, if_neg (by simp)]
  have hf : findI tab5 (unionOf [1, 0]) = some 2 := by
    unfold findI
    have h6 : tab5 ++ [unionOf [1, 0]] = tab6 := rfl
    have h0 := rrNe (l := tab6) (a := 0) (b := 5) (by decide) (by decide) (by decide)
    have h1 := rrNe (l := tab6) (a := 1) (b := 5) (by decide) (by decide) (by decide)
    have hl : tab5.length = 5 := rfl
    rw [h6, check6, hl, if_neg (by decide), if_neg (by simp)]
    have : fidx (fun i => RR tab6 i == RR tab6 5) 0 (5 + 1) = 2 := by
      rw [twin6] at h0 h1
      simp at h0 h1
      simp [fidx, twin6, h0, h1]
    rw [this]
    rfl
  rw [hf]
  rfl
set_option maxHeartbeats 4000000 in
theorem k10 (m : AMem) : ACalls Tryz.prog 10 [] m fun v m' => v = .bool true ∧ m <+: m' := by
  refine w10 ?_
  simp [fillA, setN]
  have hT : RTab (m ++ [ABlk.own [.int .i64 0, .int .i64 1] 3 none, ABlk.own [.int .i64 3, .int .i64 2] 3 none,
      ABlk.own [.int .i64 3, .int .i64 0, .nilslice, .nilslice, .int .i64 0, .bool false, .int .i64 1, .int .i64 0, .nilslice, .nilslice, .int .i64 0, .bool false, .int .i64 12, .int .i64 0, .slice m.length 0 2 2 none, .nilslice, .int .i64 0, .bool false, .int .i64 2, .int .i64 0, .nilslice, .nilslice, .int .i64 0, .bool false, .int .i64 12, .int .i64 0, .slice (m.length + 1) 0 2 2 none, .nilslice, .int .i64 0, .bool false] 49 none]) (.slice (m.length + 2) 0 5 5 none) tab5 := by
    refine ⟨_, .inr ⟨_, _, _, _, rfl, ⟨by decide, .inl rfl⟩, .inr ⟨by decide, _, by simp [readB, ABlk.cells, List.getElem?_append_right]; rfl, rfl⟩⟩, fun i x hx => ?_⟩
    have i1 : RInts (m ++ [ABlk.own [.int .i64 0, .int .i64 1] 3 none, ABlk.own [.int .i64 3, .int .i64 2] 3 none, ABlk.own [.int .i64 3, .int .i64 0, .nilslice, .nilslice, .int .i64 0, .bool false, .int .i64 1, .int .i64 0, .nilslice, .nilslice, .int .i64 0, .bool false, .int .i64 12, .int .i64 0, .slice m.length 0 2 2 none, .nilslice, .int .i64 0, .bool false, .int .i64 2, .int .i64 0, .nilslice, .nilslice, .int .i64 0, .bool false, .int .i64 12, .int .i64 0, .slice (m.length + 1) 0 2 2 none, .nilslice, .int .i64 0, .bool false] 49 none]) (.slice m.length 0 2 2 none) [0, 1] :=
      .inr ⟨_, _, _, _, rfl, ⟨by decide, .inl rfl⟩, .inr ⟨by decide, _, by simp [readB, ABlk.cells]; rfl, rfl⟩⟩
    have i2 : RInts (m ++ [ABlk.own [.int .i64 0, .int .i64 1] 3 none, ABlk.own [.int .i64 3, .int .i64 2] 3 none, ABlk.own [.int .i64 3, .int .i64 0, .nilslice, .nilslice, .int .i64 0, .bool false, .int .i64 1, .int .i64 0, .nilslice, .nilslice, .int .i64 0, .bool false, .int .i64 12, .int .i64 0, .slice m.length 0 2 2 none, .nilslice, .int .i64 0, .bool false, .int .i64 2, .int .i64 0, .nilslice, .nilslice, .int .i64 0, .bool false, .int .i64 12, .int .i64 0, .slice (m.length + 1) 0 2 2 none, .nilslice, .int .i64 0, .bool false] 49 none]) (.slice (m.length + 1) 0 2 2 none) [3, 2] :=
      .inr ⟨_, _, _, _, rfl, ⟨by decide, .inl rfl⟩, .inr ⟨by decide, _, by simp [readB, ABlk.cells, List.getElem?_append_right]; rfl, rfl⟩⟩
    match i, hx with
    | 0, hx => simp [tab5, mdU] at hx; subst hx; exact ⟨_, _, rfl, Sl.nil, Sl.nil⟩
    | 1, hx => simp [tab5, mdU] at hx; subst hx; exact ⟨_, _, rfl, Sl.nil, Sl.nil⟩
    | 2, hx => simp [tab5, mdU] at hx; subst hx; exact ⟨_, _, rfl, i1, Sl.nil⟩
    | 3, hx => simp [tab5, mdU] at hx; subst hx; exact ⟨_, _, rfl, Sl.nil, Sl.nil⟩
    | 4, hx => simp [tab5, mdU] at hx; subst hx; exact ⟨_, _, rfl, i2, Sl.nil⟩
    | i + 5, hx => simp [tab5] at hx
  have hm1 := List.prefix_append m [ABlk.own [.int .i64 0, .int .i64 1] 3 none, ABlk.own [.int .i64 3, .int .i64 2] 3 none,
      ABlk.own [.int .i64 3, .int .i64 0, .nilslice, .nilslice, .int .i64 0, .bool false, .int .i64 1, .int .i64 0, .nilslice, .nilslice, .int .i64 0, .bool false, .int .i64 12, .int .i64 0, .slice m.length 0 2 2 none, .nilslice, .int .i64 0, .bool false, .int .i64 2, .int .i64 0, .nilslice, .nilslice, .int .i64 0, .bool false, .int .i64 12, .int .i64 0, .slice (m.length + 1) 0 2 2 none, .nilslice, .int .i64 0, .bool false] 49 none]
  generalize m ++ [ABlk.own [.int .i64 0, .int .i64 1] 3 none, ABlk.own [.int .i64 3, .int .i64 2] 3 none,
      ABlk.own [.int .i64 3, .int .i64 0, .nilslice, .nilslice, .int .i64 0, .bool false, .int .i64 1, .int .i64 0, .nilslice, .nilslice, .int .i64 0, .bool false, .int .i64 12, .int .i64 0, .slice m.length 0 2 2 none, .nilslice, .int .i64 0, .bool false, .int .i64 2, .int .i64 0, .nilslice, .nilslice, .int .i64 0, .bool false, .int .i64 12, .int .i64 0, .slice (m.length + 1) 0 2 2 none, .nilslice, .int .i64 0, .bool false] 49 none] = m1 at *
  generalize AVal.slice (m.length + 2) 0 5 5 none = s at *
  have hsz : ∀ x ∈ tab5, smallN x := by
    intro x hx
    simp [tab5, mdU] at hx
    rcases hx with rfl | rfl | rfl | rfl | rfl <;> simp [smallN]
  have h40 : ∀ x ∈ tab5, x.elems.length < 2 ^ 40 ∧ x.names.length < 2 ^ 40 := by
    intro x hx
    simp [tab5, mdU] at hx
    rcases hx with rfl | rfl | rfl | rfl | rfl <;> simp
  have hc1 := k12 s tab5 4 0 m1 hT hsz (fun x hx => (h40 x hx).2) (by decide)
  refine C_of hc1 ?_
  rintro _ m2 ⟨rfl, hm2⟩
  rw [has5]
  simp
  have hc2 := k14 s tab5 4 0 m2 (hT.mono hm2) hsz (fun x hx => (h40 x hx).2) (by decide)
  refine C_of hc2 ?_
  rintro _ m3 ⟨rfl, hm3⟩
  rw [idx5]
  simp
  have hc3 := k24 s tab5 4 3 m3 (hT.mono (hm2.trans hm3)) hsz h40 (by decide)
  refine C_of hc3 ?_
  rintro _ m4 ⟨hm4, t, rfl, _⟩
  rw [without5]
  simp
  exact ⟨by decide, ((hm1.trans hm2).trans hm3).trans hm4⟩
end Go.Proofs.YtheadodblifklaaGreat

namespace Go.Proofs.YtheadodblifklaaGreat
open Go Ax
set_option maxRecDepth 100000
theorem agg_store {m : AMem} {b n : Nat} {z cs : List AVal} {ty : TypeId} {g : Option Nat} (h : m[b]? = some (.own z ty g)) (h1 : cs.length = n) (h2 : z.length = n) (h3 : cs.all AVal.one = true) : ∃ m', storeE m n (.ptr b 0) (.agg cs) = some (.undef, m') ∧ m'[b]? = some (.own cs ty g) ∧ Ch (fun c => c = b) m m' := by
  refine ⟨m.set b (.own cs ty g), ?_, List.getElem?_set_self (List.getElem?_eq_some_iff.1 h).1, Ch.setS _ rfl⟩
  have hs : setN z 0 cs = cs := by
    apply List.ext_getElem?
    intro i
    rw [setN_get _ _ _ _ (by omega)]
    by_cases hi : i < cs.length
    · rw [if_pos (by omega)]; simp
    · rw [if_neg (by omega), List.getElem?_eq_none (by omega), List.getElem?_eq_none (by omega)]
  simp only [storeE, AVal.cells, h1, writeB, h]
  simp [h3, hs, h1, h2]
def OwM (lo : Nat) (m : AMem) (c : List AVal) (x : Md) : Prop := ∃ e nm, c = [.int .i64 x.kind, .int .i64 x.size, e, nm, .int .i64 x.dims, .bool x.flex] ∧ OwL (AVal.int .i64) lo m 3 e x.elems ∧ OwL AVal.str lo m 9 nm x.names
theorem OwM.mode {lo : Nat} {m : AMem} {c : List AVal} {x : Md} (h : OwM lo m c x) : RMode m c x := by
  obtain ⟨e, nm, rfl, h1, h2⟩ := h
  exact ⟨e, nm, rfl, h1.ints, Ow.sl h2⟩
theorem OwM.mono {lo : Nat} {m m' : AMem} {c : List AVal} {x : Md} (h : OwM lo m c x) (hm : m <+: m') : OwM lo m' c x := by
  obtain ⟨e, nm, rfl, h1, h2⟩ := h
  exact ⟨e, nm, rfl, h1.mono hm, h2.mono hm⟩
theorem OwM.lo {lo lo' : Nat} {m : AMem} {c : List AVal} {x : Md} (h : OwM lo m c x) (hl : lo' ≤ lo) : OwM lo' m c x := by
  obtain ⟨e, nm, rfl, h1, h2⟩ := h
  exact ⟨e, nm, rfl, h1.lo' hl, h2.lo' hl⟩
theorem OwM.ch {S : Nat → Prop} {lo : Nat} {m m' : AMem} {c : List AVal} {x : Md} (h : OwM lo m c x) (hc : Ch S m m') (hs : ∀ b, S b → b < lo) : OwM lo m' c x := by
  obtain ⟨e, nm, rfl, h1, h2⟩ := h
  exact ⟨e, nm, rfl, h1.ch hc fun b hb hS => by have := (h1.blk_lo hb).1; have := hs b hS; omega, h2.ch hc fun b hb hS => by have := (h2.blk_lo hb).1; have := hs b hS; omega⟩
theorem cellsInts {m : AMem} {s : AVal} {xs : List Int} (h : RInts m s xs) : sliceCells m 1 s = some (xs.length, xs.map fun x => .int .i64 x) := Sl.cells h
theorem cellsStrs {m : AMem} {s : AVal} {xs : List ByteArray} (h : RStrs m s xs) : sliceCells m 1 s = some (xs.length, xs.map fun x => .str x) := Sl.cells h
set_option maxHeartbeats 2000000 in
theorem k141 (c : List AVal) (x : Md) (m : AMem) (hx : RMode m c x) (hsz : x.elems.length < 2 ^ 40 ∧ x.names.length < 2 ^ 40) :
    ACalls Tryz.prog 141 [.agg c] m fun v m' => m <+: m' ∧ ∃ c', v = .agg c' ∧ OwM m.length m' c' x := by
  obtain ⟨e, nm, rfl, he, hnm⟩ := hx
  refine w141 ?_
  have h1 := Sl.one he
  have h2 := Sl.one hnm
  simp [h1, h2]
  have hbA : (m ++ [ABlk.own [.int .i64 x.kind, .int .i64 x.size, e, nm, .int .i64 x.dims, .bool x.flex] 49 none, ABlk.own [.int .i64 0, .int .i64 0, .nilslice, .nilslice, .int .i64 0, .bool false] 49 none])[m.length]? = some (ABlk.own [.int .i64 x.kind, .int .i64 x.size, e, nm, .int .i64 x.dims, .bool x.flex] 49 none) := by simp
  have hbB : (m ++ [ABlk.own [.int .i64 x.kind, .int .i64 x.size, e, nm, .int .i64 x.dims, .bool x.flex] 49 none, ABlk.own [.int .i64 0, .int .i64 0, .nilslice, .nilslice, .int .i64 0, .bool false] 49 none])[m.length + 1]? = some (ABlk.own [.int .i64 0, .int .i64 0, .nilslice, .nilslice, .int .i64 0, .bool false] 49 none) := by rw [List.getElem?_append_right (by omega)]; simp
  have hm01 : m <+: m ++ [ABlk.own [.int .i64 x.kind, .int .i64 x.size, e, nm, .int .i64 x.dims, .bool x.flex] 49 none, ABlk.own [.int .i64 0, .int .i64 0, .nilslice, .nilslice, .int .i64 0, .bool false] 49 none] := List.prefix_append _ _
  have hl : (m ++ [ABlk.own [.int .i64 x.kind, .int .i64 x.size, e, nm, .int .i64 x.dims, .bool x.flex] 49 none, ABlk.own [.int .i64 0, .int .i64 0, .nilslice, .nilslice, .int .i64 0, .bool false] 49 none]).length = m.length + 2 := by simp
  generalize m ++ [ABlk.own [.int .i64 x.kind, .int .i64 x.size, e, nm, .int .i64 x.dims, .bool x.flex] 49 none, ABlk.own [.int .i64 0, .int .i64 0, .nilslice, .nilslice, .int .i64 0, .bool false] 49 none] = m1 at *
  -- the numbers
  have hN := OwL.new (f := AVal.int .i64) m1 3 []
  have hm12 : m1 <+: m1 ++ [.own ([].map (AVal.int .i64)) 3 none] := List.prefix_append _ _
  simp [fillA] at hN ⊢
  replace hm12 : m1 <+: m1 ++ [.own [] 3 none] := hm12
  have hl2 := hm12.length_le
  generalize m1 ++ [.own [] 3 none] = m2 at *
  have hr2 := bx (own_read (own_mono hbA hm12)) 2
  simp at hr2
  obtain ⟨t1, m3, happ, hch3, hO, hbl⟩ := hN.append (by omega) (by_ := 8) (by decide) x.elems (by simp; omega)
  have hm03 : m <+: m3 := hch3.pre (hm01.trans hm12) fun b hb h => by simp [AVal.blk] at h; omega
  have hbA3 := own_ch (own_mono hbA hm12) hch3 fun h => by simp [AVal.blk] at h; omega
  have hbB3 := own_ch (own_mono hbB hm12) hch3 fun h => by simp [AVal.blk] at h; omega
  have hO1 : OwL (AVal.int .i64) m1.length m3 3 t1 x.elems := by simpa using hO
  have ts := (Ow.sl hO1).self
  obtain ⟨m4, hst4, hbA4, hch4⟩ := fld_store (i := 2) hbA3 (by simp) ts.2 ts.1
  simp [hr2, cellsInts (he.mono (hm01.trans hm12)), happ, hst4]
  have hm04 : m <+: m4 := hch4.pre hm03 fun b hb h => by omega
  have hbB4 := own_ch hbB3 hch4 fun h => by omega
  have hO4 := hO1.ch hch4 fun b hb h => by have := (hO1.blk_lo hb).1; omega
  have hl34 : m3.length ≤ m4.length := hch4.len
  have hl23 : m2.length ≤ m3.length := hch3.len
  simp at hbA4
  clear hst4 happ hN hr2 hch3 hch4 hO hO1 hbA3 hbB3
  -- the texts
  have hN := OwL.new (f := AVal.str) m4 9 []
  have hm45 : m4 <+: m4 ++ [.own ([].map AVal.str) 9 none] := List.prefix_append _ _
  simp [fillA] at hN ⊢
  replace hm45 : m4 <+: m4 ++ [.own [] 9 none] := hm45
  have hl5 := hm45.length_le
  generalize m4 ++ [.own [] 9 none] = m5 at *
  have hr5 := bx (own_read (own_mono hbA4 hm45)) 3
  simp at hr5
  obtain ⟨t2, m6, happ, hch6, hO, hbl2⟩ := hN.append (by omega) (by_ := 16) (by decide) x.names (by simp; omega)
  have hm06 : m <+: m6 := hch6.pre (hm04.trans hm45) fun b hb h => by simp [AVal.blk] at h; have := hm04.length_le; omega
  have hbA6 := own_ch (own_mono hbA4 hm45) hch6 fun h => by simp [AVal.blk] at h; have := hm04.length_le; omega
  have hbB6 := own_ch (own_mono hbB4 hm45) hch6 fun h => by simp [AVal.blk] at h; omega
  have hO6 : OwL AVal.str m4.length m6 9 t2 x.names := by simpa using hO
  have hI6 := (hO4.mono hm45).ch hch6 fun b hb h => by simp [AVal.blk] at h; have := (hO4.blk_lo hb).2; omega
  have ts2 := (Ow.sl hO6).self
  obtain ⟨m7, hst7, hbA7, hch7⟩ := fld_store (i := 3) hbA6 (by simp) ts2.2 ts2.1
  simp [hr5, cellsStrs (hnm.mono (hm04.trans hm45)), happ, hst7]
  have hm07 : m <+: m7 := hch7.pre hm06 fun b hb h => by omega
  have hbB7 := own_ch hbB6 hch7 fun h => by omega
  have hO7 := hO6.ch hch7 fun b hb h => by have := (hO6.blk_lo hb).1; omega
  have hI7 := hI6.ch hch7 fun b hb h => by have := (hI6.blk_lo hb).1; omega
  simp at hbA7
  have hrA := bxW (own_read hbA7) 6
  simp [readN] at hrA
  have hall : [AVal.int .i64 x.kind, .int .i64 x.size, t1, t2, .int .i64 x.dims, .bool x.flex].all AVal.one = true := by simp [ts.1, ts2.1]
  obtain ⟨m8, hst8, hbB8, hch8⟩ := agg_store (n := 6) hbB7 (cs := [.int .i64 x.kind, .int .i64 x.size, t1, t2, .int .i64 x.dims, .bool x.flex]) rfl rfl hall
  have hrB := bxW (own_read hbB8) 6
  simp [readN] at hrB
  simp [hrA, hst8, hrB]
  exact ⟨hch8.pre hm07 fun b hb h => by omega, t1, t2, rfl, (hI7.ch hch8 fun b hb h => by have := (hI7.blk_lo hb).1; omega).lo' (by omega), (hO7.ch hch8 fun b hb h => by have := (hO7.blk_lo hb).1; omega).lo' (by omega)⟩
theorem OwT.pushM {lo : Nat} {m : AMem} {s : AVal} {l : List Md} (h : OwT lo m s l) (hlo : lo ≤ m.length) {c : List AVal} {x : Md} {q : Nat} (hx : OwM q m c x) (hq : ∀ b, s.blk = some b → b < q) (hn : l.length < 2 ^ 30) :
    ∃ s' m', appendE m 6 80 49 s 1 c = some (s', m') ∧ Ch (fun b => s.blk = some b) m m' ∧ OwT lo m' s' (l ++ [x]) ∧ (∀ b, s'.blk = some b → s.blk = some b ∨ m.length ≤ b) :=
  h.push hlo (fun _ hc => (hx.ch hc fun b hb => hq b hb).mode) hn
theorem lit6 (m : AMem) (c : List AVal) (hc : c.length = 6) (g : Option Nat) : sliceCells (m ++ [.own c 49 g]) 6 (.slice m.length 0 1 1 none) = some (1, c) := by
  simp [sliceCells, readB, ABlk.cells, readN, hc, List.take_of_length_le]
theorem lit6' {m : AMem} {b : Nat} {c : List AVal} {g : Option Nat} (h : m[b]? = some (.own c 49 g)) (hc : c.length = 6) : sliceCells m 6 (.slice b 0 1 1 none) = some (1, c) := by
  simp [sliceCells, readB, h, ABlk.cells, readN, hc, List.take_of_length_le]
set_option maxHeartbeats 2000000 in
theorem k139 (s : AVal) (l : List Md) (m : AMem) (hs : RTab m s l) (hsz : ∀ x ∈ l, x.elems.length < 2 ^ 40 ∧ x.names.length < 2 ^ 40) (hn : l.length < 2 ^ 20) :
    ACalls Tryz.prog 139 [s] m fun v m' => m <+: m' ∧ OwT m.length m' v l := by
  refine w139 ?_
  simp
  obtain ⟨I, hI⟩ : ∃ I : Nat → AFrame → AMem → Prop, ∀ q f m', I q f m' ↔ (∃ (k : Nat) (o : AVal), k + q = l.length ∧ f = h139_0 s o (.int .i64 k) ∧ m <+: m' ∧ OwT m.length m' o (l.take k)) := ⟨_, fun _ _ _ => Iff.rfl⟩
  refine W_loop I l.length ((hI _ _ _).2 ⟨0, .nilslice, by simp, by simp, List.prefix_refl _, [], .nil, by simp⟩) ?_
  rintro q f m1 hIn
  obtain ⟨k, o, hk, rfl, hm1, hO⟩ := (hI _ _ _).1 hIn
  clear hIn
  simp [(hs.mono hm1).len]
  refine bbind_dec (fun hkl => ?_) fun hkl => ?_
  · have hkl : k < l.length := by omega
    have hw := step64 (k := k) (n := l.length) hkl (by omega)
    obtain ⟨q, rfl⟩ : ∃ q', q = q' + 1 := ⟨q - 1, by omega⟩
    obtain ⟨bx', ox, c, h4, h5, _, _, h6⟩ := (hs.mono hm1).atC hkl
    simp [h4, h5]
    refine C_of (k141 c l[k] m1 h6 (hsz _ (List.getElem_mem hkl))) ?_
    rintro _ m2 ⟨hm2, c', rfl, hM⟩
    have hcl := hM.mode.all
    have hm23 : m2 <+: m2 ++ [ABlk.own c' 49 none] := List.prefix_append _ _
    have hsc := lit6 m2 c' hcl.1 none
    have hOb : ∀ b, o.blk = some b → b < m1.length := fun b hb => (hO.blk_lo hb).2
    obtain ⟨e, nm, hce, _, _⟩ := id hM
    have hfill : fillA [.int .i64 0, .int .i64 0, .nilslice, .nilslice, .int .i64 0, .bool false] [(0, 6, .agg c')] = some c' := by
      subst hce
      have h := hcl.2
      simp only [List.all_cons, List.all_nil, Bool.and_eq_true] at h
      simp [fillA, setN, h.2.2.1, h.2.2.2.1]
    simp [hfill]
    generalize m2 ++ [ABlk.own c' 49 none] = m3 at *
    have hm13 := hm2.trans hm23
    obtain ⟨o', m4, happ, hch, hO4, _⟩ := (hO.mono hm13).pushM (by have := (hm1.trans hm13).length_le; omega) (hM.mono hm23) hOb (by simp; omega)
    simp [hsc, happ, hw]
    refine ⟨q, by omega, (hI _ _ _).2 ⟨k + 1, o', by omega, by simp, hch.pre (hm1.trans hm13) fun b hb h => by have := (hO.blk_lo h).1; omega, ?_⟩⟩
    rw [List.take_add_one, List.getElem?_eq_getElem hkl]
    exact hO4
  · have hkl : k = l.length := by omega
    subst hkl
    rw [List.take_length] at hO
    simp
    exact ⟨hm1, hO⟩
end Go.Proofs.YtheadodblifklaaGreat

namespace Go.Proofs.YtheadodblifklaaGreat.Ax
open Go Go.ChangeShapes Go.WideShapes Go.ChangeAt Go.RowKit
set_option maxRecDepth 100000
def RoMem (m : AMem) : Prop := ∀ (b : Nat) blk, m[b]? = some blk → blk.isOwn = false
theorem Sim.nil (w : World) : Sim [] [] w := ⟨rfl, by simp, by simp, by simp⟩
theorem RoMem.nil : RoMem [] := by intro b blk h; simp at h
theorem Sim.ro {ρ : List RB} {m : AMem} {w : World} (h : Sim ρ m w) (hm : RoMem m) {a : RB} (cs : List AVal) (ha : a.block < w.heap.size) (hc : ∀ (i : Nat) x, cs[i]? = some x → ∃ v, w.cell? (at_ a i) = some v ∧ VR ρ x v) :
    Sim (ρ ++ [a]) (m ++ [.ro cs]) w ∧ RoMem (m ++ [.ro cs]) := by
  have hp : ρ <+: ρ ++ [a] := List.prefix_append _ _
  have hr : RoMem (m ++ [.ro cs]) := by
    intro b blk hb
    rcases Nat.lt_or_ge b m.length with hlt | hge
    · rw [List.getElem?_append_left hlt] at hb; exact hm b blk hb
    · rw [List.getElem?_append_right hge] at hb
      cases hk : b - m.length with
      | zero => rw [hk] at hb; simp at hb; subst hb; rfl
      | succ k => rw [hk] at hb; simp at hb
  refine ⟨⟨by simp [h.len], ?_, ?_, ?_⟩, hr⟩
  · intro b blk a' hb ha'
    rcases Nat.lt_or_ge b m.length with hlt | hge
    · rw [List.getElem?_append_left hlt] at hb
      rw [List.getElem?_append_left (by rw [h.len]; exact hlt)] at ha'
      exact (h.ok b blk a' hb ha').mono hp
    · rw [List.getElem?_append_right hge] at hb
      rw [List.getElem?_append_right (by rw [h.len]; exact hge), h.len] at ha'
      cases hk : b - m.length with
      | zero =>
        rw [hk] at hb ha'
        simp only [List.getElem?_cons_zero, Option.some.injEq] at hb ha'
        subst hb ha'
        intro i x hx
        obtain ⟨v, h1, h2⟩ := hc i x hx
        exact ⟨v, h1, VR.mono hp x v h2⟩
      | succ k => rw [hk] at hb; simp at hb
  · intro b b' blk blk' a1 a2 _ hb _ _ _ ho
    rw [hr b blk hb] at ho
    simp at ho
  · intro b a' ha'
    rcases Nat.lt_or_ge b ρ.length with hlt | hge
    · rw [List.getElem?_append_left hlt] at ha'; exact h.bound b a' ha'
    · rw [List.getElem?_append_right hge] at ha'
      cases hk : b - ρ.length with
      | zero => rw [hk] at ha'; simp at ha'; subst ha'; exact ha
      | succ k => rw [hk] at ha'; simp at ha'
theorem slice_in {ρ : List RB} {m : AMem} {w : World} (h : Sim ρ m w) (hm : RoMem m) (hne : 0 < w.heap.size) {a : Addr} {len cap esz : Nat} (hlc : len ≤ cap)
    (hcell : cap ≠ 0 → ∃ v, w.cell? a = some v) {xs : List AVal} (hx : xs.length = len * esz) (hc : ∀ (i : Nat) x, xs[i]? = some x → ∃ v, w.cell? (a.add i) = some v ∧ VR ρ x v) :
    ∃ ρ' m' s, ρ <+: ρ' ∧ m <+: m' ∧ RoMem m' ∧ Sim ρ' m' w ∧ VR ρ' s (.slice (some a) len cap) ∧ Sl m' esz s len xs := by
  by_cases hcap : cap = 0
  · subst hcap
    obtain rfl : len = 0 := by omega
    obtain rfl : xs = [] := List.eq_nil_of_length_eq_zero (by simpa using hx)
    obtain ⟨h1, h2⟩ := h.ro hm (a := ⟨0, 0, 0, 0⟩) [] hne (by simp)
    refine ⟨_, _, .slice m.length 0 0 0 none, List.prefix_append _ _, List.prefix_append _ _, h2, h1, ?_, .inr ⟨_, _, _, _, rfl, ⟨by omega, .inl rfl⟩, .inl ⟨rfl, rfl⟩⟩⟩
    simp only [VR]
    exact ⟨⟨0, 0, 0, 0⟩, a, 0, rfl, by rw [← h.len]; simp, by simp, by omega, by simp, by omega, by simp⟩
  · obtain ⟨v0, hv0⟩ := hcell hcap
    have hs := World.cell?_spot hv0
    obtain ⟨b, off, sp⟩ := a
    simp only at hs
    subst hs
    have hb : b < w.heap.size := by
      rcases Nat.lt_or_ge b w.heap.size with hlt | hge
      · exact hlt
      · unfold World.cell? at hv0
        simp only [Array.getElem?_eq_none hge] at hv0
        simp at hv0
    obtain ⟨h1, h2⟩ := h.ro hm (a := ⟨b, off, 0, 0⟩) xs hb fun i x hx => by
      obtain ⟨v, h1, h2⟩ := hc i x hx
      rw [Go.WideShapes.add_plain] at h1
      exact ⟨v, h1, h2⟩
    refine ⟨_, _, .slice m.length 0 len cap none, List.prefix_append _ _, List.prefix_append _ _, h2, h1, ?_, .inr ⟨_, _, _, _, rfl, ⟨hlc, .inl rfl⟩, ?_⟩⟩
    · simp only [VR]
      exact ⟨⟨b, off, 0, 0⟩, _, cap, rfl, by rw [← h.len]; simp, by simp, hlc, by simp, by omega, by simp⟩
    · by_cases hl : len = 0
      · subst hl
        exact .inl ⟨rfl, List.eq_nil_of_length_eq_zero (by simpa using hx)⟩
      · refine .inr ⟨hl, xs, by simp [readB, ABlk.cells], ?_⟩
        have h0 : 0 + len * esz ≤ xs.length := by omega
        unfold readN
        rw [if_pos h0, List.drop_zero, List.take_of_length_le (by omega)]
def Enters (w : World) (vs : List Value) (Rep : AMem → List AVal → Prop) : Prop :=
  ∀ ρ m, Sim ρ m w → RoMem m → ∃ ρ' m' xs, ρ <+: ρ' ∧ m <+: m' ∧ RoMem m' ∧ Sim ρ' m' w ∧ VRs ρ' xs vs ∧ Rep m' xs
variable {H : Type} {enc : TypeId × Value → H} {P : Program} {w : World} {base : Nat} {spare : Nat → Bool} {held : Bool}
theorem enters_ints (hne : 0 < w.heap.size) {t e : TypeId} {fuel : Nat} {cs : List Value} {x : DataW H × List MemPlace} (ht : P.underlying t = some (.slice e)) (he : P.underlying e = some (.int .i64)) (hc : P.cellsOf e = 1)
    (h : DataW.trod enc P w base (fun _ => true) held fuel t cs = some x) :
    ∃ zs : List Int, Enters w cs (fun m xs => ∃ s, xs = [s] ∧ RInts m s zs) ∧ (P.bytesOf e = 8 → ∀ B, (x.1.weights P t).all (· ≤ B) = true → zs.length ≤ B) := by
  rcases open_ints ht he hc h with ⟨rfl, rfl⟩ | ⟨a, len, cap, zs, rfl, _, hlc, _, hz, rfl, hcell, _⟩
  · exact ⟨[], fun ρ m hs hm => ⟨ρ, m, [.nilslice], List.prefix_refl _, List.prefix_refl _, hm, hs, by simp [VRs, VR], .nilslice, rfl, Sl.nil⟩, by simp⟩
  · simp only [if_true] at hz
    refine ⟨zs.take len, fun ρ m hs hm => ?_, ?_⟩
    · obtain ⟨ρ', m', s, h1, h2, h3, h4, h5, h6⟩ := slice_in (esz := 1) hs hm hne hlc (fun hcap => ⟨_, by have := hcell 0 (by omega); simpa [Addr.add] using this⟩) (xs := (zs.take len).map fun x => .int .i64 x) (by simp; omega)
        (fun i x hx => by
          simp only [List.getElem?_map, Option.map_eq_some_iff] at hx
          obtain ⟨z, hz', rfl⟩ := hx
          have hi : i < zs.length := by
            have := (List.getElem?_eq_some_iff.1 hz').1
            simp at this; omega
          have hg : zs[i]? = some z := by
            rw [List.getElem?_take] at hz'
            split at hz'
            · exact hz'
            · simp at hz'
          exact ⟨_, hcell i hi, by simp [VR, List.getD, hg]⟩)
      refine ⟨ρ', m', [s], h1, h2, h3, h4, by simp only [VRs]; exact ⟨_, _, rfl, h5, rfl⟩, s, rfl, ?_⟩
      have hl : (zs.take len).length = len := by simp; omega
      unfold RInts
      rw [hl]
      exact h6
    · intro hb B hB
      simp only [DataW.weights, ht, List.all_cons, Bool.and_eq_true, decide_eq_true_eq] at hB
      have := hB.1
      rw [hb] at this
      simp [lits] at this ⊢
      omega
theorem enters_strs (hne : 0 < w.heap.size) {t e : TypeId} {fuel : Nat} {cs : List Value} {x : DataW H × List MemPlace} (ht : P.underlying t = some (.slice e)) (he : P.underlying e = some .string) (hc : P.cellsOf e = 1)
    (h : DataW.trod enc P w base (fun _ => true) held fuel t cs = some x) :
    ∃ zs : List ByteArray, Enters w cs (fun m xs => ∃ s, xs = [s] ∧ RStrs m s zs) ∧ (P.bytesOf e = 16 → ∀ B, (x.1.weights P t).all (· ≤ B) = true → zs.length ≤ B ∧ ∀ z ∈ zs, z.size ≤ B) := by
  rcases open_strings ht he hc h with ⟨rfl, rfl⟩ | ⟨a, len, cap, zs, rfl, _, hlc, _, hz, rfl, hcell, _⟩
  · exact ⟨[], fun ρ m hs hm => ⟨ρ, m, [.nilslice], List.prefix_refl _, List.prefix_refl _, hm, hs, by simp [VRs, VR], .nilslice, rfl, Sl.nil⟩, by simp⟩
  · simp only [if_true] at hz
    refine ⟨zs.take len, fun ρ m hs hm => ?_, ?_⟩
    · obtain ⟨ρ', m', s, h1, h2, h3, h4, h5, h6⟩ := slice_in (esz := 1) hs hm hne hlc (fun hcap => ⟨_, by have := hcell 0 (by omega); simpa [Addr.add] using this⟩) (xs := (zs.take len).map fun x => .str x) (by simp; omega)
        (fun i x hx => by
          simp only [List.getElem?_map, Option.map_eq_some_iff] at hx
          obtain ⟨z, hz', rfl⟩ := hx
          have hi : i < zs.length := by
            have := (List.getElem?_eq_some_iff.1 hz').1
            simp at this; omega
          have hg : zs[i]? = some z := by
            rw [List.getElem?_take] at hz'
            split at hz'
            · exact hz'
            · simp at hz'
          exact ⟨_, hcell i hi, by simp [VR, List.getD, hg]⟩)
      refine ⟨ρ', m', [s], h1, h2, h3, h4, by simp only [VRs]; exact ⟨_, _, rfl, h5, rfl⟩, s, rfl, ?_⟩
      have hl : (zs.take len).length = len := by simp; omega
      unfold RStrs
      rw [hl]
      exact h6
    · intro hb B hB
      simp only [DataW.weights, ht, List.all_cons, Bool.and_eq_true, decide_eq_true_eq, List.all_append] at hB
      obtain ⟨h1, h2, _⟩ := hB
      rw [hb] at h1
      refine ⟨by simp [strs] at h1 ⊢; omega, fun z hz' => ?_⟩
      have key : ∀ l : List ByteArray, (DataW.weightsAll (H := H) P e (strs l)).all (· ≤ B) = true → ∀ z ∈ l, z.size ≤ B := by
        intro l
        induction l with
        | nil => simp
        | cons y ys ih =>
          intro hl z hz
          simp only [strs, List.map_cons, DataW.weightsAll, DataW.weights, List.cons_append, List.nil_append, List.all_cons, Bool.and_eq_true, decide_eq_true_eq] at hl
          rcases List.mem_cons.1 hz with rfl | hz
          · have := hl.1; simpa using this
          · exact ih (by simpa [strs] using hl.2) z hz
      exact key _ h2 z hz'
structure ModeT (P : Program) where
  tT : TypeId
  tM : TypeId
  tI : TypeId
  eI : TypeId
  tS : TypeId
  eS : TypeId
  k0 : TypeId
  k1 : TypeId
  k4 : TypeId
  k5 : TypeId
  fs : Array Field
  hT : P.underlying tT = some (.slice tM)
  hM : P.underlying tM = some (.struct fs)
  hI : P.underlying tI = some (.slice eI)
  hi : P.underlying eI = some (.int .i64)
  hS : P.underlying tS = some (.slice eS)
  hs : P.underlying eS = some .string
  h0 : P.underlying k0 = some (.int .i64)
  h1 : P.underlying k1 = some (.int .i64)
  h4 : P.underlying k4 = some (.int .i64)
  h5 : P.underlying k5 = some .bool
  cM : P.cellsOf tM = 6
  ci : P.cellsOf eI = 1
  cs : P.cellsOf eS = 1
  c0 : P.cellsOf k0 = 1
  c1 : P.cellsOf k1 = 1
  cI : P.cellsOf tI = 1
  cS : P.cellsOf tS = 1
  c4 : P.cellsOf k4 = 1
  c5 : P.cellsOf k5 = 1
  bi : P.bytesOf eI = 8
  bs : P.bytesOf eS = 16
  bM : 1 ≤ P.bytesOf tM
  sz : fs.size = 6
  f0 : (fs[0]?).map (fun f => (f.type, f.offset)) = some (k0, 0)
  f1 : (fs[1]?).map (fun f => (f.type, f.offset)) = some (k1, 1)
  f2 : (fs[2]?).map (fun f => (f.type, f.offset)) = some (tI, 2)
  f3 : (fs[3]?).map (fun f => (f.type, f.offset)) = some (tS, 3)
  f4 : (fs[4]?).map (fun f => (f.type, f.offset)) = some (k4, 4)
  f5 : (fs[5]?).map (fun f => (f.type, f.offset)) = some (k5, 5)
structure MdB (B : Nat) (x : Md) : Prop where
  elems : x.elems.length ≤ B
  names : x.names.length ≤ B
  each : ∀ z ∈ x.names, z.size ≤ B
theorem field_of {fs : Array Field} {i : Nat} {t : TypeId} {o : Nat} (h : (fs[i]?).map (fun f => (f.type, f.offset)) = some (t, o)) : ∃ f, fs[i]? = some f ∧ f.type = t ∧ f.offset = o := by
  cases hf : fs[i]? with
  | none => rw [hf] at h; simp at h
  | some f => rw [hf] at h; simp at h; exact ⟨f, rfl, h.1, h.2⟩
theorem weights_parts {e : TypeId} {fs : Array Field} (ht : P.underlying e = some (.struct fs)) {xs : List (DataW H × List MemPlace)} {i : Nat} {f : Field} {y : DataW H × List MemPlace} (hf : fs[i]? = some f) (hy : xs[i]? = some y) {B : Nat}
    (h : ((DataW.agg (xs.map (·.1))).weights P e).all (· ≤ B) = true) : (y.1.weights P f.type).all (· ≤ B) = true := by
  simp only [DataW.weights, ht] at h
  rw [List.all_eq_true] at h ⊢
  intro n hn
  exact h n (DataW.weights_mem_each (j := i) (t := f.type) (d := y.1) (by simp [hf]) (by simp [hy]) n hn)
theorem enters_mode (hne : 0 < w.heap.size) (T : ModeT P) {fuel : Nat} {cs : List Value} {x : DataW H × List MemPlace} (h : DataW.trod enc P w base (fun _ => true) held fuel T.tM cs = some x) :
    ∃ md : Md, Enters w cs (fun m xs => RMode m xs md) ∧ (∀ B, (x.1.weights P T.tM).all (· ≤ B) = true → MdB B md) := by
  obtain ⟨xs, n, _, rfl, hl, hxl, hall⟩ := DataW.trod_struct T.hM h
  rw [T.cM] at hl
  rw [T.sz] at hxl
  obtain ⟨c0, c1, c2, c3, c4, c5, rfl⟩ : ∃ c0 c1 c2 c3 c4 c5, cs = [c0, c1, c2, c3, c4, c5] := by
    match cs, hl with
    | [c0, c1, c2, c3, c4, c5], _ => exact ⟨_, _, _, _, _, _, rfl⟩
  obtain ⟨x0, x1, x2, x3, x4, x5, rfl⟩ : ∃ c0 c1 c2 c3 c4 c5, xs = [c0, c1, c2, c3, c4, c5] := by
    match xs, hxl with
    | [c0, c1, c2, c3, c4, c5], _ => exact ⟨_, _, _, _, _, _, rfl⟩
  obtain ⟨g0, a0, t0, o0⟩ := field_of T.f0
  obtain ⟨g1, a1, t1, o1⟩ := field_of T.f1
  obtain ⟨g2, a2, t2, o2⟩ := field_of T.f2
  obtain ⟨g3, a3, t3, o3⟩ := field_of T.f3
  obtain ⟨g4, a4, t4, o4⟩ := field_of T.f4
  obtain ⟨g5, a5, t5, o5⟩ := field_of T.f5
  have e0 := hall 0 g0 a0
  have e1 := hall 1 g1 a1
  have e2 := hall 2 g2 a2
  have e3 := hall 3 g3 a3
  have e4 := hall 4 g4 a4
  have e5 := hall 5 g5 a5
  rw [t0, o0, T.c0] at e0
  rw [t1, o1, T.c1] at e1
  rw [t2, o2, T.cI] at e2
  rw [t3, o3, T.cS] at e3
  rw [t4, o4, T.c4] at e4
  rw [t5, o5, T.c5] at e5
  simp only [List.drop_zero, List.drop_succ_cons, List.take_succ_cons, List.take_zero, List.getElem?_cons_zero, List.getElem?_cons_succ] at e0 e1 e2 e3 e4 e5
  obtain ⟨n0, q0, rfl, _⟩ := DataW.trod_int T.h0 e0
  obtain ⟨n1, q1, rfl, _⟩ := DataW.trod_int T.h1 e1
  obtain ⟨n4, q4, rfl, _⟩ := DataW.trod_int T.h4 e4
  obtain ⟨n5, q5, rfl⟩ := DataW.trod_bool T.h5 e5
  simp only [List.cons.injEq, and_true] at q0 q1 q4 q5
  subst q0 q1 q4 q5
  obtain ⟨el, hel, hel'⟩ := enters_ints hne T.hI T.hi T.ci e2
  obtain ⟨nm, hnm, hnm'⟩ := enters_strs hne T.hS T.hs T.cs e3
  refine ⟨⟨n0, n1, el, nm, n4, n5⟩, fun ρ m hs hm => ?_, fun B hB => ?_⟩
  · obtain ⟨ρ1, m1, ys, h1, h2, h3, h4, h5, s, rfl, h6⟩ := hel ρ m hs hm
    obtain ⟨ρ2, m2, ys, k1, k2, k3, k4, k5, s', rfl, k6⟩ := hnm ρ1 m1 h4 h3
    simp only [VRs] at h5 k5
    obtain ⟨_, _, hh, h5, rfl⟩ := h5
    obtain ⟨_, _, hk, k5, rfl⟩ := k5
    simp only [List.cons.injEq, and_true] at hh hk
    subst hh hk
    refine ⟨ρ2, m2, [.int .i64 n0, .int .i64 n1, s, s', .int .i64 n4, .bool n5], h1.trans k1, h2.trans k2, k3, k4, ?_, s, s', rfl, h6.mono k2, k6⟩
    simp only [VRs, VR]
    exact ⟨_, _, rfl, rfl, _, _, rfl, rfl, _, _, rfl, VR.mono k1 _ _ h5, _, _, rfl, k5, _, _, rfl, rfl, _, _, rfl, rfl, rfl⟩
  · have w2 := weights_parts (i := 2) T.hM a2 (y := x2) (by simp) hB
    have w3 := weights_parts (i := 3) T.hM a3 (y := x3) (by simp) hB
    rw [t2] at w2
    rw [t3] at w3
    obtain ⟨p1, p2⟩ := hnm' T.bs B w3
    exact ⟨hel' T.bi B w2, p1, p2⟩
theorem weightsAll_mem {e : TypeId} {B : Nat} : ∀ {l : List (DataW H)}, (DataW.weightsAll P e l).all (· ≤ B) = true → ∀ d ∈ l, (d.weights P e).all (· ≤ B) = true
  | [], _, d, hd => by simp at hd
  | y :: ys, h, d, hd => by
    simp only [DataW.weightsAll, List.all_append, Bool.and_eq_true] at h
    rcases List.mem_cons.1 hd with rfl | hd
    · exact h.1
    · exact weightsAll_mem h.2 d hd
theorem enters_tab (T : ModeT P) {fuel : Nat} {cs : List Value} (hne : ∀ a len cap, cs = [.slice (some a) len cap] → 0 < w.heap.size) {x : DataW H × List MemPlace} (h : DataW.trod enc P w base (fun _ => true) held fuel T.tT cs = some x) :
    ∃ l : List Md, Enters w cs (fun m xs => ∃ s, xs = [s] ∧ RTab m s l) ∧ (∀ B, (x.1.weights P T.tT).all (· ≤ B) = true → l.length ≤ B ∧ ∀ md ∈ l, MdB B md) := by
  rcases Go.Deep.open_slice T.hT h with ⟨rfl, rfl⟩ | ⟨a, len, cap, mm, n, D, Pl, rfl, _, hlc, _, hmm, rfl, hel⟩
  · exact ⟨[], fun ρ m hs hm => ⟨ρ, m, [.nilslice], List.prefix_refl _, List.prefix_refl _, hm, hs, by simp [VRs, VR], .nilslice, rfl, [], Sl.nil, by simp⟩, by simp⟩
  · replace hne := hne _ _ _ rfl
    simp only [if_true] at hmm
    subst hmm
    rw [T.cM] at hel
    have hmd : ∀ i, i < len → ∃ (cs' : List Value) (md : Md), w.cells? base (a.add (i * 6)) 6 = some cs' ∧ Enters w cs' (fun m xs => RMode m xs md) ∧ (∀ B, ((D i).weights P T.tM).all (· ≤ B) = true → MdB B md) := by
      intro i hi
      obtain ⟨cs', h1, h2⟩ := hel i (by omega)
      obtain ⟨md, h3, h4⟩ := enters_mode hne T h2
      exact ⟨cs', md, h1, h3, h4⟩
    have hl : ∃ l : List Md, l.length = len ∧ ∀ (i : Nat) md, l[i]? = some md → ∃ (cs' : List Value), w.cells? base (a.add (i * 6)) 6 = some cs' ∧ Enters w cs' (fun m xs => RMode m xs md) ∧ (∀ B, ((D i).weights P T.tM).all (· ≤ B) = true → MdB B md) := by
      have : ∀ k, k ≤ len → ∃ l : List Md, l.length = k ∧ ∀ (i : Nat) md, l[i]? = some md → ∃ (cs' : List Value), w.cells? base (a.add (i * 6)) 6 = some cs' ∧ Enters w cs' (fun m xs => RMode m xs md) ∧ (∀ B, ((D i).weights P T.tM).all (· ≤ B) = true → MdB B md) := by
        intro k
        induction k with
        | zero => exact fun _ => ⟨[], rfl, by simp⟩
        | succ k ih =>
          intro hk
          obtain ⟨l, h1, h2⟩ := ih (by omega)
          obtain ⟨cs', md, h3, h4⟩ := hmd k (by omega)
          refine ⟨l ++ [md], by simp [h1], fun i md' hi => ?_⟩
          rcases Nat.lt_or_ge i l.length with hlt | hge
          · rw [List.getElem?_append_left hlt] at hi; exact h2 i md' hi
          · rw [List.getElem?_append_right hge] at hi
            cases hj : i - l.length with
            | zero =>
              rw [hj] at hi
              simp only [List.getElem?_cons_zero, Option.some.injEq] at hi
              subst hi
              obtain rfl : i = k := by omega
              exact ⟨cs', h3, h4⟩
            | succ j => rw [hj] at hi; simp at hi
      exact this len (Nat.le_refl _)
    obtain ⟨l, hlen, hl⟩ := hl
    refine ⟨l, fun ρ m hs hm => ?_, fun B hB => ?_⟩
    · have key : ∀ k, k ≤ len → ∃ (ρ' : List RB) (m' : AMem) (xs : List AVal), ρ <+: ρ' ∧ m <+: m' ∧ RoMem m' ∧ Sim ρ' m' w ∧ xs.length = k * 6 ∧ (∀ (i : Nat) x, xs[i]? = some x → ∃ v, w.cell? (a.add i) = some v ∧ VR ρ' x v) ∧
          ∀ (i : Nat) md, i < k → l[i]? = some md → RMode m' ((xs.drop (i * 6)).take 6) md := by
        intro k
        induction k with
        | zero => exact fun _ => ⟨ρ, m, [], List.prefix_refl _, List.prefix_refl _, hm, hs, rfl, by simp, by omega⟩
        | succ k ih =>
          intro hk
          obtain ⟨ρ1, m1, xs, h1, h2, h3, h4, h5, h6, h7⟩ := ih (by omega)
          obtain ⟨md, hmdk⟩ : ∃ md, l[k]? = some md := ⟨l[k], List.getElem?_eq_getElem (by omega)⟩
          obtain ⟨cs', c1, c2, _⟩ := hl k md hmdk
          obtain ⟨ρ2, m2, ys, g1, g2, g3, g4, g5, g6⟩ := c2 ρ1 m1 h4 h3
          obtain ⟨_, c3, c4⟩ := World.cells?_some c1
          have hys : ys.length = 6 := by rw [← g5.length]; exact c3
          refine ⟨ρ2, m2, xs ++ ys, h1.trans g1, h2.trans g2, g3, g4, by simp [h5, hys]; omega, fun i x hx => ?_, fun i md' hi hmd' => ?_⟩
          · rcases Nat.lt_or_ge i xs.length with hlt | hge
            · rw [List.getElem?_append_left hlt] at hx
              obtain ⟨v, hv, hr⟩ := h6 i x hx
              exact ⟨v, hv, VR.mono g1 x v hr⟩
            · rw [List.getElem?_append_right hge] at hx
              have hj : i - xs.length < 6 := by rw [← hys]; exact (List.getElem?_eq_some_iff.1 hx).1
              obtain ⟨v, hv, hr⟩ := g5.get _ x hx
              refine ⟨v, ?_, hr⟩
              have := c4 (i - xs.length) hj
              rw [Addr.add_add, hv] at this
              rw [← this]
              congr 2
              omega
          · rcases Nat.lt_or_ge i k with hlt | hge
            · have := (h7 i md' hlt hmd').mono g2
              rw [List.drop_append_of_le_length (by omega), List.take_append_of_le_length (by simp; omega)]
              exact this
            · obtain rfl : i = k := by omega
              rw [hmdk] at hmd'
              simp only [Option.some.injEq] at hmd'
              subst hmd'
              rw [List.drop_append, h5, Nat.sub_self, List.drop_eq_nil_of_le (by omega)]
              simp only [List.nil_append, List.drop_zero]
              rw [List.take_of_length_le (by omega)]
              exact g6
      obtain ⟨ρ1, m1, xs, h1, h2, h3, h4, h5, h6, h7⟩ := key len (Nat.le_refl _)
      obtain ⟨ρ', m', s, g1, g2, g3, g4, g5, g6⟩ := slice_in (esz := 6) h4 h3 hne hlc (fun hcap => by
        obtain ⟨cs', c1, _⟩ := hel 0 (by omega)
        obtain ⟨_, c3, c4⟩ := World.cells?_some c1
        have := c4 0 (by omega)
        rw [Addr.add_add] at this
        rw [List.getElem?_eq_getElem (by omega)] at this
        exact ⟨_, by simpa [Addr.add] using this⟩) h5 h6
      refine ⟨ρ', m', [s], h1.trans g1, h2.trans g2, g3, g4, by simp only [VRs]; exact ⟨_, _, rfl, g5, rfl⟩, s, rfl, xs, by rw [hlen]; exact g6, fun i md hi => (h7 i md (by have := (List.getElem?_eq_some_iff.1 hi).1; omega) hi).mono g2⟩
    · simp only [DataW.weights, T.hT, List.all_cons, Bool.and_eq_true, decide_eq_true_eq, List.all_append] at hB
      obtain ⟨b1, b2, _⟩ := hB
      refine ⟨?_, fun md hmd => ?_⟩
      · have := T.bM
        simp only [List.length_map, List.length_range] at b1
        have h3 : len ≤ (len + (mm - len)) * P.bytesOf T.tM := by
          calc len ≤ (len + (mm - len)) * 1 := by omega
            _ ≤ _ := Nat.mul_le_mul_left _ this
        omega
      · obtain ⟨i, hi, rfl⟩ := List.getElem_of_mem hmd
        obtain ⟨cs', _, _, c5⟩ := hl i l[i] (List.getElem?_eq_getElem hi)
        exact c5 B (weightsAll_mem b2 (D i) (List.mem_map.2 ⟨i, by simp; omega, rfl⟩))
theorem below_of_evol {ρ ρ' : List RB} {m m' : AMem} {w' : World} (hm : RoMem m) (h : Evol ρ m w ρ' m' w') : Below w.heap.size w w' :=
  ⟨h.os, h.tape, h.output, h.size, fun k hk => h.frame k hk fun ⟨b, blk, a, hb, ho, _⟩ => by rw [hm b blk hb] at ho; cases ho⟩
theorem heap_pos {r : Reach} {b0 : Nat} {t e : TypeId} {a : Addr} {len cap : Nat} (ht : P.underlying t = some (.slice e)) (hval : Value.okWide P w r b0 t (.slice (some a) len cap)) : 0 < w.heap.size := by
  simp only [Value.okWide, ht, Cell.okWide, Cell.ok, World.has] at hval
  obtain ⟨_, _, _, _, row, cells, h, _⟩ := hval
  unfold World.shape? at h
  rcases Nat.eq_zero_or_pos w.heap.size with h0 | h0
  · rw [Array.getElem?_eq_none (by omega)] at h
    simp at h
  · exact h0
end Go.Proofs.YtheadodblifklaaGreat.Ax

namespace Go.Proofs.YtheadodblifklaaGreat
open Go Ax
set_option maxRecDepth 100000
structure Fits (l : List Md) : Prop where
  n : l.length ≤ 13
  n12 : l.length ≤ 12
  sm : ∀ x ∈ l, smallN x
  h40 : ∀ x ∈ l, x.elems.length < 2 ^ 40 ∧ x.names.length < 2 ^ 40
theorem fits_of {l : List Md} (hb : ∀ md ∈ l, MdB reachBytes md) (h : (decide ((l.length : Int) ≤ 12) && l.all fun x => decide (x.elems.length ≤ 6) && decide (x.names.length ≤ 6)) = true) : Fits l := by
  rw [Bool.and_eq_true, decide_eq_true_iff, List.all_eq_true] at h
  obtain ⟨h1, h2⟩ := h
  refine ⟨by omega, by omega, fun x hx => ?_, fun x hx => ?_⟩
  · have := h2 x hx
    rw [Bool.and_eq_true, decide_eq_true_iff, decide_eq_true_iff] at this
    refine ⟨by omega, by omega, fun s hs => ?_⟩
    have h3 := (hb x hx).each s hs
    have h4 : reachBytes < 2 ^ 62 := by decide
    omega
  · have := h2 x hx
    rw [Bool.and_eq_true, decide_eq_true_iff, decide_eq_true_iff] at this
    omega
end Go.Proofs.YtheadodblifklaaGreat

namespace Go.Proofs.YtheadodblifklaaGreat
open Go Ax
set_option maxRecDepth 100000
theorem w3 {args : List AVal} {m : AMem} {R : AVal → AMem → Prop} (h : W Tryz.prog (.seq (.reg [⟨some 6,.P (.mov (.c (.bool false))),none⟩]) (.kill [0,1,2] (.seq (.seq (.reg [⟨some 19,.C (.c (.func (.func 10) [] [])) [],none⟩,⟨some 20,.P (.un .not (.t 19)),none⟩]) (.kill [0,1,2,20] (.cond (.t 20) (.seq (.reg [⟨some 6,.P (.mov (.c (.bool false))),none⟩]) .ret) .skip))) (.kill [0,1,2] (.seq (.seq (.reg [⟨some 21,.P (.mov (.t 0)),none⟩,⟨some 22,.C (.c (.func (.func 11) [] [])) [(.t 21),(.c (.int .i64 12))],none⟩,⟨some 23,.P (.un .not (.t 22)),none⟩]) (.kill [0,1,2,23] (.cond (.t 23) (.seq (.reg [⟨some 6,.P (.mov (.c (.bool true))),none⟩]) .ret) .skip))) (.kill [0,1,2] (.seq (.reg [⟨some 25,.P (.mov (.t 0)),none⟩,⟨some 26,.P (.mov (.t 1)),none⟩,⟨some 27,.P (.mov (.t 2)),none⟩,⟨some 28,.C (.c (.func (.func 12) [] [])) [(.t 25),(.t 26),(.t 27)],none⟩,⟨some 24,.P (.mov (.t 28)),none⟩,⟨some 29,.P (.ext (.t 24) 0),none⟩,⟨some 30,.P (.ext (.t 24) 1),none⟩,⟨some 7,.P (.mov (.t 29)),none⟩,⟨some 8,.P (.mov (.t 30)),none⟩]) (.kill [0,1,2,7,8] (.seq (.reg [⟨some 32,.P (.mov (.t 0)),none⟩,⟨some 33,.P (.mov (.t 1)),none⟩,⟨some 34,.P (.mov (.t 2)),none⟩,⟨some 35,.C (.c (.func (.func 13) [] [])) [(.t 32),(.t 33),(.t 34)],none⟩,⟨some 31,.P (.mov (.t 35)),none⟩,⟨some 36,.P (.ext (.t 31) 0),none⟩,⟨some 37,.P (.ext (.t 31) 1),none⟩,⟨some 9,.P (.mov (.t 36)),none⟩,⟨some 10,.P (.mov (.t 37)),none⟩]) (.kill [0,1,2,7,8,9,10] (.seq (.reg [⟨some 39,.P (.mov (.t 0)),none⟩,⟨some 40,.P (.mov (.t 1)),none⟩,⟨some 41,.P (.mov (.t 2)),none⟩,⟨some 42,.C (.c (.func (.func 14) [] [])) [(.t 39),(.t 40),(.t 41)],none⟩,⟨some 38,.P (.mov (.t 42)),none⟩,⟨some 43,.P (.ext (.t 38) 0),none⟩,⟨some 44,.P (.ext (.t 38) 1),none⟩,⟨some 11,.P (.mov (.t 43)),none⟩,⟨some 12,.P (.mov (.t 44)),none⟩]) (.kill [0,1,2,7,8,9,10,11,12] (.seq (.reg [⟨some 46,.P (.mov (.t 0)),none⟩,⟨some 47,.P (.mov (.t 1)),none⟩,⟨some 48,.P (.mov (.t 2)),none⟩,⟨some 49,.C (.c (.func (.func 15) [] [])) [(.t 46),(.t 47),(.t 48)],none⟩,⟨some 45,.P (.mov (.t 49)),none⟩,⟨some 50,.P (.ext (.t 45) 0),none⟩,⟨some 51,.P (.ext (.t 45) 1),none⟩,⟨some 13,.P (.mov (.t 50)),none⟩,⟨some 14,.P (.mov (.t 51)),none⟩]) (.kill [0,1,2,7,8,9,10,11,12,13,14] (.seq (.reg [⟨some 53,.P (.mov (.t 0)),none⟩,⟨some 54,.P (.mov (.t 1)),none⟩,⟨some 55,.P (.mov (.t 2)),none⟩,⟨some 56,.C (.c (.func (.func 16) [] [])) [(.t 53),(.t 54),(.t 55)],none⟩,⟨some 52,.P (.mov (.t 56)),none⟩,⟨some 57,.P (.ext (.t 52) 0),none⟩,⟨some 58,.P (.ext (.t 52) 1),none⟩,⟨some 15,.P (.mov (.t 57)),none⟩,⟨some 16,.P (.mov (.t 58)),none⟩]) (.kill [0,1,2,7,8,9,10,11,12,13,14,15,16] (.seq (.reg [⟨some 60,.P (.mov (.t 0)),none⟩,⟨some 61,.P (.mov (.t 1)),none⟩,⟨some 62,.P (.mov (.t 2)),none⟩,⟨some 63,.C (.c (.func (.func 17) [] [])) [(.t 60),(.t 61),(.t 62)],none⟩,⟨some 59,.P (.mov (.t 63)),none⟩,⟨some 64,.P (.ext (.t 59) 0),none⟩,⟨some 65,.P (.ext (.t 59) 1),none⟩,⟨some 17,.P (.mov (.t 64)),none⟩,⟨some 18,.P (.mov (.t 65)),none⟩]) (.kill [7,8,9,10,11,12,13,14,15,16,17,18] (.seq (.reg [⟨some 66,.P (.mov (.t 7)),none⟩,⟨some 67,.P (.mov (.t 9)),none⟩,⟨some 68,.P (.eqB false (.t 66) (.t 67)),none⟩,⟨some 69,.P (.mov (.t 68)),none⟩,⟨some 70,.P (.mov (.t 8)),(some (69, true))⟩,⟨some 71,.P (.mov (.t 10)),(some (69, true))⟩,⟨some 72,.P (.bin .eql (.t 70) (.t 71)),(some (69, true))⟩,⟨some 73,.P (.pick (.t 69) (.t 72) (.c (.bool false))),none⟩,⟨some 74,.P (.mov (.t 73)),none⟩,⟨some 75,.P (.mov (.t 11)),(some (74, true))⟩,⟨some 76,.P (.mov (.t 13)),(some (74, true))⟩,⟨some 77,.P (.bin .eql (.t 75) (.t 76)),(some (74, true))⟩,⟨some 78,.P (.pick (.t 74) (.t 77) (.c (.bool false))),none⟩,⟨some 79,.P (.mov (.t 78)),none⟩,⟨some 80,.P (.mov (.t 12)),(some (79, true))⟩,⟨some 81,.P (.mov (.t 14)),(some (79, true))⟩,⟨some 82,.P (.bin .eql (.t 80) (.t 81)),(some (79, true))⟩,⟨some 83,.P (.pick (.t 79) (.t 82) (.c (.bool false))),none⟩,⟨some 84,.P (.mov (.t 83)),none⟩,⟨some 85,.P (.mov (.t 15)),(some (84, true))⟩,⟨some 86,.P (.mov (.t 17)),(some (84, true))⟩,⟨some 87,.P (.eqB false (.t 85) (.t 86)),(some (84, true))⟩,⟨some 88,.P (.pick (.t 84) (.t 87) (.c (.bool false))),none⟩,⟨some 89,.P (.mov (.t 88)),none⟩,⟨some 90,.P (.mov (.t 16)),(some (89, true))⟩,⟨some 91,.P (.mov (.t 18)),(some (89, true))⟩,⟨some 92,.P (.bin .eql (.t 90) (.t 91)),(some (89, true))⟩,⟨some 93,.P (.pick (.t 89) (.t 92) (.c (.bool false))),none⟩,⟨some 6,.P (.mov (.t 93)),none⟩]) .ret))))))))))))))))))) (E [(.tmp 6)] R .mk) .mk (mat 94 (sArgs 0 args)) m) (hl : Nat.ble args.length 94 = true := by rfl) : ACalls Tryz.prog 3 args m R := walk mix (by kernel_rfl) (Nat.le_of_ble_eq_true hl) h
theorem w6 {args : List AVal} {m : AMem} {R : AVal → AMem → Prop} (h : W Tryz.prog (.seq (.reg [⟨some 6,.P (.mov (.c (.bool false))),none⟩]) (.kill [0,1,2] (.seq (.seq (.reg [⟨some 13,.C (.c (.func (.func 10) [] [])) [],none⟩,⟨some 14,.P (.un .not (.t 13)),none⟩]) (.kill [0,1,2,14] (.cond (.t 14) (.seq (.reg [⟨some 6,.P (.mov (.c (.bool false))),none⟩]) .ret) .skip))) (.kill [0,1,2] (.seq (.seq (.reg [⟨some 15,.P (.mov (.t 0)),none⟩,⟨some 16,.C (.c (.func (.func 11) [] [])) [(.t 15),(.c (.int .i64 12))],none⟩,⟨some 17,.P (.un .not (.t 16)),none⟩]) (.kill [0,1,2,17] (.cond (.t 17) (.seq (.reg [⟨some 6,.P (.mov (.c (.bool true))),none⟩]) .ret) .skip))) (.kill [0,1,2] (.seq (.reg [⟨some 19,.P (.mov (.t 0)),none⟩,⟨some 20,.P (.mov (.t 1)),none⟩,⟨some 21,.P (.mov (.t 2)),none⟩,⟨some 22,.C (.c (.func (.func 24) [] [])) [(.t 19),(.t 20),(.t 21)],none⟩,⟨some 18,.P (.mov (.t 22)),none⟩,⟨some 23,.P (.ext (.t 18) 0),none⟩,⟨some 24,.P (.ext (.t 18) 1),none⟩,⟨some 25,.P (.ext (.t 18) 2),none⟩,⟨some 7,.P (.mov (.t 23)),none⟩,⟨some 8,.P (.mov (.t 24)),none⟩,⟨some 9,.P (.mov (.t 25)),none⟩]) (.kill [0,1,2,7,8,9] (.seq (.reg [⟨some 27,.P (.mov (.t 0)),none⟩,⟨some 28,.P (.mov (.t 1)),none⟩,⟨some 29,.P (.mov (.t 2)),none⟩,⟨some 30,.C (.c (.func (.func 25) [] [])) [(.t 27),(.t 28),(.t 29)],none⟩,⟨some 26,.P (.mov (.t 30)),none⟩,⟨some 31,.P (.ext (.t 26) 0),none⟩,⟨some 32,.P (.ext (.t 26) 1),none⟩,⟨some 33,.P (.ext (.t 26) 2),none⟩,⟨some 10,.P (.mov (.t 31)),none⟩,⟨some 11,.P (.mov (.t 32)),none⟩,⟨some 12,.P (.mov (.t 33)),none⟩]) (.kill [7,8,9,10,11,12] (.seq (.reg [⟨some 34,.P (.mov (.t 7)),none⟩,⟨some 35,.P (.mov (.t 10)),none⟩,⟨some 36,.C (.c (.func (.func 26) [] [])) [(.t 34),(.t 35)],none⟩,⟨some 37,.P (.mov (.t 36)),none⟩,⟨some 38,.P (.mov (.t 8)),(some (37, true))⟩,⟨some 39,.P (.mov (.t 11)),(some (37, true))⟩,⟨some 40,.P (.bin .eql (.t 38) (.t 39)),(some (37, true))⟩,⟨some 41,.P (.pick (.t 37) (.t 40) (.c (.bool false))),none⟩,⟨some 42,.P (.mov (.t 41)),none⟩,⟨some 43,.P (.mov (.t 9)),(some (42, true))⟩,⟨some 44,.P (.mov (.t 12)),(some (42, true))⟩,⟨some 45,.P (.bin .eql (.t 43) (.t 44)),(some (42, true))⟩,⟨some 46,.P (.pick (.t 42) (.t 45) (.c (.bool false))),none⟩,⟨some 6,.P (.mov (.t 46)),none⟩]) .ret))))))))))) (E [(.tmp 6)] R .mk) .mk (mat 47 (sArgs 0 args)) m) (hl : Nat.ble args.length 47 = true := by rfl) : ACalls Tryz.prog 6 args m R := walk mix (by kernel_rfl) (Nat.le_of_ble_eq_true hl) h
end Go.Proofs.YtheadodblifklaaGreat
namespace Go.Proofs.YtheadodblifklaaGreat
open Go Ax
set_option maxRecDepth 100000
theorem both_at {l : List Md} (hg : goodT l) {b z : Nat} (hb : b < l.length) : decide (0 ≤ atI (RR l) (basesOf l b) z) = true ↔ hasRR l b z := by
  rw [decide_eq_true_iff]
  exact atI_basesOf hg hb
theorem k23 (s t : AVal) (xs : List Int) (m : AMem) (hs : RInts m s xs) (ht : RInts m t xs) (hn : xs.length < 2 ^ 62) : ACalls Tryz.prog 23 [s, t] m fun v m' => v = .bool true ∧ m <+: m' := by
  refine w23 ?_
  simp [hs.len, ht.len]
  refine W_loop (fun q a m' => ∃ k : Nat, k + q = xs.length ∧ a = h23_0 s t (.int .i64 xs.length) (.int .i64 k) ∧ m <+: m') xs.length ⟨0, by simp⟩ ?_
  rintro q a m1 ⟨k, hk, rfl, hm1⟩
  simp
  refine bbind_dec (fun hkl => ?_) fun hkl => ?_
  · have hkl : k < xs.length := by omega
    have hw := step64 hkl hn
    obtain ⟨q, rfl⟩ : ∃ q', q = q' + 1 := ⟨q - 1, by omega⟩
    obtain ⟨b1, o1, g1, g2⟩ := (hs.mono hm1).at hkl
    obtain ⟨b2, o2, g3, g4⟩ := (ht.mono hm1).at hkl
    simp
    refine W_drawPR (by simp [maxDst]) rfl rfl ?_
    simp [g1, g2, g3, g4, hw]
    intro m2 hm2
    exact ⟨q, by omega, k + 1, by omega, by simp, hm1.trans hm2⟩
  · simp
    exact hm1
end Go.Proofs.YtheadodblifklaaGreat

namespace Go.Proofs.YtheadodblifklaaGreat
open Go Ax
set_option maxRecDepth 100000
theorem k172 (s t : AVal) (xs ys : List Int) (m : AMem) (hs : RInts m s xs) (ht : RInts m t ys) (hn : xs.length < 2 ^ 62) : ACalls Tryz.prog 172 [s, t] m fun v m' => v = .bool (decide (xs = ys)) ∧ m <+: m' := by
  refine w172 ?_
  by_cases hl : xs.length = ys.length
  rotate_left
  · have hl' : ¬ (xs.length : Int) = ys.length := by omega
    have : ¬ xs = ys := fun e => hl (by rw [e])
    simp [hs.len, ht.len, bneT hl', this]
  simp [hs.len, ht.len, hl]
  refine W_loop (fun q a m' => ∃ k : Nat, k + q = xs.length ∧ a = h172_0 s t (.int .i64 k) ∧ m <+: m' ∧ ∀ (j : Nat) x, j < k → xs[j]? = some x → ys[j]? = some x) xs.length ⟨0, by simp⟩ ?_
  rintro q a m1 ⟨k, hk, rfl, hm1, he⟩
  simp [(hs.mono hm1).len, hl]
  refine bbind_dec (fun hkl => ?_) fun hkl => ?_
  · have hkl : k < xs.length := by omega
    have hw := step64 hkl hn
    obtain ⟨q, rfl⟩ : ∃ q', q = q' + 1 := ⟨q - 1, by omega⟩
    obtain ⟨b1, o1, g1, g2⟩ := (hs.mono hm1).at hkl
    obtain ⟨b2, o2, g3, g4⟩ := (ht.mono hm1).at (i := k) (by omega)
    simp
    refine W_drawPR (by simp [maxDst]) rfl rfl ?_
    simp [g1, g2, g3, g4]
    intro m2 hm2
    by_cases hxy : xs[k] = ys[k]'(by omega)
    · simp [hxy, hw]
      refine ⟨q, by omega, k + 1, by omega, by simp, hm1.trans hm2, fun j x hj hx => ?_⟩
      by_cases hjk : j = k
      · subst hjk
        rw [List.getElem?_eq_getElem hkl] at hx
        cases hx
        rw [hxy]
        exact List.getElem?_eq_getElem (by omega)
      · exact he j x (by omega) hx
    · have : ¬ xs = ys := fun e => hxy (by subst e; rfl)
      simp [bneT hxy, this]
      exact hm1.trans hm2
  · have hkl : k = xs.length := by omega
    subst hkl
    have : xs = ys := by
      apply List.ext_getElem?
      intro i
      cases hi : xs[i]? with
      | some x => exact (he i x (List.getElem?_eq_some_iff.1 hi).1 hi).symm
      | none => exact (List.getElem?_eq_none (by have := List.getElem?_eq_none_iff.1 hi; omega)).symm
    simp [this]
    exact hm1
theorem k60 (s t : AVal) (xs : List ByteArray) (m : AMem) (hs : RStrs m s xs) (ht : RStrs m t xs) (hn : xs.length < 2 ^ 62) : ACalls Tryz.prog 60 [s, t] m fun v m' => v = .bool true ∧ m <+: m' := by
  refine w60 ?_
  simp [hs.len, ht.len]
  refine W_loop (fun q a m' => ∃ k : Nat, k + q = xs.length ∧ a = h60_0 s t (.int .i64 xs.length) (.int .i64 k) ∧ m <+: m') xs.length ⟨0, by simp⟩ ?_
  rintro q a m1 ⟨k, hk, rfl, hm1⟩
  simp
  refine bbind_dec (fun hkl => ?_) fun hkl => ?_
  · have hkl : k < xs.length := by omega
    have hw := step64 hkl hn
    obtain ⟨q, rfl⟩ : ∃ q', q = q' + 1 := ⟨q - 1, by omega⟩
    obtain ⟨b1, o1, g1, g2⟩ := (hs.mono hm1).at hkl
    obtain ⟨b2, o2, g3, g4⟩ := (ht.mono hm1).at hkl
    simp
    refine W_drawPR (by simp [maxDst]) rfl rfl ?_
    have hne : binStr .neq xs[k] xs[k] = some (.bool false) := by simp [binStr]
    simp [g1, g2, g3, g4, hw, hne]
    intro m2 hm2
    exact ⟨q, by omega, k + 1, by omega, by simp, hm1.trans hm2⟩
  · simp
    exact hm1
theorem k59 (c d : List AVal) (x : Md) (m : AMem) (hx : RMode m c x) (hy : RMode m d x) (hsz : smallN x) : ACalls Tryz.prog 59 [.agg c, .agg d] m fun v m' => v = .bool true ∧ m <+: m' := by
  obtain ⟨e, nm, rfl, he, hnm⟩ := hx
  obtain ⟨e2, nm2, rfl, he2, hnm2⟩ := hy
  refine w59 ?_
  have h1 := Sl.one he
  have h2 := Sl.one hnm
  have h3 := Sl.one he2
  have h4 := Sl.one hnm2
  simp [h1, h2, h3, h4]
  obtain ⟨hb1, hb2, hm01⟩ := two_box m [.int .i64 x.kind, .int .i64 x.size, e, nm, .int .i64 x.dims, .bool x.flex] [.int .i64 x.kind, .int .i64 x.size, e2, nm2, .int .i64 x.dims, .bool x.flex] 49 49
  generalize m ++ [.own [.int .i64 x.kind, .int .i64 x.size, e, nm, .int .i64 x.dims, .bool x.flex] 49 none, .own [.int .i64 x.kind, .int .i64 x.size, e2, nm2, .int .i64 x.dims, .bool x.flex] 49 none] = m1 at *
  simp [bx hb1, bx hb2]
  refine C_of (k23 e e2 x.elems m1 (he.mono hm01) (he2.mono hm01) hsz.1) ?_
  rintro _ m2 ⟨rfl, hm2⟩
  simp [bx (readB_mono hm2 hb1), bx (readB_mono hm2 hb2)]
  refine C_of (k60 nm nm2 x.names m2 (hnm.mono (hm01.trans hm2)) (hnm2.mono (hm01.trans hm2)) hsz.2.1) ?_
  rintro _ m3 ⟨rfl, hm3⟩
  simp [bx (readB_mono (hm2.trans hm3) hb1), bx (readB_mono (hm2.trans hm3) hb2)]
  exact hm01.trans (hm2.trans hm3)
theorem k58 (s t : AVal) (l : List Md) (m : AMem) (hs : RTab m s l) (ht : RTab m t l) (hsz : ∀ x ∈ l, smallN x) (hn : l.length < 2 ^ 62) : ACalls Tryz.prog 58 [s, t, .func (.func 59) [] []] m fun v m' => v = .bool true ∧ m <+: m' := by
  refine w58 ?_
  simp [hs.len, ht.len]
  refine W_loop (fun q a m' => ∃ k : Nat, k + q = l.length ∧ a = h58_0 t (.func (.func 59) [] []) s (.int .i64 l.length) (.int .i64 k) ∧ m <+: m') l.length ⟨0, by simp⟩ ?_
  rintro q a m1 ⟨k, hk, rfl, hm1⟩
  simp
  refine bbind_dec (fun hkl => ?_) fun hkl => ?_
  · have hkl : k < l.length := by omega
    have hw := step64 hkl hn
    obtain ⟨q, rfl⟩ : ∃ q', q = q' + 1 := ⟨q - 1, by omega⟩
    obtain ⟨b1, o1, c1, g1, g2, _, _, g3⟩ := (hs.mono hm1).atC hkl
    obtain ⟨b2, o2, c2, g4, g5, _, _, g6⟩ := (ht.mono hm1).atC hkl
    have a1 := g3.all
    have a2 := g6.all
    simp [g1, g2]
    rw [store_new _ _ c1 _ _ 6 a1.1 rfl a1.2]
    have hbx := readB_new m1 c1 49 none
    have hm12 : m1 <+: m1 ++ [.own c1 49 none] := List.prefix_append _ _
    simp
    generalize m1 ++ [.own c1 49 none] = m2 at *
    simp [g4, loadE_mono hm12 g5]
    rw [store_new _ _ c2 _ _ 6 a2.1 rfl a2.2]
    have hby := readB_new m2 c2 49 none
    have hm23 : m2 <+: m2 ++ [.own c2 49 none] := List.prefix_append _ _
    simp
    generalize m2 ++ [.own c2 49 none] = m3 at *
    have r1 : readN c1 0 6 = some c1 := by unfold readN; rw [if_pos (by omega), List.drop_zero, List.take_of_length_le (by omega)]
    have r2 : readN c2 0 6 = some c2 := by unfold readN; rw [if_pos (by omega), List.drop_zero, List.take_of_length_le (by omega)]
    simp [bxW (readB_mono hm23 hbx), bxW hby, r1, r2]
    refine C_of (k59 c1 c2 l[k] m3 (g3.mono (hm12.trans hm23)) (g6.mono (hm12.trans hm23)) (hsz _ (List.getElem_mem hkl))) ?_
    rintro _ m4 ⟨rfl, hm4⟩
    simp [hw]
    exact ⟨q, by omega, k + 1, by omega, by simp, hm1.trans ((hm12.trans hm23).trans hm4)⟩
  · simp
    exact hm1
theorem k26 (s t : AVal) (l : List Md) (m : AMem) (hs : RTab m s l) (ht : RTab m t l) (hsz : ∀ x ∈ l, smallN x) (hn : l.length < 2 ^ 62) : ACalls Tryz.prog 26 [s, t] m fun v m' => v = .bool true ∧ m <+: m' := by
  refine w26 ?_
  simp
  refine C_of (k58 s t l m hs ht hsz hn) ?_
  rintro _ m2 ⟨rfl, hm2⟩
  simp [hm2]
end Go.Proofs.YtheadodblifklaaGreat

namespace Go.Proofs.YtheadodblifklaaGreat
open Go Ax
open Relation
set_option maxRecDepth 100000
theorem RR_first {l : List Md} {a b : Nat} (ha : a < l.length) (hb : b < l.length) (h : RR l a = RR l b) : firstC (mdAt l a) (mdAt l b) = 0 := by
  have h1 : R l (1 + l.length) a = R l (1 + l.length) b := by rw [Nat.add_comm]; exact h
  have h2 := R_eq_cmp (d := 0) ha hb (R_eq_down ha hb l.length h1)
  unfold cmpR thenC at h2
  have h0 : cmpI (R l 0 a : Nat) (R l 0 b : Nat) = 0 := cmpI_zero.2 rfl
  simp [h0] at h2
  exact h2
theorem lexC_refl : ∀ xs : List Int, lexC cmpI xs xs = 0
  | [] => rfl
  | x :: xs => by
    have h : cmpI x x = 0 := cmpI_zero.2 rfl
    simp [lexC, h, lexC_refl xs]
theorem R_eq_of {l : List Md} {a b : Nat} (ha : a < l.length) (hb : b < l.length) (hf : firstC (mdAt l a) (mdAt l b) = 0) (hk : ∀ r, keyOf l r a = keyOf l r b) : ∀ d, R l d a = R l d b
  | 0 => rfl
  | d + 1 => by
    have ih := R_eq_of ha hb hf hk d
    have hc : cmpR l (R l d) d a b = 0 := by
      unfold cmpR thenC
      have h0 : cmpI (R l d a : Nat) (R l d b : Nat) = 0 := cmpI_zero.2 (by rw [ih])
      simp only [h0]
      by_cases hd : d = 0
      · simp [hd, hf]
      · simp [hd, hk, lexC_refl]
    have h1 := R_lt l d (b := b) ha
    have h2 := R_lt l d (b := a) hb
    have h3 := (cmpR_ord l (R l d) d).anti a b trivial trivial
    have h4 := (cmpR_ord l (R l d) d).anti b a trivial trivial
    omega
theorem step_same {l : List Md} {a b : Nat} (ha : a < l.length) (hb : b < l.length) (hk : (mdAt l a).kind = (mdAt l b).kind) (he : (mdAt l a).elems = (mdAt l b).elems) {y : Nat} (h : stepR l isU a y) : stepR l isU b y := by
  obtain ⟨x, h1, h2, h3⟩ := h
  rw [mdAt_eq ha, mdAt_eq hb] at hk he
  rw [List.getElem?_eq_getElem ha] at h1
  cases h1
  refine ⟨l[b], List.getElem?_eq_getElem hb, ?_, by rw [← he]; exact h3⟩
  unfold isU at h2 ⊢
  rw [← hk]; exact h2
theorem part_same {l : List Md} {a b : Nat} (ha : a < l.length) (hb : b < l.length) (hk : (mdAt l a).kind = (mdAt l b).kind) (he : (mdAt l a).elems = (mdAt l b).elems) {j : Nat} (h : IsPart l a j) : IsPart l b j := by
  refine ⟨?_, h.2⟩
  have := h.1
  clear h
  induction this with
  | single h => exact .single (step_same ha hb hk he h)
  | tail _ h ih => exact .tail ih h
theorem key_same {l : List Md} {a b : Nat} (ha : a < l.length) (hb : b < l.length) (hk : (mdAt l a).kind = (mdAt l b).kind) (he : (mdAt l a).elems = (mdAt l b).elems) (r : Nat → Nat) : keyOf l r a = keyOf l r b := by
  unfold keyOf
  have hu : isU (mdAt l a) = isU (mdAt l b) := by unfold isU; rw [hk]
  rw [hu, he]
  cases isU (mdAt l b)
  · rfl
  · simp only [if_true]
    congr 1
    apply List.filter_congr
    intro v _
    rw [decide_eq_decide]
    exact ⟨fun ⟨j, h1, h2⟩ => ⟨j, part_same ha hb hk he h1, h2⟩, fun ⟨j, h1, h2⟩ => ⟨j, part_same hb ha hk.symm he.symm h1, h2⟩⟩
theorem RR_same {l : List Md} {a b : Nat} (ha : a < l.length) (hb : b < l.length) (hf : firstC (mdAt l a) (mdAt l b) = 0) (he : (mdAt l a).elems = (mdAt l b).elems) : RR l a = RR l b :=
  R_eq_of ha hb hf (key_same ha hb (firstC_kind hf) he) _
theorem mdAt_app {l : List Md} {x : Md} {i : Nat} (h : i < l.length) : mdAt (l ++ [x]) i = mdAt l i := by
  unfold mdAt
  rw [List.getElem?_append_left h]
theorem mdAt_last {l : List Md} {x : Md} : mdAt (l ++ [x]) l.length = x := by
  unfold mdAt
  rw [List.getElem?_concat_length]
  rfl
theorem fidx_at {p : Nat → Bool} : ∀ (n i j : Nat), i ≤ j → j < i + n → p j = true → (∀ k, i ≤ k → k < j → p k = false) → fidx p i n = (j : Int)
  | 0, i, j, h1, h2, _, _ => by omega
  | n + 1, i, j, h1, h2, h3, h4 => by
    rw [fidx]
    by_cases hij : i = j
    · subst hij; rw [if_pos h3]
    · rw [if_neg (by rw [h4 i (Nat.le_refl _) (by omega)]; simp)]
      exact fidx_at n (i + 1) j (by omega) (by omega) h3 fun k k1 k2 => h4 k (by omega) k2
theorem findI_none {l : List Md} {x : Md} (h : ∃ e ∈ x.elems, outB l.length e = true) : findI l x = none := by
  obtain ⟨e, he, ho⟩ := h
  unfold findI
  split
  · rfl
  · rename_i hn
    rw [if_pos]
    intro hc
    have ok := okT_of hc
    have := ok.good x (by simp) e he
    have hne : e ≠ (l.length : Int) := fun h => hn (h ▸ he)
    simp [outB] at ho
    simp at this
    omega
theorem findI_ok {l : List Md} {x : Md} (h : ∀ e ∈ x.elems, outB l.length e = false) : findI l x = if checkI (l ++ [x]) ≠ 0 then none else if fidx (fun i => RR (l ++ [x]) i == RR (l ++ [x]) l.length) 0 (l.length + 1) = l.length then none else some (fidx (fun i => RR (l ++ [x]) i == RR (l ++ [x]) l.length) 0 (l.length + 1)).toNat := by
  unfold findI
  rw [if_neg]
  intro hm
  have := h _ hm
  simp [outB] at this
theorem findI_last {l : List Md} {x : Md} (h : ∀ e ∈ x.elems, outB l.length e = false) (hc : checkI (l ++ [x]) = 0) (hn : ∀ i, i < l.length → RR (l ++ [x]) i ≠ RR (l ++ [x]) l.length) : findI l x = none := by
  rw [findI_ok h, if_neg (by simp [hc]), if_pos]
  exact fidx_at _ 0 _ (by omega) (by omega) (by simp) fun k _ hk => by simpa using hn k hk
theorem findI_some {l : List Md} {x : Md} (h : ∀ e ∈ x.elems, outB l.length e = false) (hc : checkI (l ++ [x]) = 0) {j : Nat} (hj : j < l.length) (he : RR (l ++ [x]) j = RR (l ++ [x]) l.length) (hn : ∀ i, i < j → RR (l ++ [x]) i ≠ RR (l ++ [x]) l.length) : findI l x = some j := by
  have hF := fidx_at (p := fun i => RR (l ++ [x]) i == RR (l ++ [x]) l.length) (l.length + 1) 0 j (by omega) (by omega) (by simpa using he) fun k _ hk => by simpa using hn k hk
  rw [findI_ok h, if_neg (by simp [hc]), hF, if_neg (by omega)]
  simp
end Go.Proofs.YtheadodblifklaaGreat

namespace Go.Proofs.YtheadodblifklaaGreat
open Go Ax
set_option maxRecDepth 100000
set_option maxHeartbeats 8000000 in
theorem k140 (s : AVal) (c : List AVal) (l : List Md) (x : Md) (m : AMem) (hs : RTab m s l) (hx : RMode m c x) (hsz : ∀ y ∈ l ++ [x], smallN y) (h40 : ∀ y ∈ l ++ [x], y.elems.length < 2 ^ 40 ∧ y.names.length < 2 ^ 40) (hn : l.length < 2 ^ 20) :
    ACalls Tryz.prog 140 [s, .agg c] m fun v m' => m <+: m' ∧ v = .tuple [.int .i64 ((findI l x).getD 0 : Nat), .bool (findI l x).isSome] := by
  have hx0 := hx
  have hcl := hx.all
  obtain ⟨e, nm, rfl, he, hnm⟩ := hx
  refine w140 ?_
  have h1 := Sl.one he
  have h2 := Sl.one hnm
  simp [h1, h2]
  have hb0 := readB_new m [.int .i64 x.kind, .int .i64 x.size, e, nm, .int .i64 x.dims, .bool x.flex] 49 none
  have hm01 : m <+: m ++ [.own [.int .i64 x.kind, .int .i64 x.size, e, nm, .int .i64 x.dims, .bool x.flex] 49 none] := List.prefix_append _ _
  generalize m ++ [.own [.int .i64 x.kind, .int .i64 x.size, e, nm, .int .i64 x.dims, .bool x.flex] 49 none] = m1 at *
  generalize m.length = b3 at *
  have hxs := hsz x (by simp)
  have hx40 := h40 x (by simp)
  -- the elements
  obtain ⟨J, hJ⟩ : ∃ J : AFrame → AMem → Prop, ∀ f m', J f m' ↔ (f.forget [0, 3] = mat 83 [(0, s), (3, .ptr b3 0)] ∧ m1 <+: m' ∧ ∀ e ∈ x.elems, outB l.length e = false) := ⟨_, fun _ _ => Iff.rfl⟩
  refine W_JB J ?_ ?_
  · obtain ⟨I, hI⟩ : ∃ I : Nat → AFrame → AMem → Prop, ∀ q f m', I q f m' ↔ (∃ k : Nat, k + q = x.elems.length ∧ f = h140_0 s (.ptr b3 0) (.int .i64 k) ∧ m1 <+: m' ∧ ∀ (j : Nat) e, j < k → x.elems[j]? = some e → outB l.length e = false) := ⟨_, fun _ _ _ => Iff.rfl⟩
    refine W_loop I x.elems.length ((hI _ _ _).2 ⟨0, by simp, by simp, List.prefix_refl _, fun _ _ h => by omega⟩) ?_
    rintro q f m2 hIn
    obtain ⟨k, hk, rfl, hm2, ho⟩ := (hI _ _ _).1 hIn
    clear hIn
    have hm02 := hm01.trans hm2
    simp [bx (readB_mono hm2 hb0), (he.mono hm02).len]
    refine bbind_dec (fun hkl => ?_) fun hkl => ?_
    · have hkl : k < x.elems.length := by omega
      have hw := step64 hkl (by omega)
      obtain ⟨q, rfl⟩ : ∃ q', q = q' + 1 := ⟨q - 1, by omega⟩
      obtain ⟨b1, o1, g1, g2⟩ := (he.mono hm02).at hkl
      simp [bx (readB_mono hm2 hb0), g1, g2]
      refine C_of (k147 s l x.elems[k] m2 (hs.mono hm02)) ?_
      rintro _ m3 ⟨rfl, rfl⟩
      have hob : outB l.length x.elems[k] = !(decide (0 ≤ x.elems[k]) && decide (x.elems[k] < l.length)) := rfl
      cases hin : (decide (0 ≤ x.elems[k]) && decide (x.elems[k] < l.length))
      · rw [hin] at hob
        have hf := findI_none (l := l) (x := x) ⟨_, List.getElem_mem hkl, hob⟩
        simp [hf]
        exact hm02
      · rw [hin] at hob
        simp [hw]
        refine ⟨q, by omega, (hI _ _ _).2 ⟨k + 1, by omega, by simp, hm2, fun j e hj hje => ?_⟩⟩
        by_cases hjk : j = k
        · subst hjk; rw [List.getElem?_eq_getElem hkl] at hje; cases hje; exact hob
        · exact ho j e (by omega) hje
    · simp
      refine (hJ _ _).2 ⟨by simp, hm2, fun e he' => ?_⟩
      obtain ⟨j, hj, rfl⟩ := List.getElem_of_mem he'
      exact ho j _ (by omega) (List.getElem?_eq_getElem hj)
  intro f m2 hJ2
  obtain ⟨hf, hm2, hin⟩ := (hJ _ _).1 hJ2
  clear hJ2 hJ
  have hm02 := hm01.trans hm2
  simp [hf]
  -- the table with it
  refine W_draw (fun _ _ _ => True) (by simp [maxDst]) ?_
  have hr2 := bxW (readB_mono hm2 hb0) 6
  simp [readN] at hr2
  refine D_pre 0 1 [2, 1, 3, 4, 5, 6] (by simp only [List.drop_zero, List.drop_succ_cons, List.take_succ_cons, List.take_zero]; rfl) rfl rfl (fun _ _ => trivial) ?_
  simp
  intro _ _
  refine D_R rfl trivial ⟨_, List.prefix_refl _, fun _ h => by cases h⟩ ?_
  simp [hr2]
  refine D_X rfl rfl fun m3 hm3 _ => ?_
  simp
  refine C_of (k139 s l m3 (hs.mono (hm02.trans hm3)) (fun y hy => h40 y (by simp [hy])) hn) ?_
  rintro t4 m4 ⟨hm4, hT⟩
  have hm24 := hm3.trans hm4
  refine ⟨by simp [lateOf, ROp.ev, readB_mono hm24 (readB_mono hm2 hb0), readN], ?_⟩
  refine D_X rfl rfl fun m5 hm5 _ => ?_
  simp
  refine C_of (k141 _ x m5 (hx0.mono ((hm02.trans hm24).trans hm5)) hx40) ?_
  rintro _ m6 ⟨hm6, c6, rfl, hM⟩
  refine ⟨by simp [lateOf], ?_⟩
  have hcl6 := hM.mode.all
  obtain ⟨e6, nm6, hc6, _, _⟩ := id hM
  have hfill : fillA [.int .i64 0, .int .i64 0, .nilslice, .nilslice, .int .i64 0, .bool false] [(0, 6, .agg c6)] = some c6 := by
    subst hc6
    have h := hcl6.2
    simp only [List.all_cons, List.all_nil, Bool.and_eq_true] at h
    simp [fillA, setN, h.2.2.1, h.2.2.2.1]
  refine D_A rfl trivial ?_
  simp [hfill]
  intro b'
  refine D_W rfl rfl fun m7 hm7 hf7 => ?_
  have h7 := hf7 4
  simp [upd] at h7
  have hm47 := (hm5.trans hm6).trans hm7
  obtain ⟨t8, m8, happ, hch8, hT8, _⟩ := (hT.mono hm47).pushM (by have := hm4.length_le; have := hm47.length_le; omega) (hM.mono hm7) (fun b hb => by have := (hT.blk_lo hb).2; have := hm5.length_le; omega) (by omega)
  simp [lit6' h7 hcl6.1, happ]
  refine D_P rfl trivial ?_
  simp
  refine D_end fun m9 hm9 _ => ?_
  have hm38 : m3 <+: m8 := hch8.pre (hm4.trans hm47) fun b hb h => by have := (hT.blk_lo h).1; omega
  have hm29 := (hm3.trans hm38).trans hm9
  have hm09 := hm02.trans hm29
  have hT9 := (hT8.mono hm9).tab
  have hlL : (l ++ [x]).length = l.length + 1 := by simp
  have hb9 := readB_mono hm29 (readB_mono hm2 hb0)
  clear happ hch8 h7 hT hT8 hM hfill hcl6 hr2
  simp
  refine C_of (k70 t8 (l ++ [x]) m9 hT9 hsz (by omega)) ?_
  rintro _ m10 ⟨rfl, hm10⟩
  by_cases hc : checkI (l ++ [x]) = 0
  rotate_left
  · have hfi : findI l x = none := by rw [findI_ok hin, if_pos hc]
    simp [bneT hc, hfi]
    exact hm09.trans hm10
  have ok := okT_of hc
  simp [hc]
  -- the first one that may be equal
  obtain ⟨J, hJ⟩ : ∃ J : AFrame → AMem → Prop, ∀ f m', J f m' ↔ (∃ i : Nat, f.forget [0, 3, 7, 8] = mat 83 [(0, s), (3, .ptr b3 0), (7, t8), (8, .int .i64 i)] ∧ m10 <+: m' ∧ i ≤ l.length ∧ (∀ j, j < i → firstC (mdAt l j) x ≠ 0) ∧ (i < l.length → firstC (mdAt l i) x = 0)) := ⟨_, fun _ _ => Iff.rfl⟩
  refine W_JB J ?_ ?_
  · obtain ⟨I, hI⟩ : ∃ I : Nat → AFrame → AMem → Prop, ∀ q f m', I q f m' ↔ (∃ i : Nat, i + q = l.length ∧ f = h140_1 s (.ptr b3 0) t8 (.int .i64 i) ∧ m10 <+: m' ∧ ∀ j, j < i → firstC (mdAt l j) x ≠ 0) := ⟨_, fun _ _ _ => Iff.rfl⟩
    refine W_loop I l.length ((hI _ _ _).2 ⟨0, by simp, by simp, List.prefix_refl _, fun _ h => by omega⟩) ?_
    rintro q f m11 hIn
    obtain ⟨i, hi, rfl, hm11, hne⟩ := (hI _ _ _).1 hIn
    clear hIn
    have hm011 := (hm09.trans hm10).trans hm11
    simp
    refine W_draw (fun _ _ _ => True) (by simp [maxDst]) ?_
    refine D_pre 0 10 [10, 11, 12] (by simp only [List.drop_zero, List.drop_succ_cons, List.take_succ_cons, List.take_zero]; rfl) rfl rfl (fun _ _ => trivial) ?_
    by_cases hil : i < l.length
    · have hil' : (i : Int) < l.length := by omega
      obtain ⟨bi, oi, ci, g1, g2, _, _, g3⟩ := (hs.mono hm011).atC hil
      have hrx := bxW (readB_mono (hm10.trans hm11) hb9) 6
      simp [readN] at hrx
      simp [(hs.mono hm011).len, hil', g1, g2, hrx]
      intro _ _
      refine D_Xg rfl rfl (b := true) (by simp) (fun _ m12 hm12 _ => ?_) (fun h => absurd rfl h)
      simp
      have hmi : l[i] ∈ l ++ [x] := by simp
      refine C_of (k72 ci _ l[i] x m12 (g3.mono hm12) (hx0.mono (hm011.trans hm12)) (hsz _ hmi) hxs (ok.names _ hmi x (by simp))) ?_
      rintro _ m13 ⟨rfl, hm13⟩
      refine ⟨by simp [lateOf], ?_⟩
      refine D_pre 11 2 [] (by simp only [List.drop_zero, List.drop_succ_cons, List.take_succ_cons, List.take_zero]; rfl) rfl rfl (fun _ _ => trivial) ?_
      simp
      intro _ _
      refine D_end fun m14 hm14 _ => ?_
      have hm1114 := (hm12.trans hm13).trans hm14
      rw [← mdAt_eq hil]
      by_cases hf0 : firstC (mdAt l i) x = 0
      · simp [hf0]
        exact (hJ _ _).2 ⟨i, by simp, hm11.trans hm1114, by omega, hne, fun _ => hf0⟩
      · have hw := step64 hil (by omega)
        simp [bneT hf0, hw]
        refine ⟨q - 1, by omega, (hI _ _ _).2 ⟨i + 1, by omega, by simp, hm11.trans hm1114, fun j hj => ?_⟩⟩
        by_cases hji : j = i
        · subst hji; exact hf0
        · exact hne j (by omega)
    · have hil' : ¬ (i : Int) < l.length := by omega
      simp [(hs.mono hm011).len, hil']
      intro _ _
      refine D_Xg rfl rfl (b := false) (by simp) (fun h => by cases h) (fun _ m12 hm12 _ => ⟨by simp [lateOf], ?_⟩)
      refine D_pre 11 2 [] (by simp only [List.drop_zero, List.drop_succ_cons, List.take_succ_cons, List.take_zero]; rfl) rfl rfl (fun _ _ => trivial) ?_
      simp
      intro _ _
      refine D_end fun m14 hm14 _ => ?_
      simp
      exact (hJ _ _).2 ⟨i, by simp, hm11.trans (hm12.trans hm14), by omega, hne, fun h => absurd h hil⟩
  intro f m11 hJ2
  obtain ⟨i, hf, hm11, hil, hne, hi0⟩ := (hJ _ _).1 hJ2
  clear hJ2 hJ
  have hm011 := (hm09.trans hm10).trans hm11
  have hlast : l.length < (l ++ [x]).length := by omega
  have hneR : ∀ j, j < i → RR (l ++ [x]) j ≠ RR (l ++ [x]) l.length := fun j hj h => by
    have := RR_first (by omega) hlast h
    rw [mdAt_app (by omega), mdAt_last] at this
    exact hne j hj this
  simp [hf, (hs.mono hm011).len]
  by_cases hin' : i = l.length
  · subst hin'
    have hfi := findI_last hin hc hneR
    simp [hfi]
    exact hm011
  have hil2 : i < l.length := by omega
  have hi' : ¬ (i : Int) = l.length := by omega
  obtain ⟨bi, oi, ei, g1, g2, g3⟩ := hs.elems hil2
  have hrx := bx (readB_mono (hm10.trans hm11) hb9) 2
  simp at hrx
  have g2' := (g2 m11 hm011).2
  simp [beqF hi']
  refine W_draw (fun _ _ _ => True) (by simp [maxDst]) ?_
  refine D_pre 0 7 [7] (by simp only [List.drop_zero, List.drop_succ_cons, List.take_succ_cons, List.take_zero]; rfl) rfl rfl (fun _ _ => trivial) ?_
  simp [g1, g2', hrx]
  intro _ _
  refine D_X rfl rfl fun m12 hm12 _ => ?_
  simp
  have hli := hsz l[i] (by simp)
  refine C_of (k172 ei e l[i].elems x.elems m12 (g3.mono (hm011.trans hm12)) (he.mono (hm011.trans hm12)) hli.1) ?_
  rintro _ m13 ⟨rfl, hm13⟩
  refine ⟨by simp [lateOf], ?_⟩
  refine D_end fun m14 hm14 _ => ?_
  have hm1114 := (hm12.trans hm13).trans hm14
  have hm1014 := hm11.trans hm1114
  have hm014 := hm011.trans hm1114
  by_cases hel : l[i].elems = x.elems
  · have hRR : RR (l ++ [x]) i = RR (l ++ [x]) l.length := by
      refine RR_same (by omega) hlast ?_ ?_
      · rw [mdAt_app hil2, mdAt_last]; exact hi0 hil2
      · rw [mdAt_app hil2, mdAt_last, mdAt_eq hil2]; exact hel
    have hfi := findI_some hin hc hil2 hRR hneR
    simp [hel, hfi]
    exact hm014
  simp [hel]
  refine C_of (k39 t8 (l ++ [x]) m14 (hT9.mono (hm10.trans hm1014)) ok.good ok.len hsz ok.h64 ok.names) ?_
  rintro v15 m15 ⟨hm15, hR⟩
  have hRi := ints_of_nat hR
  have hrat : ∀ j, j < l.length + 1 → ∃ b o, (∀ k, iaddrE 1 v15 (.int k (j : Nat)) = some (.ptr b o)) ∧ ∀ m', m15 <+: m' → loadE m' 1 false (.ptr b o) = some (.int .i64 (RR (l ++ [x]) j : Nat)) := fun j hj => by
    obtain ⟨b, o, h1, h2⟩ := hRi.at (i := j) (by simp [Rl_length]; omega)
    have hg : (Rl (l ++ [x]) ((l ++ [x]).length + 1))[j]? = some (RR (l ++ [x]) j) := Rl_get _ _ (by omega)
    have hg2 : (Rl (l ++ [x]) ((l ++ [x]).length + 1))[j]'(by rw [Rl_length]; omega) = RR (l ++ [x]) j := by
      have := List.getElem?_eq_getElem (l := Rl (l ++ [x]) ((l ++ [x]).length + 1)) (i := j) (by rw [Rl_length]; omega)
      rw [hg] at this; simpa using this.symm
    refine ⟨b, o, h1, fun m' hm' => ?_⟩
    rw [loadE_mono hm' h2]
    simp only [List.getElem_map, hg2]
  obtain ⟨bn, on, gn1, gn2⟩ := hrat l.length (by omega)
  simp
  obtain ⟨I, hI⟩ : ∃ I : Nat → AFrame → AMem → Prop, ∀ q f m', I q f m' ↔ (∃ j : Nat, j + q = l.length ∧ i ≤ j ∧ f = h140_2 s v15 (.int .i64 j) ∧ m15 <+: m' ∧ ∀ k, k < j → RR (l ++ [x]) k ≠ RR (l ++ [x]) l.length) := ⟨_, fun _ _ _ => Iff.rfl⟩
  refine W_loop I (l.length - i) ((hI _ _ _).2 ⟨i, by omega, by omega, by simp, List.prefix_refl _, hneR⟩) ?_
  rintro q f m16 hIn
  obtain ⟨j, hj, hij, rfl, hm16, hnk⟩ := (hI _ _ _).1 hIn
  clear hIn
  have hm016 := (hm014.trans hm15).trans hm16
  simp [(hs.mono hm016).len]
  refine bbind_dec (fun hjl => ?_) fun hjl => ?_
  · have hjl : j < l.length := by omega
    have hw := step64 hjl (by omega)
    obtain ⟨q, rfl⟩ : ∃ q', q = q' + 1 := ⟨q - 1, by omega⟩
    obtain ⟨bj, oj, gj1, gj2⟩ := hrat j (by omega)
    have gj := gj2 m16 hm16
    have gn := gn2 m16 hm16
    simp
    refine W_drawPR (by simp [maxDst]) rfl rfl ?_
    simp [gj1, gj, (hs.mono hm016).len, gn1, gn]
    intro m17 hm17
    by_cases hRR : RR (l ++ [x]) j = RR (l ++ [x]) l.length
    · have hfi := findI_some hin hc hjl hRR hnk
      simp [hRR, hfi]
      exact hm016.trans hm17
    · have hRR' : ¬ ((RR (l ++ [x]) j : Nat) : Int) = (RR (l ++ [x]) l.length : Nat) := by omega
      simp [beqF hRR', hw]
      refine ⟨q, by omega, (hI _ _ _).2 ⟨j + 1, by omega, by omega, by simp, hm16.trans hm17, fun k hk => ?_⟩⟩
      by_cases hkj : k = j
      · subst hkj; exact hRR
      · exact hnk k (by omega)
  · have hfi := findI_last hin hc fun k hk => hnk k (by omega)
    simp [hfi]
    exact hm016
end Go.Proofs.YtheadodblifklaaGreat

namespace Go.Proofs.YtheadodblifklaaGreat
open Go Ax
set_option maxRecDepth 100000
set_option maxHeartbeats 8000000 in
theorem k101 (s : AVal) (c : List AVal) (l : List Md) (x : Md) (m : AMem) (hs : RTab m s l) (hx : RMode m c x) (hsz : ∀ y ∈ l ++ [x], smallN y) (h40 : ∀ y ∈ l ++ [x], y.elems.length < 2 ^ 40 ∧ y.names.length < 2 ^ 40) (hn : l.length < 2 ^ 20) :
    ACalls Tryz.prog 101 [s, .agg c] m fun v m' => m <+: m' ∧ ∃ t, v = .tuple [t, .int .i64 (putI l x).2.1, .int .i64 (putI l x).2.2] ∧ RTab m' t (putI l x).1 := by
  have hx0 := hx
  have hcl := hx.all
  obtain ⟨e, nm, rfl, he, hnm⟩ := hx
  refine w101 ?_
  have h1 := Sl.one he
  have h2 := Sl.one hnm
  simp [h1, h2]
  have hb0 := readB_new m [.int .i64 x.kind, .int .i64 x.size, e, nm, .int .i64 x.dims, .bool x.flex] 49 none
  have hm01 : m <+: m ++ [.own [.int .i64 x.kind, .int .i64 x.size, e, nm, .int .i64 x.dims, .bool x.flex] 49 none] := List.prefix_append _ _
  generalize m ++ [.own [.int .i64 x.kind, .int .i64 x.size, e, nm, .int .i64 x.dims, .bool x.flex] 49 none] = m1 at *
  generalize m.length = b3 at *
  have hlL : (l ++ [x]).length = l.length + 1 := by simp
  have hx40 := h40 x (by simp)
  refine C_of (k70 s l m1 (hs.mono hm01) (fun y hy => hsz y (by simp [hy])) (by omega)) ?_
  rintro _ m2 ⟨rfl, hm2⟩
  have hm02 := hm01.trans hm2
  by_cases hc : checkI l = 0
  rotate_left
  · have hp : putI l x = ([], 0, checkI l) := by
      unfold putI
      rw [if_pos hc]
    simp [bneT hc, hp]
    exact ⟨hm02, RTab.nil0 _⟩
  have hp : putI l x = match findI l x with
      | some i => (l, (i : Int), 0)
      | none => if checkI (l ++ [x]) ≠ 0 then ([], 0, checkI (l ++ [x])) else (l ++ [x], (l.length : Int), 0) := by
    unfold putI
    rw [if_neg (by simp [hc])]
    all_goals (cases findI l x <;> rfl)
  have hr2 := bxW (readB_mono hm2 hb0) 6
  simp [readN] at hr2
  simp [hc, hr2]
  refine C_of (k140 s _ l x m2 (hs.mono hm02) (hx0.mono hm02) hsz h40 hn) ?_
  rintro _ m3 ⟨hm3, rfl⟩
  have hm03 := hm02.trans hm3
  cases hf : findI l x with
  | some i =>
    rw [hf] at hp
    simp only at hp
    simp
    refine C_of (k139 s l m3 (hs.mono hm03) (fun y hy => h40 y (by simp [hy])) hn) ?_
    rintro t4 m4 ⟨hm4, hT⟩
    simp [hp]
    exact ⟨hm03.trans hm4, hT.tab⟩
  | none =>
    rw [hf] at hp
    simp only at hp
    simp
    have hb3 := readB_mono (hm2.trans hm3) hb0
    refine W_draw (fun _ _ _ => True) (by simp [maxDst]) ?_
    have hr3 := bxW hb3 6
    simp [readN] at hr3
    refine D_pre 0 1 [2, 1, 3, 4, 5, 6] (by simp only [List.drop_zero, List.drop_succ_cons, List.take_succ_cons, List.take_zero]; rfl) rfl rfl (fun _ _ => trivial) ?_
    simp
    intro _ _
    refine D_R rfl trivial ⟨_, List.prefix_refl _, fun _ h => by cases h⟩ ?_
    simp [hr3]
    refine D_X rfl rfl fun m4 hm4 _ => ?_
    simp
    refine C_of (k139 s l m4 (hs.mono (hm03.trans hm4)) (fun y hy => h40 y (by simp [hy])) hn) ?_
    rintro t5 m5 ⟨hm5, hT⟩
    refine ⟨by simp [lateOf, ROp.ev, readB_mono (hm4.trans hm5) hb3, readN], ?_⟩
    refine D_X rfl rfl fun m6 hm6 _ => ?_
    simp
    refine C_of (k141 _ x m6 (hx0.mono (((hm03.trans hm4).trans hm5).trans hm6)) hx40) ?_
    rintro _ m7 ⟨hm7, c7, rfl, hM⟩
    refine ⟨by simp [lateOf], ?_⟩
    have hcl7 := hM.mode.all
    obtain ⟨e7, nm7, hc7, _, _⟩ := id hM
    have hfill : fillA [.int .i64 0, .int .i64 0, .nilslice, .nilslice, .int .i64 0, .bool false] [(0, 6, .agg c7)] = some c7 := by
      subst hc7
      have h := hcl7.2
      simp only [List.all_cons, List.all_nil, Bool.and_eq_true] at h
      simp [fillA, setN, h.2.2.1, h.2.2.2.1]
    refine D_A rfl trivial ?_
    simp [hfill]
    intro b'
    refine D_W rfl rfl fun m8 hm8 hf8 => ?_
    have h8 := hf8 4
    simp [upd] at h8
    have hm58 := (hm6.trans hm7).trans hm8
    obtain ⟨t9, m9, happ, hch9, hT9, _⟩ := (hT.mono hm58).pushM (by have := hm5.length_le; have := hm58.length_le; omega) (hM.mono hm8) (fun b hb => by have := (hT.blk_lo hb).2; have := hm6.length_le; omega) (by omega)
    simp [lit6' h8 hcl7.1, happ]
    refine D_P rfl trivial ?_
    simp
    refine D_end fun m10 hm10 _ => ?_
    have hm49 : m4 <+: m9 := hch9.pre (hm5.trans hm58) fun b hb h => by have := (hT.blk_lo h).1; omega
    have hm310 := (hm4.trans hm49).trans hm10
    have hm010 := hm03.trans hm310
    have hT10 := (hT9.mono hm10).tab
    simp
    refine C_of (k70 t9 (l ++ [x]) m10 hT10 hsz (by omega)) ?_
    rintro _ m11 ⟨rfl, hm11⟩
    by_cases hc2 : checkI (l ++ [x]) = 0
    · rw [if_neg (by simp [hc2])] at hp
      simp [hc2, hp, (hs.mono (hm010.trans hm11)).len]
      exact ⟨hm010.trans hm11, hT10.mono hm11⟩
    · rw [if_pos hc2] at hp
      simp [bneT hc2, hp]
      exact ⟨hm010.trans hm11, RTab.nil0 _⟩
theorem k100 (s r : AVal) (l : List Md) (x : Nat) (hx : x < l.length) (m : AMem) (hs : RTab m s l) (hr : OwL natI m.length m 3 r (Rl l (l.length + 1)) ∨ RInts m r ((Rl l (l.length + 1)).map fun z : Nat => (z : Int))) (h40 : ∀ y ∈ l, y.elems.length < 2 ^ 40 ∧ y.names.length < 2 ^ 40) (hn : l.length < 2 ^ 20) :
    ACalls Tryz.prog 100 [s, r, .int .i64 x] m fun v m' => m <+: m' ∧ ∃ t, v = .tuple [t, .int .i64 (fidx (fun i => RR l i == RR l x) 0 l.length), .int .i64 0] ∧ RTab m' t l := by
  have hRi : RInts m r ((Rl l (l.length + 1)).map fun z : Nat => (z : Int)) := by
    rcases hr with h | h
    · exact ints_of_nat h
    · exact h
  refine w100 ?_
  have hrat : ∀ j, j < l.length → ∃ b o, (∀ k, iaddrE 1 r (.int k (j : Nat)) = some (.ptr b o)) ∧ ∀ m', m <+: m' → loadE m' 1 false (.ptr b o) = some (.int .i64 (RR l j : Nat)) := fun j hj => by
    obtain ⟨b, o, h1, h2⟩ := hRi.at (i := j) (by simp [Rl_length]; omega)
    have hg : (Rl l (l.length + 1))[j]? = some (RR l j) := Rl_get _ _ (by omega)
    have hg2 : (Rl l (l.length + 1))[j]'(by rw [Rl_length]; omega) = RR l j := by
      have := List.getElem?_eq_getElem (l := Rl l (l.length + 1)) (i := j) (by rw [Rl_length]; omega)
      rw [hg] at this; simpa using this.symm
    refine ⟨b, o, h1, fun m' hm' => ?_⟩
    rw [loadE_mono hm' h2]
    simp only [List.getElem_map, hg2]
  obtain ⟨bx', ox, gx1, gx2⟩ := hrat x hx
  simp
  obtain ⟨I, hI⟩ : ∃ I : Nat → AFrame → AMem → Prop, ∀ q f m', I q f m' ↔ (∃ j : Nat, j + q = l.length ∧ f = h100_0 s r (.int .i64 x) (.int .i64 j) ∧ m <+: m' ∧ ∀ k, k < j → RR l k ≠ RR l x) := ⟨_, fun _ _ _ => Iff.rfl⟩
  refine W_loop I l.length ((hI _ _ _).2 ⟨0, by omega, by simp, List.prefix_refl _, fun _ h => by omega⟩) ?_
  rintro q f m1 hIn
  obtain ⟨j, hj, rfl, hm1, hnk⟩ := (hI _ _ _).1 hIn
  clear hIn
  simp [(hs.mono hm1).len]
  refine bbind_dec (fun hjl => ?_) fun hjl => ?_
  · have hjl : j < l.length := by omega
    have hw := step64 hjl (by omega)
    obtain ⟨q, rfl⟩ : ∃ q', q = q' + 1 := ⟨q - 1, by omega⟩
    obtain ⟨bj, oj, gj1, gj2⟩ := hrat j hjl
    have gj := gj2 m1 hm1
    have gx := gx2 m1 hm1
    simp
    refine W_drawPR (by simp [maxDst]) rfl rfl ?_
    simp [gj1, gj, gx1, gx]
    intro m2 hm2
    by_cases hRR : RR l j = RR l x
    · have hF := fidx_at (p := fun i => RR l i == RR l x) l.length 0 j (by omega) (by omega) (by simpa using hRR) fun k _ hk => by simpa using hnk k hk
      simp [hRR]
      refine C_of (k139 s l m2 (hs.mono (hm1.trans hm2)) h40 hn) ?_
      rintro t3 m3 ⟨hm3, hT⟩
      rw [hF]
      simp
      exact ⟨(hm1.trans hm2).trans hm3, hT.tab⟩
    · have hRR' : ¬ ((RR l j : Nat) : Int) = (RR l x : Nat) := by omega
      simp [beqF hRR', hw]
      refine ⟨q, by omega, (hI _ _ _).2 ⟨j + 1, by omega, by simp, hm1.trans hm2, fun k hk => ?_⟩⟩
      by_cases hkj : k = j
      · subst hkj; exact hRR
      · exact hnk k (by omega)
  · exact absurd rfl (hnk x (by omega))
end Go.Proofs.YtheadodblifklaaGreat

namespace Go.Proofs.YtheadodblifklaaGreat
open Go Ax
set_option maxRecDepth 100000
theorem W_JBB {k j : Nat} {x : CC} {next : AFrame → AMem → Prop} {Q : AEx → AFrame → AMem → Prop} {t : Tag (x, AEx.inBlock k (AEx.inBlock j (AEx.then next Q)))} {a : AFrame} {m : AMem} (J : AFrame → AMem → Prop)
    (h1 : W Tryz.prog x (AEx.inBlock k (AEx.inBlock j (AEx.then J Q))) .mk a m) (h2 : ∀ a m, J a m → next a m) : W Tryz.prog x (AEx.inBlock k (AEx.inBlock j (AEx.then next Q))) t a m := by
  have h0 : ∀ e a m, AEx.inBlock j (AEx.then J Q) e a m → AEx.inBlock j (AEx.then next Q) e a m := fun e a m h => by
    cases e with
    | normal => exact h2 _ _ h
    | exit i =>
      simp only [AEx.inBlock] at h ⊢
      split
      · rename_i hi; rw [if_pos hi] at h; exact h2 _ _ h
      · rename_i hi; rw [if_neg hi] at h; exact h
    | ret => exact h
  refine W_mono (fun e a m h => ?_) h1
  cases e with
  | normal => exact h0 .normal a m h
  | exit i =>
    simp only [AEx.inBlock] at h ⊢
    by_cases hi : i = k
    · rw [if_pos hi] at h ⊢; exact h0 .normal a m h
    · rw [if_neg hi] at h ⊢; exact h0 (.exit i) a m h
  | ret => exact h0 .ret a m h
structure UpTo (f : Nat → Nat) (ms : List Nat) (r : Nat) (zs : List Nat) : Prop where
  asc : zs.Pairwise (fun a b => f a < f b)
  sub : ∀ z ∈ zs, z ∈ ms ∧ f z < r
  cov : ∀ y ∈ ms, f y < r → ∃ z ∈ zs, f z = f y ∧ z ≤ y
theorem UpTo.skip {f : Nat → Nat} {ms : List Nat} {r : Nat} {zs : List Nat} (h : UpTo f ms r zs) (hn : ∀ y ∈ ms, f y ≠ r) : UpTo f ms (r + 1) zs :=
  ⟨h.asc, fun z hz => ⟨(h.sub z hz).1, by have := (h.sub z hz).2; omega⟩, fun y hy hl => h.cov y hy (by have := hn y hy; omega)⟩
theorem UpTo.take {f : Nat → Nat} {ms : List Nat} {r : Nat} {zs : List Nat} (h : UpTo f ms r zs) {k : Nat} (hk : k ∈ ms) (hr : f k = r) (hl : ∀ y ∈ ms, f y = r → k ≤ y) : UpTo f ms (r + 1) (zs ++ [k]) := by
  refine ⟨?_, fun z hz => ?_, fun y hy hlt => ?_⟩
  · rw [List.pairwise_append]
    refine ⟨h.asc, by simp, fun a ha b hb => ?_⟩
    simp at hb
    subst hb
    have := (h.sub a ha).2
    omega
  · rcases List.mem_append.1 hz with hz | hz
    · exact ⟨(h.sub z hz).1, by have := (h.sub z hz).2; omega⟩
    · simp at hz; subst hz; exact ⟨hk, by omega⟩
  · by_cases he : f y = r
    · exact ⟨k, by simp, by omega, hl y hy he⟩
    · obtain ⟨z, h1, h2⟩ := h.cov y hy (by omega)
      exact ⟨z, by simp [h1], h2⟩
set_option maxHeartbeats 8000000 in
theorem k99 (rs t : AVal) (rk ms : List Nat) (m : AMem) (hr : RInts m rs (rk.map fun z : Nat => (z : Int))) (ht : RInts m t (ms.map fun z : Nat => (z : Int))) (hms : ∀ y ∈ ms, y < rk.length ∧ rk.getD y 0 < rk.length) (hn : rk.length < 2 ^ 20) (hm20 : ms.length < 2 ^ 30) :
    ACalls Tryz.prog 99 [rs, t] m fun v m' => m <+: m' ∧ ∃ zs, OwL natI m.length m' 3 v zs ∧ SortedBy (fun a => rk.getD a 0) ms zs := by
  refine w99 ?_
  have hlr : ∀ m', m <+: m' → lenE rs = some (.int .i64 rk.length) := fun m' h => by have := (hr.mono h).len; rw [List.length_map] at this; exact this
  have hlt : ∀ m', m <+: m' → lenE t = some (.int .i64 ms.length) := fun m' h => by have := (ht.mono h).len; rw [List.length_map] at this; exact this
  have hlr0 := hlr m (List.prefix_refl _)
  have hlt0 := hlt m (List.prefix_refl _)
  simp
  obtain ⟨I, hI⟩ : ∃ I : Nat → AFrame → AMem → Prop, ∀ q f m', I q f m' ↔ (∃ (r : Nat) (o : AVal) (zs : List Nat), r + q = rk.length ∧ f = h99_0 rs t o (.int .i64 r) ∧ m <+: m' ∧ OwL natI m.length m' 3 o zs ∧ zs.length ≤ r ∧ UpTo (fun a => rk.getD a 0) ms r zs) := ⟨_, fun _ _ _ => Iff.rfl⟩
  refine W_loop I rk.length ((hI _ _ _).2 ⟨0, .nilslice, [], by simp, by simp, List.prefix_refl _, OwL.nil, by simp, .nil, by simp, fun _ _ h => by omega⟩) ?_
  rintro q f m1 hIn
  obtain ⟨r, o, zs, hq, rfl, hm1, hO, hzr, hU⟩ := (hI _ _ _).1 hIn
  clear hIn
  simp [hlr0]
  refine bbind_dec (fun hrl => ?_) fun hrl => ?_
  rotate_left
  · have : r = rk.length := by omega
    subst this
    simp
    exact ⟨hm1, zs, hO, hU.asc, fun z hz => (hU.sub z hz).1, fun y hy => hU.cov y hy (hms y hy).2⟩
  have hrl : r < rk.length := by omega
  have hwr := step64 hrl (by omega)
  simp
  obtain ⟨J, hJ⟩ : ∃ J : AFrame → AMem → Prop, ∀ f m', J f m' ↔ (∃ (o : AVal) (zs : List Nat), f.forget [0, 1, 5, 6] = mat 49 [(0, rs), (1, t), (5, o), (6, .int .i64 r)] ∧ m <+: m' ∧ OwL natI m.length m' 3 o zs ∧ zs.length ≤ r + 1 ∧ UpTo (fun a => rk.getD a 0) ms (r + 1) zs) := ⟨_, fun _ _ => Iff.rfl⟩
  refine W_JBB J ?_ ?_
  rotate_left
  · intro f m2 hJ2
    obtain ⟨o, zs, hf, hm2, hO, hzr, hU⟩ := (hJ _ _).1 hJ2
    simp [hf, hwr]
    exact ⟨q - 1, by omega, (hI _ _ _).2 ⟨r + 1, o, zs, by omega, by simp, hm2, hO, hzr, hU⟩⟩
  obtain ⟨I1, hI1⟩ : ∃ I : Nat → AFrame → AMem → Prop, ∀ q f m', I q f m' ↔ (∃ k : Nat, k + q = rk.length ∧ f = h99_1 rs t o (.int .i64 r) (.int .i64 k) ∧ m1 <+: m' ∧ ∀ y ∈ ms, y < k → rk.getD y 0 ≠ r) := ⟨_, fun _ _ _ => Iff.rfl⟩
  refine W_loop I1 rk.length ((hI1 _ _ _).2 ⟨0, by simp, by simp, List.prefix_refl _, fun _ _ h => by omega⟩) ?_
  rintro q1 f m2 hIn
  obtain ⟨k, hk, rfl, hm2, hne⟩ := (hI1 _ _ _).1 hIn
  clear hIn
  have hm02 := hm1.trans hm2
  simp [hlr0]
  refine bbind_dec (fun hkl => ?_) fun hkl => ?_
  rotate_left
  · simp
    exact (hJ _ _).2 ⟨o, zs, by simp, hm02, hO.mono hm2, by omega, hU.skip fun y hy => hne y hy (by have := (hms y hy).1; omega)⟩
  have hkl : k < rk.length := by omega
  have hwk := step64 hkl (by omega)
  obtain ⟨q1, rfl⟩ : ∃ q', q1 = q' + 1 := ⟨q1 - 1, by omega⟩
  obtain ⟨bk, ok, g1, g2⟩ := ranksAt hr (x := k) hkl
  have g2' := g2 m2 hm02
  obtain ⟨dk, hdk⟩ : ∃ d, rk.getD k 0 = d := ⟨_, rfl⟩
  rw [hdk] at g2'
  clear g2
  simp [g1, g2']
  by_cases hrk : dk = r
  rotate_left
  · have hrk' : ¬ (dk : Int) = r := by omega
    simp [bneT hrk', hwk]
    refine ⟨q1, by omega, (hI1 _ _ _).2 ⟨k + 1, by omega, by simp, hm2, fun y hy hyk => ?_⟩⟩
    by_cases he : y = k
    · subst he; rw [hdk]; exact hrk
    · exact hne y hy (by omega)
  subst hrk
  simp
  obtain ⟨J2, hJ2⟩ : ∃ J : AFrame → AMem → Prop, ∀ f m', J f m' ↔ (f.forget [0, 1, 5, 6, 7, 8] = mat 49 [(0, rs), (1, t), (5, o), (6, .int .i64 dk), (7, .int .i64 k), (8, .bool (decide (k ∈ ms)))] ∧ m2 <+: m') := ⟨_, fun _ _ => Iff.rfl⟩
  refine W_JB J2 ?_ ?_
  · obtain ⟨I2, hI2⟩ : ∃ I : Nat → AFrame → AMem → Prop, ∀ q f m', I q f m' ↔ (∃ i : Nat, i + q = ms.length ∧ f = h99_2 rs t o (.int .i64 dk) (.int .i64 k) (.bool (decide (k ∈ ms.take i))) (.int .i64 i) ∧ m2 <+: m') := ⟨_, fun _ _ _ => Iff.rfl⟩
    refine W_loop I2 ms.length ((hI2 _ _ _).2 ⟨0, by simp, by simp, List.prefix_refl _⟩) ?_
    rintro q2 f m3 hIn
    obtain ⟨i, hi, rfl, hm3⟩ := (hI2 _ _ _).1 hIn
    clear hIn
    simp [hlt0]
    refine bbind_dec (fun hil => ?_) fun hil => ?_
    · have hil : i < ms.length := by omega
      have hwi := step64 hil (by omega)
      obtain ⟨q2, rfl⟩ : ∃ q', q2 = q' + 1 := ⟨q2 - 1, by omega⟩
      obtain ⟨bi, oi, gi1, gi2⟩ := (ht.mono (hm02.trans hm3)).at (i := i) (by simpa using hil)
      simp at gi2
      have htk : decide (k ∈ ms.take (i + 1)) = (decide (k ∈ ms.take i) || decide ((ms[i] : Nat) = k)) := by
        rw [List.take_add_one, List.getElem?_eq_getElem hil, Bool.eq_iff_iff, decide_eq_true_iff, Bool.or_eq_true, decide_eq_true_iff, decide_eq_true_iff, List.mem_append]
        simp only [Option.toList, List.mem_singleton]
        exact ⟨fun h => h.imp id Eq.symm, fun h => h.imp id Eq.symm⟩
      by_cases hin : k ∈ ms.take i
      · simp [hin, hwi]
        refine ⟨q2, by omega, (hI2 _ _ _).2 ⟨i + 1, by omega, ?_, hm3⟩⟩
        rw [htk]
        simp [hin]
      · have hcast : (((ms[i] : Nat) : Int) == (k : Int)) = decide ((ms[i] : Nat) = k) := by
          rw [Bool.eq_iff_iff, decide_eq_true_iff]; simp; omega
        simp [hin, gi1, gi2, hcast, hwi]
        refine ⟨q2, by omega, (hI2 _ _ _).2 ⟨i + 1, by omega, ?_, hm3⟩⟩
        rw [htk]
        simp [hin]
    · have : i = ms.length := by omega
      subst this
      simp
      exact (hJ2 _ _).2 ⟨by simp, hm3⟩
  · intro f m3 hJ3
    obtain ⟨hf, hm3⟩ := (hJ2 _ _).1 hJ3
    clear hJ3 hJ2
    have hm03 := hm02.trans hm3
    simp [hf]
    by_cases hin : k ∈ ms
    · have hm3A : m3 <+: m3 ++ [.own [.int .i64 (k : Nat)] 3 none] := List.prefix_append _ _
      have hlo : m.length ≤ (m3 ++ [ABlk.own [.int .i64 ((k : Nat) : Int)] 3 none]).length := by have := hm03.length_le; simp; omega
      obtain ⟨o', m4, happ, hch4, hO4, hbl⟩ := ((hO.mono (hm2.trans hm3)).mono hm3A).push hlo (by_ := 8) (by decide) k (by omega)
      simp only [natI] at happ
      simp [hin, fillA, setN, happ]
      exact (hJ _ _).2 ⟨o', zs ++ [k], by simp, hch4.pre (hm03.trans hm3A) fun b hb e => by have := (hO.blk_lo e).1; omega, hO4, by simp; omega, hU.take hin hdk fun y hy he => by
        rcases Nat.lt_or_ge y k with h | h
        · exact absurd he (hne y hy h)
        · exact h⟩
    · simp [hin, hwk]
      refine ⟨q1, by omega, (hI1 _ _ _).2 ⟨k + 1, by omega, by simp, hm2.trans hm3, fun y hy hyk => ?_⟩⟩
      by_cases he : y = k
      · subst he; exact absurd hy hin
      · exact hne y hy (by omega)
end Go.Proofs.YtheadodblifklaaGreat

namespace Go.Proofs.YtheadodblifklaaGreat
open Go Ax
open Relation
set_option maxRecDepth 100000
theorem rlAt {m : AMem} {r : AVal} {l : List Md} (h : RInts m r ((Rl l (l.length + 1)).map fun z : Nat => (z : Int))) {j : Nat} (hj : j < l.length) : ∃ b o, (∀ k, iaddrE 1 r (.int k (j : Nat)) = some (.ptr b o)) ∧ ∀ m', m <+: m' → loadE m' 1 false (.ptr b o) = some (.int .i64 (RR l j : Nat)) := by
  obtain ⟨b, o, h1, h2⟩ := h.at (i := j) (by simp [Rl_length]; omega)
  have hg : (Rl l (l.length + 1))[j]? = some (RR l j) := Rl_get _ _ hj
  have hg2 : (Rl l (l.length + 1))[j]'(by rw [Rl_length]; omega) = RR l j := by
    have := List.getElem?_eq_getElem (l := Rl l (l.length + 1)) (i := j) (by rw [Rl_length]; omega)
    rw [hg] at this; simpa using this.symm
  refine ⟨b, o, h1, fun m' hm' => ?_⟩
  rw [loadE_mono hm' h2]
  simp only [List.getElem_map, hg2]
theorem k64 (s : AVal) (l : List Md) (i : Nat) (hi : i < l.length) (m : AMem) (hs : RTab m s l) (hsz : ∀ x ∈ l, smallN x) (hc : checkI l = 0) :
    ACalls Tryz.prog 64 [s, .int .i64 i] m fun v m' => m <+: m' ∧ ∃ b, v = .bool b ∧ (b = true ↔ FlexP l i) := by
  refine w64 ?_
  have ok := okT_of hc
  simp
  refine C_of (k70 s l m hs hsz (by have := ok.len; omega)) ?_
  rintro _ m1 ⟨rfl, hm1⟩
  have hil : (i : Int) < l.length := by omega
  have hl1 := (hs.mono hm1).len
  have hle : (l.length : Int) ≤ 281474976710656 := by have := ok.len; omega
  have hle2 : (l.length : Int) ≤ 9223372036854775807 := by omega
  simp [hc, hl1, hil, hle, hle2]
  have hN := OwL.rep (f := AVal.bool) m1 4 l.length false
  have hm12 : m1 <+: m1 ++ [.own (List.replicate l.length (AVal.bool false)) 4 none] := List.prefix_append _ _
  have hlo := hm12.length_le
  generalize m1 ++ [.own (List.replicate l.length (AVal.bool false)) 4 none] = m2 at *
  refine C_of (k105 s l m hs ok.good ok.acy ok.len hsz m1.length hm1.length_le _ (hgt l i + 1) i hi (by omega) m2 (List.replicate l.length false) (hm1.trans hm12) hN (by simp) (fun j h => by
    rw [List.getElem?_replicate] at h
    split at h <;> simp at h)) ?_
  rintro _ m3 ⟨hm3, ⟨b, rfl, hb⟩, _⟩
  simp
  refine ⟨hm3, ?_⟩
  cases b
  · exact .inl ⟨rfl, fun h => by have := hb.2 h; cases this⟩
  · exact .inr ⟨rfl, hb.1 rfl⟩
theorem part_nflex {l : List Md} (hc : checkI l = 0) {u j : Nat} (h : IsPart l u j) : ¬ FlexP l j := by
  have key : ∀ x ∈ l, flexOf x = true → ∀ e ∈ x.elems, ¬ FlexP l e.toNat := by
    unfold checkI at hc
    split at hc
    · omega
    · split at hc
      · rename_i h1 h2; exact absurd hc h2
      · split at hc
        · omega
        · split at hc
          · omega
          · split at hc
            · omega
            · rename_i h5
              intro x hx hf e he hp
              exact h5 ⟨x, hx, hf, e, he, hp⟩
  have last : ∃ z, stepR l isU z j := by
    have := h.1
    cases this with
    | single h => exact ⟨_, h⟩
    | tail _ h => exact ⟨_, h⟩
  obtain ⟨z, x, h1, h2, h3⟩ := last
  have := key x (List.mem_of_getElem? h1) (by unfold isU at h2; unfold flexOf; simp at h2 ⊢; omega) _ h3
  simpa using this
theorem base_nflex {l : List Md} (hc : checkI l = 0) {u j : Nat} (hu : isU (mdAt l u) = true) (h : IsBase l u j) : ¬ FlexP l j := by
  unfold IsBase at h
  rw [if_pos hu] at h
  exact part_nflex hc h
end Go.Proofs.YtheadodblifklaaGreat

namespace Go.Proofs.YtheadodblifklaaGreat
open Go Ax
set_option maxRecDepth 100000
open Classical in
noncomputable def sameB (l : List Md) (ys zs : List Nat) : Bool := decide (ys.length = zs.length ∧ ∀ (k : Nat) (y z : Nat), ys[k]? = some y → zs[k]? = some z → RR l y = RR l z)
noncomputable def leastI (l : List Md) (p : Nat) : Int := fidx (fun i => RR l i == RR l p) 0 l.length
noncomputable def joinI (l : List Md) (all ps : List Nat) : List Md × Int × Int :=
  if all.length = 1 then (l, leastI l (all.getD 0 0), 0)
  else match ps.find? (fun p => isU (mdAt l p) && sameB l (basesOf l p) all) with
    | some p => (l, leastI l p, 0)
    | none => putI l (unionOf all)
theorem find_at {α : Type} {q : α → Bool} : ∀ {ps : List α} {i : Nat} {p : α}, ps[i]? = some p → q p = true → (∀ (j : Nat) y, j < i → ps[j]? = some y → q y = false) → ps.find? q = some p
  | [], i, p, h, _, _ => by simp at h
  | y :: ps, 0, p, h, hq, _ => by simp at h; subst h; simp [hq]
  | y :: ps, i + 1, p, h, hq, hn => by
    have h0 := hn 0 y (by omega) rfl
    rw [List.find?_cons, h0]
    exact find_at (by simpa using h) hq fun j z hj hz => hn (j + 1) z (by omega) (by simpa using hz)
set_option maxHeartbeats 8000000 in
open Classical in
theorem k57 (s t tp : AVal) (l : List Md) (ms ps : List Nat) (m : AMem) (hs : RTab m s l) (ht : RInts m t (ms.map fun z : Nat => (z : Int))) (hp : RInts m tp (ps.map fun z : Nat => (z : Int))) (hc : checkI l = 0) (hms : ∀ y ∈ ms, y < l.length) (hmf : ∀ y ∈ ms, ¬ FlexP l y) (hps : ∀ y ∈ ps, y < l.length) (hsz : ∀ y ∈ l, smallN y) (h40 : ∀ y ∈ l, y.elems.length < 2 ^ 40 ∧ y.names.length < 2 ^ 40) (hn : l.length ≤ 60) (hml : ms.length < 2 ^ 30) (hpl : ps.length < 2 ^ 30) :
    ACalls Tryz.prog 57 [s, t, tp] m fun v m' => m <+: m' ∧ ∃ t' all, SortedBy (RR l) ms all ∧ v = .tuple [t', .int .i64 (joinI l all ps).2.1, .int .i64 (joinI l all ps).2.2] ∧ RTab m' t' (joinI l all ps).1 := by
  have ok := okT_of hc
  refine w57 ?_
  simp
  refine C_of (k39 s l m hs ok.good ok.len hsz ok.h64 ok.names) ?_
  rintro v9 m1 ⟨hm1, hR⟩
  have hRi := ints_of_nat hR
  have hrl := Rl_length l (l.length + 1)
  simp
  refine C_of (k99 v9 t (Rl l (l.length + 1)) ms m1 hRi (ht.mono hm1) (fun y hy => ?_) (by rw [hrl]; omega) hml) ?_
  · rw [hrl]
    refine ⟨hms y hy, ?_⟩
    rw [Rl_getD l _ (hms y hy)]
    exact R_bound l _ (hms y hy)
  rintro v10 m2 ⟨hm2, all, hA, hsb⟩
  have hsb' : SortedBy (RR l) ms all := hsb.congr (n := l.length) hms (fun x hx => Rl_getD l _ hx)
  have hall : ∀ z ∈ all, z < l.length := fun z hz => hms z (hsb'.sub z hz)
  have halln : all.length ≤ l.length := nodup_le l.length all (hsb'.asc.imp fun hab => by intro e; subst e; omega) hall
  have hm02 := hm1.trans hm2
  have hAi := ints_of_nat hA
  have hAl := hA.len
  have hR2 := hRi.mono hm2
  simp [hAl]
  by_cases h1 : all.length = 1
  · have hz0 : all.getD 0 0 = all[0] := by simp [List.getD, h1]
    have hj : joinI l all ps = (l, leastI l all[0], 0) := by unfold joinI; rw [if_pos h1, hz0]
    obtain ⟨bt, ot, g1, g2⟩ := hAi.at (i := 0) (by simp; omega)
    simp at g2
    have g1' := g1 .i64
    simp at g1'
    simp [h1, g1', g2]
    refine C_of (k100 s v9 l all[0] (hall _ (List.getElem_mem _)) m2 (hs.mono hm02) (.inr hR2) h40 (by omega)) ?_
    rintro _ m3 ⟨hm3, t', rfl, hT⟩
    simp
    refine ⟨hm02.trans hm3, t', all, hsb', ?_, ?_⟩
    · rw [hj]; simp [leastI]
    · rw [hj]; exact hT
  have h1' : ¬ (all.length : Int) = 1 := by omega
  have hj : joinI l all ps = match ps.find? (fun p => isU (mdAt l p) && sameB l (basesOf l p) all) with
      | some p => (l, leastI l p, 0)
      | none => putI l (unionOf all) := by
    unfold joinI
    rw [if_neg h1]
  simp [beqF h1']
  obtain ⟨J, hJ⟩ : ∃ J : AFrame → AMem → Prop, ∀ f m', J f m' ↔ (f.forget [0, 10] = mat 116 [(0, s), (10, v10)] ∧ m2 <+: m' ∧ ps.find? (fun p => isU (mdAt l p) && sameB l (basesOf l p) all) = none) := ⟨_, fun _ _ => Iff.rfl⟩
  refine W_JB J ?_ ?_
  · obtain ⟨I, hI⟩ : ∃ I : Nat → AFrame → AMem → Prop, ∀ q f m', I q f m' ↔ (∃ i : Nat, i + q = ps.length ∧ f = h57_0 s tp v9 v10 (.int .i64 i) ∧ m2 <+: m' ∧ ∀ (j : Nat) p, j < i → ps[j]? = some p → (isU (mdAt l p) && sameB l (basesOf l p) all) = false) := ⟨_, fun _ _ _ => Iff.rfl⟩
    refine W_loop I ps.length ((hI _ _ _).2 ⟨0, by simp, by simp, List.prefix_refl _, fun _ _ h => by omega⟩) ?_
    rintro q f m3 hIn
    obtain ⟨i, hi, rfl, hm3, hno⟩ := (hI _ _ _).1 hIn
    clear hIn
    have hm03 := hm02.trans hm3
    have hpln := (hp.mono hm03).len
    rw [List.length_map] at hpln
    simp [hpln]
    refine bbind_dec (fun hil => ?_) fun hil => ?_
    rotate_left
    · simp
      refine (hJ _ _).2 ⟨by simp, hm3, List.find?_eq_none.2 fun p hpm => ?_⟩
      obtain ⟨j, hj', rfl⟩ := List.getElem_of_mem hpm
      have := hno j _ (by omega) (List.getElem?_eq_getElem hj')
      rw [this]
      simp
    have hil : i < ps.length := by omega
    have hw := step64 hil (by omega)
    obtain ⟨q, rfl⟩ : ∃ q', q = q' + 1 := ⟨q - 1, by omega⟩
    obtain ⟨bp, op, gp1, gp2⟩ := (hp.mono hm03).at (i := i) (by simpa using hil)
    simp at gp2
    have hpi : ps[i]? = some ps[i] := List.getElem?_eq_getElem hil
    have hpl' := hps _ (List.getElem_mem hil)
    generalize ps[i] = p at *
    obtain ⟨bx', ox, ex, gx1, gx2, _⟩ := hs.elems hpl'
    have gk := (gx2 m3 hm03).1
    have next : ∀ m4, m3 <+: m4 → (isU (mdAt l p) && sameB l (basesOf l p) all) = false → I q (h57_0 s tp v9 v10 (.int .i64 ((i : Int) + 1))) m4 := fun m4 hm4 hf => (hI _ _ _).2 ⟨i + 1, by omega, by simp, hm3.trans hm4, fun j y hj' hy => by
      by_cases hji : j = i
      · subst hji; rw [hpi] at hy; cases hy; exact hf
      · exact hno j y (by omega) hy⟩
    simp [gp1, gp2, gx1, gk]
    by_cases hk : l[p].kind = 12
    rotate_left
    · have hu : isU (mdAt l p) = false := by rw [mdAt_eq hpl']; simpa [isU] using hk
      have := next m3 (List.prefix_refl _) (by rw [hu]; rfl)
      simp [bneT hk, hw]
      exact ⟨q, by omega, by simpa using this⟩
    have hu : isU (mdAt l p) = true := by rw [mdAt_eq hpl']; simpa [isU] using hk
    simp [hk, gp1, gp2]
    refine C_of (k40 s l p m3 (hs.mono hm03) hsz hc hpl') ?_
    rintro v12 m4 ⟨hm4, ys, hys, hby⟩
    have hyl := hby.length ok.good hpl'
    have hyb := hby.lt ok.good hpl'
    obtain rfl := hby.eq
    rw [hu, Bool.true_and] at next
    have hfind : sameB l (basesOf l p) all = true → ps.find? (fun p => isU (mdAt l p) && sameB l (basesOf l p) all) = some p := fun h => find_at hpi (by rw [hu, h]; rfl) hno
    generalize basesOf l p = ys at *
    have hYi := ints_of_nat hys
    have hYl := hys.len
    have hm24 := hm3.trans hm4
    simp [hYl, hAl]
    obtain ⟨S, hS⟩ : ∃ S : Nat → Prop, ∀ k, S k ↔ (ys.length = all.length ∧ ∀ (j : Nat) (y z : Nat), j < k → ys[j]? = some y → all[j]? = some z → RR l y = RR l z) := ⟨_, fun _ => Iff.rfl⟩
    have hS0 : ((ys.length : Int) == (all.length : Int)) = decide (S 0) := by
      rw [Bool.eq_iff_iff, decide_eq_true_iff, hS]
      simp
      omega
    have hSe : ∀ k, ys.length ≤ k → decide (S k) = sameB l ys all := fun k hk => by
      unfold sameB
      rw [decide_eq_decide, hS]
      exact ⟨fun h => ⟨h.1, fun j y z h1 h2 => h.2 j y z (by have := (List.getElem?_eq_some_iff.1 h1).1; omega) h1 h2⟩, fun h => ⟨h.1, fun j y z _ h1 h2 => h.2 j y z h1 h2⟩⟩
    have hSf : ∀ k, ¬ S k → sameB l ys all = false := fun k hk => by
      cases hb : sameB l ys all
      · rfl
      · unfold sameB at hb
        rw [decide_eq_true_iff] at hb
        exact absurd ((hS k).2 ⟨hb.1, fun j y z _ h1 h2 => hb.2 j y z h1 h2⟩) hk
    rw [hS0]
    obtain ⟨J2, hJ2⟩ : ∃ J : AFrame → AMem → Prop, ∀ f m', J f m' ↔ (f.forget [0, 2, 9, 10, 11, 13] = mat 116 [(0, s), (2, tp), (9, v9), (10, v10), (11, .int .i64 i), (13, .bool (sameB l ys all))] ∧ m4 <+: m') := ⟨_, fun _ _ => Iff.rfl⟩
    refine W_JB J2 ?_ ?_
    · obtain ⟨I2, hI2⟩ : ∃ I : Nat → AFrame → AMem → Prop, ∀ q f m', I q f m' ↔ (∃ k : Nat, k + q = ys.length ∧ f = h57_1 s tp v9 v10 (.int .i64 i) v12 (.bool (decide (S k))) (.int .i64 k) ∧ m4 <+: m') := ⟨_, fun _ _ _ => Iff.rfl⟩
      refine W_loop I2 ys.length ((hI2 _ _ _).2 ⟨0, by simp, by simp, List.prefix_refl _⟩) ?_
      rintro q2 f m5 hIn
      obtain ⟨k, hkq, rfl, hm5⟩ := (hI2 _ _ _).1 hIn
      clear hIn
      simp [hYl]
      by_cases hkl : k < ys.length
      · have hkl' : (k : Int) < ys.length := by omega
        by_cases hSk : S k
        · have hlen := ((hS k).1 hSk).1
          have hwk := step64 hkl (by omega)
          have hkz : k < all.length := by omega
          obtain ⟨by', oy, hy1, hy2⟩ := (hYi.mono hm5).at (i := k) (by simpa using hkl)
          obtain ⟨bz, oz, hz1, hz2⟩ := (hAi.mono (hm24.trans hm5)).at (i := k) (by simpa using hkz)
          simp at hy2 hz2
          have hyk : ys[k]? = some ys[k] := List.getElem?_eq_getElem hkl
          have hzk : all[k]? = some all[k] := List.getElem?_eq_getElem hkz
          have hyb' := hyb _ (List.getElem_mem hkl)
          have hzb' := hall _ (List.getElem_mem hkz)
          generalize ys[k] = y at *
          generalize all[k] = z at *
          obtain ⟨b3, o3, r1, r2⟩ := rlAt hR2 hyb'
          obtain ⟨b4, o4, r3, r4⟩ := rlAt hR2 hzb'
          have r2 := r2 m5 (hm24.trans hm5)
          have r4 := r4 m5 (hm24.trans hm5)
          have hnext : (((RR l y : Nat) : Int) == ((RR l z : Nat) : Int)) = decide (S (k + 1)) := by
            rw [Bool.eq_iff_iff, decide_eq_true_iff, hS]
            simp
            constructor
            · intro he
              refine ⟨hlen, fun j a b hj' h1 h2 => ?_⟩
              by_cases hjk : j = k
              · subst hjk; rw [hyk] at h1; rw [hzk] at h2; cases h1; cases h2; omega
              · exact ((hS k).1 hSk).2 j a b (by omega) h1 h2
            · intro h
              have := h.2 k y z (by omega) hyk hzk
              omega
          simp [hkl, hSk]
          refine W_drawPR (by simp [maxDst]) rfl rfl ?_
          simp [hy1, hy2, hz1, hz2, r1, r2, r3, r4, hnext, hwk]
          intro m6 hm6
          exact ⟨q2 - 1, by omega, (hI2 _ _ _).2 ⟨k + 1, by omega, by simp, hm5.trans hm6⟩⟩
        · simp [hkl, hSk]
          exact (hJ2 _ _).2 ⟨by simp [hSf k hSk], hm5⟩
      · have hkl' : ¬ (k : Int) < ys.length := by omega
        simp [hkl]
        exact (hJ2 _ _).2 ⟨by simp [hSe k (by omega)], hm5⟩
    · intro f m5 hJ5
      obtain ⟨hf, hm5⟩ := (hJ2 _ _).1 hJ5
      clear hJ5 hJ2
      have hm05 := (hm03.trans hm4).trans hm5
      simp [hf]
      cases hsm : sameB l ys all
      · have := next m5 (hm4.trans hm5) hsm
        simp [hw]
        exact ⟨q, by omega, by simpa using this⟩
      · rw [hfind hsm] at hj
        simp only at hj
        obtain ⟨bp2, op2, gq1, gq2⟩ := (hp.mono hm05).at (i := i) (by simpa using hil)
        have gq : loadE m5 1 false (.ptr bp op) = some (.int .i64 (p : Nat)) := loadE_mono (hm4.trans hm5) gp2
        simp [gp1, gq]
        refine C_of (k100 s v9 l p hpl' m5 (hs.mono hm05) (.inr (hR2.mono (hm24.trans hm5))) h40 (by omega)) ?_
        rintro _ m6 ⟨hm6, t', rfl, hT⟩
        simp
        refine ⟨hm05.trans hm6, t', all, hsb', ?_, ?_⟩
        · rw [hj]; simp [leastI]
        · rw [hj]; exact hT
  · intro f m3 hJ3
    obtain ⟨hf, hm3, hnone⟩ := (hJ _ _).1 hJ3
    clear hJ3 hJ
    rw [hnone] at hj
    simp only at hj
    simp [hf]
    obtain ⟨J3, hJ3⟩ : ∃ J : AFrame → AMem → Prop, ∀ f m', J f m' ↔ (f.forget [0, 10] = mat 116 [(0, s), (10, v10)] ∧ m2 <+: m') := ⟨_, fun _ _ => Iff.rfl⟩
    refine W_JB J3 ?_ ?_
    · obtain ⟨I, hI⟩ : ∃ I : Nat → AFrame → AMem → Prop, ∀ q f m', I q f m' ↔ (∃ i : Nat, i + q = all.length ∧ f = h57_2 s v10 (.int .i64 i) ∧ m2 <+: m') := ⟨_, fun _ _ _ => Iff.rfl⟩
      refine W_loop I all.length ((hI _ _ _).2 ⟨0, by simp, by simp, hm3⟩) ?_
      rintro q f m4 hIn
      obtain ⟨i, hi, rfl, hm4⟩ := (hI _ _ _).1 hIn
      clear hIn
      have hm04 := hm02.trans hm4
      simp [hAl]
      refine bbind_dec (fun hil => ?_) fun hil => ?_
      · have hil : i < all.length := by omega
        have hw := step64 hil (by omega)
        obtain ⟨q, rfl⟩ : ∃ q', q = q' + 1 := ⟨q - 1, by omega⟩
        obtain ⟨bz, oz, hz1, hz2⟩ := (hAi.mono hm4).at (i := i) (by simpa using hil)
        simp at hz2
        have hzb := hall _ (List.getElem_mem hil)
        have hzf := hmf _ (hsb'.sub _ (List.getElem_mem hil))
        simp [hz1, hz2]
        refine C_of (k64 s l all[i] hzb m4 (hs.mono hm04) hsz hc) ?_
        rintro _ m5 ⟨hm5, b, rfl, hb⟩
        cases b
        · simp [hw]
          exact ⟨q, by omega, (hI _ _ _).2 ⟨i + 1, by omega, by simp, hm4.trans hm5⟩⟩
        · exact absurd (hb.1 rfl) hzf
      · simp
        exact (hJ3 _ _).2 ⟨by simp, hm4⟩
    · intro f m4 hJ4
      obtain ⟨hf, hm4⟩ := (hJ3 _ _).1 hJ4
      have hm04 := hm02.trans hm4
      have h64 : ¬ (64 : Int) < all.length := by omega
      have hts := (Ow.sl hA).self
      simp [hf, hAl, h64, fillA, setN, hts.1, hts.2]
      have hsm : ∀ y ∈ l ++ [unionOf all], smallN y := fun y hy => by
        rcases List.mem_append.1 hy with h | h
        · exact hsz y h
        · simp at h; subst h; exact ⟨by simp [unionOf]; omega, by simp [unionOf], by simp [unionOf]⟩
      have h40' : ∀ y ∈ l ++ [unionOf all], y.elems.length < 2 ^ 40 ∧ y.names.length < 2 ^ 40 := fun y hy => by
        rcases List.mem_append.1 hy with h | h
        · exact h40 y h
        · simp at h; subst h; exact ⟨by simp [unionOf]; omega, by simp [unionOf]⟩
      refine C_of (k101 s _ l (unionOf all) m4 (hs.mono hm04) ⟨v10, .nilslice, rfl, hAi.mono hm4, Sl.nil⟩ hsm h40' (by omega)) ?_
      rintro _ m5 ⟨hm5, t', rfl, hT⟩
      simp
      refine ⟨hm04.trans hm5, t', all, hsb', ?_, ?_⟩
      · rw [hj]; simp
      · rw [hj]; exact hT
end Go.Proofs.YtheadodblifklaaGreat

namespace Go.Proofs.YtheadodblifklaaGreat
open Go Ax
open Relation
set_option maxRecDepth 100000
structure CheckOk (l : List Md) : Prop where
  len : l.length ≤ 512
  one : ∀ x ∈ l, oneI x l.length = 0
  void : l.any (voidsB l) = false
  bad : ∀ r, r < l.length → ¬ badM l r
  flex : ∀ x ∈ l, flexOf x = true → ∀ e ∈ x.elems, ¬ FlexP l e.toNat
theorem checkOk_iff {l : List Md} : checkI l = 0 ↔ CheckOk l := by
  constructor
  · intro h
    unfold checkI at h
    split at h
    · omega
    · rename_i h1
      split at h
      · rename_i h2; exact absurd h h2
      · rename_i h2
        split at h
        · omega
        · rename_i h3
          split at h
          · omega
          · rename_i h4
            split at h
            · omega
            · rename_i h5
              refine ⟨by omega, fun x hx => ?_, by simpa using h3, fun r hr hb => h4 ⟨r, hr, hb⟩, fun x hx hf e he hp => h5 ⟨x, hx, hf, e, he, hp⟩⟩
              have h2 : firstI (l.map (oneI · l.length)) = 0 := by simpa using h2
              rw [firstI_zero] at h2
              exact h2 _ (List.mem_map.2 ⟨x, hx, rfl⟩)
  · intro h
    unfold checkI
    rw [if_neg (by have := h.len; omega), if_neg, if_neg (by rw [h.void]; simp), if_neg (fun ⟨r, hr, hb⟩ => h.bad r hr hb), if_neg (fun ⟨x, hx, hf, e, he, hp⟩ => h.flex x hx hf e he hp)]
    intro hc
    apply hc
    rw [firstI_zero]
    intro y hy
    obtain ⟨x, hx, rfl⟩ := List.mem_map.1 hy
    exact h.one x hx
theorem one_more {x : Md} {n : Nat} (h : oneI x n = 0) : oneI x (n + 1) = 0 := by
  obtain ⟨h1, h2, h3, h4⟩ := oneI_zero h
  unfold oneI
  rw [if_neg (by simp [h1]), if_neg, if_neg, if_neg (by rw [h4]; simp)]
  · simp only [List.any_eq_true, not_exists, not_and]
    intro s hs
    simp [h3 s hs]
  · simp only [List.any_eq_true, not_exists, not_and]
    intro e he
    have := h2 e he
    simp [outB]
    omega
theorem stepR_app {l : List Md} {x : Md} (hg : goodT l) {p : Md → Bool} {a b : Nat} (ha : a < l.length) : stepR (l ++ [x]) p a b ↔ stepR l p a b ∧ b < l.length := by
  unfold stepR
  rw [List.getElem?_append_left ha]
  constructor
  · rintro ⟨y, h1, h2, h3⟩
    have := hg y (List.mem_of_getElem? h1) _ h3
    exact ⟨⟨y, h1, h2, h3⟩, by omega⟩
  · exact fun h => h.1
theorem tg_app {l : List Md} {x : Md} (hg : goodT l) {p : Md → Bool} {a b : Nat} (ha : a < l.length) (h : TransGen (stepR (l ++ [x]) p) a b) : TransGen (stepR l p) a b ∧ b < l.length := by
  induction h with
  | single h => have := (stepR_app hg ha).1 h; exact ⟨.single this.1, this.2⟩
  | tail _ h ih => have := (stepR_app hg ih.2).1 h; exact ⟨.tail ih.1 this.1, this.2⟩
theorem no_into {l : List Md} {x : Md} (hg : goodT l) (hx : ∀ e ∈ x.elems, 0 ≤ e ∧ e < (l.length : Int)) {p : Md → Bool} {a : Nat} : ¬ stepR (l ++ [x]) p a l.length := by
  rintro ⟨y, h1, _, h3⟩
  have hy : y ∈ l ++ [x] := List.mem_of_getElem? h1
  rcases List.mem_append.1 hy with h | h
  · have := hg y h _ h3; omega
  · simp at h; subst h; have := hx _ h3; omega
theorem flex_app {l : List Md} {x : Md} (hg : goodT l) {a : Nat} (ha : a < l.length) (h : FlexP (l ++ [x]) a) : FlexP l a := by
  induction h with
  | flex h1 h2 h3 =>
    rw [List.getElem?_append_left ha] at h1
    exact .flex h1 h2 h3
  | step h1 h2 ih =>
    obtain ⟨y, g1, g2⟩ := h1
    rw [List.getElem?_append_left ha] at g1
    have hb := hg y (List.mem_of_getElem? g1) _ g2.2
    exact .step ⟨y, g1, g2⟩ (ih (by omega))
theorem check_copy {l : List Md} (hc : checkI l = 0) (hn : l.length < 512) {x : Md} (hx : x ∈ l) : checkI (l ++ [x]) = 0 := by
  have ok := okT_of hc
  have h := checkOk_iff.1 hc
  have hxg := ok.good x hx
  have hmem : ∀ y ∈ l ++ [x], y ∈ l := fun y hy => by
    rcases List.mem_append.1 hy with h | h
    · exact h
    · simp at h; subst h; exact hx
  refine checkOk_iff.2 ⟨by simp; omega, fun y hy => ?_, ?_, fun r hr hb => ?_, fun y hy hf e he hp => ?_⟩
  · rw [List.length_append, List.length_singleton]
    exact one_more (h.one y (hmem y hy))
  · rw [List.any_eq_false]
    intro y hy
    have hy' := hmem y hy
    have hv := List.any_eq_false.1 h.void y hy'
    have hve : ∀ e ∈ y.elems, voidE (l ++ [x]) e = voidE l e := fun e he => by
      have := ok.good y hy' e he
      unfold voidE
      rw [List.getElem?_append_left (by omega)]
    intro hv2
    apply hv
    unfold voidsB at hv2 ⊢
    split at hv2
    · cases hv2
    · rename_i h12
      rw [if_neg h12]
      split at hv2
      · rename_i h13
        rw [if_pos h13]
        rw [List.any_eq_true] at hv2 ⊢
        obtain ⟨e, he, hh⟩ := hv2
        exact ⟨e, he, by rw [← hve e (List.dropLast_subset _ he)]; exact hh⟩
      · rename_i h13
        rw [if_neg h13]
        rw [List.any_eq_true] at hv2 ⊢
        obtain ⟨e, he, hh⟩ := hv2
        exact ⟨e, he, by rw [← hve e he]; exact hh⟩
  · have key : ∀ p : Md → Bool, TransGen (stepR (l ++ [x]) p) r r → r < l.length ∧ TransGen (stepR l p) r r := fun p hp => by
      have hrl : r < l.length := by
        rcases Nat.lt_or_ge r l.length with h | h
        · exact h
        · have : r = l.length := by simp at hr; omega
          subst this
          exfalso
          cases hp with
          | single h => exact no_into ok.good hxg h
          | tail _ h => exact no_into ok.good hxg h
      exact ⟨hrl, (tg_app ok.good hrl hp).1⟩
    rcases hb with hb | hb
    · obtain ⟨h1, h2⟩ := key _ hb; exact h.bad r h1 (.inl h2)
    · obtain ⟨h1, h2⟩ := key _ hb; exact h.bad r h1 (.inr h2)
  · have hy' := hmem y hy
    have := ok.good y hy' e he
    exact h.flex y hy' hf e he (flex_app ok.good (by omega) hp)
theorem putI_copy {l : List Md} (hc : checkI l = 0) (hn : l.length < 512) {z : Nat} (hz : z < l.length) : (putI l (mdAt l z)).1 = l ∧ (putI l (mdAt l z)).2.2 = 0 := by
  have hm : mdAt l z ∈ l := by rw [mdAt_eq hz]; exact List.getElem_mem hz
  have ok := okT_of hc
  have hin : ∀ e ∈ (mdAt l z).elems, outB l.length e = false := fun e he => by
    have := ok.good _ hm e he
    simp [outB]; omega
  have hcc := check_copy hc hn hm
  have hRz : RR (l ++ [mdAt l z]) z = RR (l ++ [mdAt l z]) l.length := by
    have hl : (l ++ [mdAt l z]).length = l.length + 1 := by simp
    refine RR_same (by omega) (by omega) ?_ ?_
    · rw [mdAt_app hz, mdAt_last]
      have := (firstC_ord.self (a := mdAt l z) trivial)
      exact this
    · rw [mdAt_app hz, mdAt_last]
  rcases fidx_first (p := fun i => RR (l ++ [mdAt l z]) i == RR (l ++ [mdAt l z]) l.length) (l.length + 1) 0 with ⟨_, h2⟩ | ⟨j, _, hj, h1, h2, h3⟩
  · have := h2 z (by omega) (by omega)
    simp [hRz] at this
  · have hjz : j ≤ z := by
      rcases Nat.lt_or_ge z j with h | h
      · have := h3 z (by omega) h
        simp [hRz] at this
      · exact h
    have hf := findI_some hin hcc (j := j) (by omega) (by simpa using h2) (fun i hi => by simpa using h3 i (by omega) hi)
    unfold putI
    rw [if_neg (by simp [hc]), hf]
    exact ⟨rfl, rfl⟩
end Go.Proofs.YtheadodblifklaaGreat

namespace Go.Proofs.YtheadodblifklaaGreat
open Go Ax
set_option maxRecDepth 100000
theorem joinI_ofI {l : List Md} {zs : List Nat} (hc : checkI l = 0) (hn : l.length < 512) (hz : ∀ z ∈ zs, z < l.length) : joinI l zs [] = ofI l zs := by
  unfold joinI ofI
  by_cases h1 : zs.length = 1
  · rw [if_pos h1, if_pos h1]
    have hz0 : zs.getD 0 0 < l.length := by
      have : zs.getD 0 0 = zs[0] := by simp [List.getD, h1]
      rw [this]; exact hz _ (List.getElem_mem _)
    obtain ⟨a1, a2⟩ := putI_copy hc hn hz0
    rw [a1, a2]
    rfl
  · rw [if_neg h1, if_neg h1]
    rfl
set_option maxHeartbeats 8000000 in
open Classical in
theorem k25 (s : AVal) (l : List Md) (u v : Int) (m : AMem) (hs : RTab m s l) (hsz : ∀ x ∈ l, smallN x) (h40 : ∀ y ∈ l, y.elems.length < 2 ^ 40 ∧ y.names.length < 2 ^ 40) (hn : l.length ≤ 60) :
    ACalls Tryz.prog 25 [s, .int .i64 u, .int .i64 v] m fun w m' => m <+: m' ∧ ∃ t, w = .tuple [t, .int .i64 (withoutI l u v).2.1, .int .i64 (withoutI l u v).2.2] ∧ RTab m' t (withoutI l u v).1 := by
  refine w25 ?_
  simp [fillA, setN]
  have hA := two_ints m u v
  have hm1 : m <+: m ++ [.own [.int .i64 u, .int .i64 v] 3 none] := List.prefix_append _ _
  generalize AVal.slice m.length 0 2 2 none = t1 at *
  generalize m ++ [.own [.int .i64 u, .int .i64 v] 3 none] = m1 at *
  refine C_of (k37 s t1 l [u, v] m1 (hs.mono hm1) hA.ints hsz (by omega) (by simp)) ?_
  rintro _ m2 ⟨rfl, hm2⟩
  replace hm2 := hm1.trans hm2
  clear hm1 hA
  simp
  refine bbind_intro (fun h => ?_) fun h => ?_
  · have h : rightI l [u, v] ≠ 0 := by simpa using h
    have hW : withoutI l u v = ([], 0, rightI l [u, v]) := by unfold withoutI; rw [if_pos h]
    simp [hW]
    exact ⟨hm2, RTab.nil0 _⟩
  have h : rightI l [u, v] = 0 := by simpa using h
  obtain ⟨hc, a, b, rfl, rfl, ha, hb⟩ := right2 h
  have ok := okT_of hc
  have hW : withoutI l a b = if isU (mdAt l a) = false then ([], 0, 13) else if (leftI l a b).length = 0 then ([], 0, 12) else ofI l (leftI l a b) := by
    unfold withoutI
    rw [if_neg (by simp [h])]
    simp only [Int.toNat_natCast]
  obtain ⟨bx', ox, ex, gx1, gx2, _⟩ := hs.elems ha
  have gk := (gx2 m2 hm2).1
  simp [gx1, gk]
  by_cases hk : l[a].kind = 12
  rotate_left
  · have hu : isU (mdAt l a) = false := by rw [mdAt_eq ha]; simpa [isU] using hk
    rw [if_pos hu] at hW
    simp [bneT hk, hW]
    exact ⟨hm2, RTab.nil0 _⟩
  have hu : isU (mdAt l a) = true := by rw [mdAt_eq ha]; simpa [isU] using hk
  rw [if_neg (by rw [hu]; simp)] at hW
  simp [hk]
  refine C_of (k39 s l m2 (hs.mono hm2) ok.good ok.len hsz ok.h64 ok.names) ?_
  rintro v4 m4 ⟨hm4, hR⟩
  simp
  have hm04 := hm2.trans hm4
  refine C_of (k40 s l a m4 (hs.mono hm04) hsz hc ha) ?_
  rintro v6 m6 ⟨hm6, xs, hxs, hbx⟩
  simp
  refine C_of (k40 s l b m6 (hs.mono (hm04.trans hm6)) hsz hc hb) ?_
  rintro v7 m7 ⟨hm7, ys, hys, hby⟩
  have hxl := hbx.length ok.good ha
  have hxb := hbx.lt ok.good ha
  have hyb := hby.lt ok.good hb
  have hyl := hby.length ok.good hb
  obtain rfl := hbx.eq
  obtain rfl := hby.eq
  have hB : leftI l a b = (basesOf l a).filter fun z => decide (atI (RR l) (basesOf l b) z < 0) := by
    unfold leftI
    refine List.filter_congr fun z _ => ?_
    have h1 := both_at ok.good hb (z := z)
    rw [decide_eq_true_iff] at h1
    rw [Bool.eq_iff_iff, decide_eq_true_iff, Bool.not_eq_true', decide_eq_false_iff_not, ← h1]
    omega
  have hsbA : (basesOf l a).Pairwise (fun x y => RR l x < RR l y) := by
    obtain ⟨O, _, h2⟩ := (basesEx ok.good ha).un hu
    exact h2.asc
  have hsbI : ∀ z ∈ basesOf l a, IsBase l a z := fun z hz => basesOf_sub ok.good ha hz
  rw [hB] at hW
  have hlen := ok.len
  generalize basesOf l a = xs at *
  generalize basesOf l b = ys at *
  have hrk := (ints_of_nat hR).mono (hm6.trans hm7)
  replace hxs := (ints_of_nat hxs).mono hm7
  replace hys := ints_of_nat hys
  have hm07 := (hm04.trans hm6).trans hm7
  have hat : ∀ x, x < l.length → atI (fun a => (Rl l (l.length + 1)).getD a 0) ys x = atI (RR l) ys x := fun x hx => atI_Rl hyb hx
  simp
  obtain ⟨J, hJ⟩ : ∃ J : AFrame → AMem → Prop, ∀ f m', J f m' ↔ (∃ o, f.forget [0, 13] = mat 67 [(0, s), (13, o)] ∧ m7 <+: m' ∧ OwL natI m7.length m' 3 o (xs.filter fun z => decide (atI (RR l) ys z < 0))) := ⟨_, fun _ _ => Iff.rfl⟩
  refine W_JB J ?_ ?_
  · obtain ⟨I, hI⟩ : ∃ I : Nat → AFrame → AMem → Prop, ∀ q a m', I q a m' ↔ (∃ (k : Nat) (o : AVal), k + q = xs.length ∧ a = h25_0 s v4 v6 v7 o (.int .i64 k) ∧ m7 <+: m' ∧ OwL natI m7.length m' 3 o ((xs.take k).filter fun z => decide (atI (RR l) ys z < 0))) := ⟨_, fun _ _ _ => Iff.rfl⟩
    refine W_loop I xs.length ((hI _ _ _).2 ⟨0, .nilslice, by simp, by simp, List.prefix_refl _, OwL.nil⟩) ?_
    rintro q a' m8 hIn
    obtain ⟨k, o, hk', rfl, hm8, hO⟩ := (hI _ _ _).1 hIn
    clear hIn
    have hxn := (hxs.mono hm8).len
    simp at hxn
    simp [hxn]
    refine bbind_dec (fun hkl => ?_) fun hkl => ?_
    · have hw := step64 hkl (by omega)
      obtain ⟨q, rfl⟩ : ∃ q', q = q' + 1 := ⟨q - 1, by omega⟩
      obtain ⟨b1, o1, g1, g2⟩ := (hxs.mono hm8).at (i := k) (by simpa using hkl)
      simp at g2
      have hxk := hxb _ (List.getElem_mem hkl)
      simp [g1, g2]
      refine C_of (k38 v4 v7 (Rl l (l.length + 1)) ys xs[k] m8 (hrk.mono hm8) (hys.mono hm8) (fun z hz => by rw [Rl_length]; exact hyb z hz) (by rw [Rl_length]; exact hxk) (by omega)) ?_
      rintro _ m9 ⟨rfl, hm9⟩
      rw [hat _ hxk]
      have hft : (xs.take (k + 1)).filter (fun z => decide (atI (RR l) ys z < 0)) = (xs.take k).filter (fun z => decide (atI (RR l) ys z < 0)) ++ (if atI (RR l) ys xs[k] < 0 then [xs[k]] else []) := by
        rw [List.take_add_one, List.filter_append, List.getElem?_eq_getElem hkl]
        by_cases hi : atI (RR l) ys xs[k] < 0 <;> simp [hi]
      have hcount : ((xs.take k).filter fun z => decide (atI (RR l) ys z < 0)).length ≤ k := Nat.le_trans (List.length_filter_le _ _) (by simp; omega)
      simp
      by_cases hi : atI (RR l) ys xs[k] < 0
      · rw [if_pos hi] at hft
        have hm9A : m9 <+: m9 ++ [.own [.int .i64 (xs[k] : Nat)] 3 none] := List.prefix_append _ _
        have g2' := loadE_mono hm9 g2
        have hlo : m7.length ≤ (m9 ++ [ABlk.own [.int .i64 ((xs[k] : Nat) : Int)] 3 none]).length := by have := (hm8.trans hm9).length_le; simp; omega
        obtain ⟨o', m10, happ, hch10, hO10, hbl⟩ := ((hO.mono hm9).mono hm9A).push hlo (by_ := 8) (by decide) xs[k] (by omega)
        simp only [natI] at happ
        simp [hi, g1, g2', fillA, setN, happ, hw]
        refine ⟨q, by omega, (hI _ _ _).2 ⟨k + 1, o', by omega, by simp, hch10.pre ((hm8.trans hm9).trans hm9A) fun b hb e => by have := (hO.blk_lo e).1; omega, ?_⟩⟩
        rw [hft]
        exact hO10
      · rw [if_neg hi, List.append_nil] at hft
        simp [hi, hw]
        exact ⟨q, by omega, (hI _ _ _).2 ⟨k + 1, o, by omega, by simp, hm8.trans hm9, by rw [hft]; exact hO.mono hm9⟩⟩
    · have hkl : k = xs.length := by omega
      subst hkl
      rw [List.take_length] at hO
      simp
      exact (hJ _ _).2 ⟨o, by simp, hm8, hO⟩
  intro f m8 hJ8
  obtain ⟨o, hf, hm8, hO⟩ := (hJ _ _).1 hJ8
  clear hJ8 hJ
  have hm08 := hm07.trans hm8
  generalize hL : (xs.filter fun z => decide (atI (RR l) ys z < 0)) = L at *
  have hLs : ∀ z ∈ L, z ∈ xs := fun z hz => by rw [← hL] at hz; exact (List.mem_filter.1 hz).1
  have hLl : L.length ≤ xs.length := by rw [← hL]; exact List.length_filter_le _ _
  have hLa : L.Pairwise (fun x y => RR l x < RR l y) := by rw [← hL]; exact hsbA.filter _
  have hOl := hO.len
  simp [hf, hOl]
  by_cases h0 : L = []
  · rw [if_pos (by rw [h0]; rfl)] at hW
    simp [h0, hW]
    exact ⟨hm08, RTab.nil0 _⟩
  have h0' : ¬ L.length = 0 := by simpa using h0
  have h0i : ¬ (L.length : Int) = 0 := by omega
  rw [if_neg h0'] at hW
  have hLz : ∀ z ∈ L, z < l.length := fun z hz => hxb z (hLs z hz)
  simp [beqF h0i]
  refine C_of (k57 s o .nilslice l L [] m8 (hs.mono hm08) (ints_of_nat hO) Sl.nil hc hLz (fun z hz => base_nflex hc hu (hsbI z (hLs z hz))) (by simp) hsz h40 hn (by omega) (by simp)) ?_
  rintro _ m9 ⟨hm9, t', all, hsb, rfl, hT⟩
  have hall : all = L := hsb.unique ⟨hLa, fun z hz => hz, fun y hy => ⟨y, hy, rfl, Nat.le_refl _⟩⟩ fun _ => Iff.rfl
  subst hall
  rw [joinI_ofI hc (by omega) hLz] at hT ⊢
  rw [hW]
  simp
  exact ⟨hm08.trans hm9, hT⟩
end Go.Proofs.YtheadodblifklaaGreat

namespace Go.Proofs.YtheadodblifklaaGreat
open Go Ax Go.ChangeShapes Go.WideShapes Go.ChangeAt Go.RowKit
set_option maxRecDepth 100000
theorem under22 : Tryz.prog.underlying 22 = some (.slice 49) := by kernel_rfl
theorem under3 : Tryz.prog.underlying 3 = some (.int .i64) := by kernel_rfl
theorem under4 : Tryz.prog.underlying 4 = some .bool := by kernel_rfl
theorem under33 : Tryz.prog.underlying 33 = some (.slice 3) := by kernel_rfl
theorem under47 : Tryz.prog.underlying 47 = some (.slice 9) := by kernel_rfl
theorem under9 : Tryz.prog.underlying 9 = some .string := by kernel_rfl
theorem laidOut : laidOutB Tryz.prog = true := by kernel_rfl
theorem own0 : ownKnob Tryz.prog.godebug = none := by kernel_rfl
noncomputable def fs49 : Array Field := match Tryz.prog.underlying 49 with | some (.struct fs) => fs | _ => #[]
noncomputable def modeT : ModeT Tryz.prog :=
  { tT := 22, tM := 49, tI := 33, eI := 3, tS := 47, eS := 9, k0 := 3, k1 := 3, k4 := 3, k5 := 4, fs := fs49,
    hT := under22, hM := by kernel_rfl, hI := under33, hi := under3, hS := under47, hs := under9, h0 := under3, h1 := under3, h4 := under3, h5 := under4,
    cM := by kernel_rfl, ci := by kernel_rfl, cs := by kernel_rfl, c0 := by kernel_rfl, c1 := by kernel_rfl, cI := by kernel_rfl, cS := by kernel_rfl, c4 := by kernel_rfl, c5 := by kernel_rfl,
    bi := by kernel_rfl, bs := by kernel_rfl, bM := of_decide_eq_true (by kernel_rfl), sz := by kernel_rfl, f0 := by kernel_rfl, f1 := by kernel_rfl, f2 := by kernel_rfl, f3 := by kernel_rfl, f4 := by kernel_rfl, f5 := by kernel_rfl }
def LawTII (f : FuncId) : Prop := ∀ (m : AMem) (s : AVal) (l : List Md) (u v : Int), RTab m s l → l.length ≤ reachBytes → (∀ md ∈ l, MdB reachBytes md) → ACalls Tryz.prog f [s, .int .i64 u, .int .i64 v] m fun r _ => r = .bool true
theorem lifted3 {os : Os} (started : os.Started) {H : Type} {enc : TypeId × Value → H} {f : FuncId} {fn : Func} {s : ChangeSpec} {conds : List PathCond}
    (noInit : Tryz.checked.prog.inits.idxOf? f = none) (hfn : Tryz.checked.prog.funcs[f]? = some fn) (hp : fn.params = #[22, 3, 3]) (hr : fn.resultTypes = #[4]) (hs : s.vars = [])
    (hsf : ∀ d1 d2 d3 : DataW H, s.fn H [d1, d2, d3] = { results := [.lit (.bool true)], args := [d1, d2, d3] })
    (witness : ∃ (w : World) (tape : Tape) (i : Input), w.os = os ∧ (w.forCall tape i).Shaped Tryz.checked.prog ∧ i.vars = [] ∧ Input.okWide Tryz.checked.prog (w.forCall tape i) .any w.heap.size f i ∧
      s.pre6 enc Tryz.checked.prog fn conds false (w.forCall tape i).memory i.args ∧ ({} : Assume).holds Tryz.checked.prog (lone (Frame.enter Tryz.checked.prog f i.args .normal) [] (w.forCall tape i)))
    (law : LawTII f) :
    ReturnsInHanded {} Tryz.checked os f .any (s.pre6 enc Tryz.checked.prog fn conds false) (s.post enc Tryz.checked.prog fn false true false false) := by
  refine returnsInHanded_of_change_sized (C := Tryz.checked) own0 started noInit hfn witness ?_
  intro W base args ds gs before hval0 hW _ hsz0 _
  have hW' := hW
  rw [hp] at hval0 hsz0
  obtain ⟨p, q, hA, hV, rfl, _, _⟩ := hW
  rw [hp] at hA
  rw [hs] at hV
  obtain ⟨v0, v1, v2, d0, d1, d2, p0, p1, p2, rfl, rfl, rfl, h0, h1, h2⟩ := trodAll_three hA
  obtain ⟨rfl, rfl⟩ := trodVars_none hV
  obtain ⟨a1, rfl, rfl, rfl, w1⟩ := open_int under3 (hval0 1 3 v1 rfl rfl) h1
  obtain ⟨a2, rfl, rfl, rfl, w2⟩ := open_int under3 (hval0 2 3 v2 rfl rfl) h2
  have hv0 := hval0 0 22 v0 rfl rfl
  have h0k := h0
  obtain ⟨fuel, hf⟩ := h0
  obtain ⟨a0, len, cap, rfl⟩ := okWide_slice under22 hv0
  obtain ⟨l, hent, hbd⟩ := enters_tab (enc := enc) modeT (fuel := fuel) (x := (d0, p0)) (fun a len' cap' e => by
    simp [Value.cells] at e
    obtain ⟨rfl, rfl, rfl⟩ := e
    exact heap_pos under22 hv0) hf
  obtain ⟨b1, b2⟩ := hbd reachBytes (by
    rw [List.all_eq_true] at hsz0 ⊢
    intro n hn
    exact hsz0 n (DataW.weights_mem_each (j := 0) (t := 22) (d := d0) (by simp) (by simp) n hn))
  obtain ⟨ρ', m', xs, _, _, hro, hsim, hvr, sv, rfl, hT⟩ := hent [] [] (Sim.nil W) RoMem.nil
  simp only [VRs] at hvr
  obtain ⟨_, _, e, hvr, rfl⟩ := hvr
  simp [Value.cells] at e
  subst e
  have hlt : ∀ x ∈ p0, x.block < W.heap.size := fun x hx => hW'.lt x (by simp [hx])
  refine ((law m' sv l a1 a2 hT b1 b2).2 ρ' W #[.slice a0 len cap, .int .i64 a1, .int .i64 a2] hsim (by simp only [VRs, VR]; exact ⟨_, _, rfl, hvr, _, _, rfl, rfl, _, _, rfl, rfl, rfl⟩)).mono fun e W' h => ?_
  obtain ⟨v', v, m'', ρ'', rfl, rfl, hv, _, hev⟩ := h
  simp only [VR] at hv
  subst hv
  have hb := below_of_evol hro hev
  refine ⟨_, rfl, [d0, _, _], [], _, [], p0 ++ ([] ++ ([] ++ [])), [], hW', ?_, ?_, ?_, hb.frame _, fun h => by cases h⟩
  · rw [hr]
    show DataW.TrodAll enc _ W' _ _ _ [4] _ (s.fn H [d0, _, _]).results []
    rw [hsf]
    exact trodAll_mk1 (shut_bool under4 true)
  · rw [hp]
    show DataW.TrodAll enc _ W' _ _ _ [22, 3, 3] _ (s.fn H [d0, _, _]).args _
    rw [hsf]
    exact trodAll_cons_mk (Below.trod laidOut (by kernel_rfl) (of_decide_eq_true (by kernel_rfl)) h0k hb hlt) (trodAll_cons_mk (shut_int under3 w1) (trodAll_cons_mk (shut_int under3 w2) trodAll_mk0))
  · show DataW.TrodVars enc _ W' _ s.vars (s.fn H [d0, _, _]).vars _
    rw [hsf, hs]
    rfl
end Go.Proofs.YtheadodblifklaaGreat

namespace Go.Proofs.YtheadodblifklaaGreat
open Go Ax Go.ChangeShapes Go.WideShapes Go.ChangeAt Go.RowKit
set_option maxRecDepth 100000
theorem putI_small {l : List Md} {x : Md} (hl : ∀ y ∈ l, smallN y) (hx : smallN x) : ∀ y ∈ (putI l x).1, smallN y := by
  have hlx : ∀ y ∈ l ++ [x], smallN y := fun y hy => by
    rcases List.mem_append.1 hy with h | h
    · exact hl y h
    · simp at h; subst h; exact hx
  unfold putI
  split
  · simp
  · split
    · exact hl
    · split
      · simp
      · exact hlx
theorem putI_len (l : List Md) (x : Md) : (putI l x).1.length ≤ l.length + 1 := by
  unfold putI
  split
  · simp
  · split
    · simp
    · split
      · simp
      · simp
theorem ofI_small {l : List Md} {zs : List Nat} (hl : ∀ y ∈ l, smallN y) (hz : ∀ z ∈ zs, z < l.length) (hn : zs.length < 2 ^ 30) : ∀ y ∈ (ofI l zs).1, smallN y := by
  unfold ofI
  split
  · rename_i h1
    have hz0 : zs.getD 0 0 < l.length := by
      have : zs.getD 0 0 = zs[0] := by simp [List.getD, h1]
      rw [this]; exact hz _ (List.getElem_mem _)
    exact putI_small hl (hl _ (by rw [mdAt_eq hz0]; exact List.getElem_mem hz0))
  · exact putI_small hl ⟨by simp [unionOf]; omega, by simp [unionOf], by simp [unionOf]⟩
theorem ofI_len (l : List Md) (zs : List Nat) : (ofI l zs).1.length ≤ l.length + 1 := by
  unfold ofI
  split
  · exact putI_len _ _
  · exact putI_len _ _
theorem without_small {l : List Md} (hn : l.length ≤ 60) (hl : ∀ y ∈ l, smallN y) (u v : Int) : (∀ y ∈ (withoutI l u v).1, smallN y) ∧ (withoutI l u v).1.length ≤ l.length + 1 := by
  unfold withoutI
  split
  · simp
  · rename_i h
    obtain ⟨hc, a, b, rfl, rfl, ha, hb⟩ := right2 (by simpa using h)
    have ok := okT_of hc
    split
    · simp
    · split
      · simp
      · refine ⟨ofI_small hl (fun z hz => ?_) ?_, ofI_len _ _⟩
        · simp only [Int.toNat_natCast, leftI] at hz
          exact (basesEx ok.good ha).lt ok.good ha z (List.mem_filter.1 hz).1
        · simp only [Int.toNat_natCast, leftI]
          have h1 := (basesEx ok.good ha).length ok.good ha
          have h2 := List.length_filter_le (fun z => !@decide (hasRR l b z) (Classical.propDecidable _)) (basesOf l a)
          omega
theorem k6 : LawTII 6 := by
  intro m s l u v hs _ hb
  refine w6 ?_
  simp
  refine C_of (k10 m) ?_
  rintro _ m1 ⟨rfl, hm1⟩
  simp
  refine C_of (k11 s l 12 m1 (hs.mono hm1) (by omega)) ?_
  rintro _ m2 ⟨rfl, hm2⟩
  have hm02 := hm1.trans hm2
  cases hsm : (decide ((l.length : Int) ≤ 12) && l.all fun x => decide (x.elems.length ≤ 6) && decide (x.names.length ≤ 6))
  · simp
  · have hf := fits_of hb hsm
    have hn := hf.n
    have hn12 := hf.n12
    simp
    refine C_of (k24 s l u v m2 (hs.mono hm02) hf.sm hf.h40 (by omega)) ?_
    rintro _ m3 ⟨hm3, t, rfl, hT⟩
    simp
    refine C_of (k25 s l u v m3 (hs.mono (hm02.trans hm3)) hf.sm hf.h40 (by omega)) ?_
    rintro _ m4 ⟨hm4, t', rfl, hT'⟩
    obtain ⟨h1, h2⟩ := without_small (by omega) hf.sm u v
    simp
    refine C_of (k26 t t' _ m4 (hT.mono hm4) hT' h1 (by omega)) ?_
    rintro _ m5 ⟨rfl, hm5⟩
    simp
noncomputable def fn6 : Func := (Tryz.checked.prog.funcs[6]?).get (by kernel_rfl)
theorem func6 : Tryz.checked.prog.funcs[6]? = some fn6 := by kernel_rfl
theorem unionsWithout_holds : Rows.UnionsWithoutSaid :=
  OpenClaim.holds_of_wide 6 fn6 rfl rfl rfl rfl rfl rfl rfl ⟨rfl, rfl, rfl, rfl, rfl⟩ rfl rfl rfl rfl rfl (by kernel_rfl) func6 (by kernel_rfl)
    (of_decide_eq_true (by kernel_rfl)) (by unfold Func.isWrapper; rw [if_neg (of_decide_eq_false (by kernel_rfl))]; exact ⟨rfl, rfl⟩)
    (fun os started H enc _ => lifted3 (s := Rows.unionsWithoutSpec) (conds := Rows.unionsWithoutRow.domain) started (by kernel_rfl) func6 (by kernel_rfl) (by kernel_rfl) rfl (fun _ _ _ => rfl)
      (ChangeSpec.witness6 (enc := enc) (C := Tryz.checked) false ⟨#[], #[.slice none 0 0, .int .i64 0, .int .i64 0], []⟩ 8 (by kernel_rfl) (by kernel_rfl) (by kernel_rfl) (by kernel_rfl)) k6)
end Go.Proofs.YtheadodblifklaaGreat

