/- environlaw11.UnionsTaken returns true for every table of modes and any two numbers, and leaves its arguments as they were.  Conditions: none beyond those stated. -/
import Derived.Test.YtheadodblifklaaGreatT4
import Derived.ProofKit
import Derived.SizedLaws
import Derived.SliceStrings
import Derived.Deep.Slices
import Derived.DataElems
import Derived.Test.YtheadodblifklaaGreatRows
import Derived.OpenShut
namespace Go.Proofs.YtheadodblifklaaGreat
open Go Ax
set_option maxRecDepth 100000
abbrev chunk (cs : List AVal) (i : Nat) : List AVal := (cs.drop (i * 6)).take 6
def OwB (m0 : AMem) (lo : Nat) (m : AMem) (s : AVal) (l : List Md) : Prop := ∃ cs, Ow lo m 6 49 s l.length cs ∧ ∀ (i : Nat) x, l[i]? = some x → RMode m0 (chunk cs i) x
def OwT (lo : Nat) (m : AMem) (s : AVal) (l : List Md) : Prop := ∃ cs, Ow lo m 6 49 s l.length cs ∧ ∀ (i : Nat) x, l[i]? = some x → ∀ m', Ch (fun b => s.blk = some b) m m' → RMode m' (chunk cs i) x
theorem OwT.tab {lo : Nat} {m : AMem} {s : AVal} {l : List Md} (h : OwT lo m s l) : RTab m s l := by
  obtain ⟨cs, h1, h2⟩ := h
  exact ⟨cs, h1.sl, fun i x hx => h2 i x hx m (.refl _ _)⟩
theorem OwT.mono {lo : Nat} {m m' : AMem} {s : AVal} {l : List Md} (h : OwT lo m s l) (hm : m <+: m') : OwT lo m' s l := by
  obtain ⟨cs, h1, h2⟩ := h
  exact ⟨cs, h1.mono hm, fun i x hx m'' hc => h2 i x hx m'' ((Ch.of_prefix hm).trans hc)⟩
theorem OwB.mono {lo : Nat} {m0 m m' : AMem} {s : AVal} {l : List Md} (h : OwB m0 lo m s l) (hm : m <+: m') : OwB m0 lo m' s l := by
  obtain ⟨cs, h1, h2⟩ := h
  exact ⟨cs, h1.mono hm, h2⟩
theorem OwB.tab {lo : Nat} {m0 m : AMem} {s : AVal} {l : List Md} (h : OwB m0 lo m s l) (hm : m0 <+: m) : RTab m s l := by
  obtain ⟨cs, h1, h2⟩ := h
  exact ⟨cs, h1.sl, fun i x hx => (h2 i x hx).mono hm⟩
theorem OwB.ch {S : Nat → Prop} {lo : Nat} {m0 m m' : AMem} {s : AVal} {l : List Md} (h : OwB m0 lo m s l) (hc : Ch S m m') (hs : ∀ b, s.blk = some b → ¬ S b) : OwB m0 lo m' s l := by
  obtain ⟨cs, h1, h2⟩ := h
  exact ⟨cs, h1.ch hc hs, h2⟩
theorem OwB.blk_lo {lo : Nat} {m0 m : AMem} {s : AVal} {l : List Md} (h : OwB m0 lo m s l) {b : Nat} (hb : s.blk = some b) : lo ≤ b ∧ b < m.length := by
  obtain ⟨cs, h1, _⟩ := h
  exact h1.blk_lo hb
theorem OwT.blk_lo {lo : Nat} {m : AMem} {s : AVal} {l : List Md} (h : OwT lo m s l) {b : Nat} (hb : s.blk = some b) : lo ≤ b ∧ b < m.length := by
  obtain ⟨cs, h1, _⟩ := h
  exact h1.blk_lo hb
theorem chunk_append {cs c : List AVal} {n : Nat} (hl : cs.length = n * 6) {i : Nat} (hi : i < n) : chunk (cs ++ c) i = chunk cs i := by
  unfold chunk
  rw [List.drop_append_of_le_length (by omega), List.take_append_of_le_length (by simp; omega)]
theorem chunk_last {cs c : List AVal} {n : Nat} (hl : cs.length = n * 6) (hc : c.length = 6) : chunk (cs ++ c) n = c := by
  unfold chunk
  rw [List.drop_append, hl, Nat.sub_self, List.drop_eq_nil_of_le (by omega)]
  simp only [List.nil_append, List.drop_zero]
  exact List.take_of_length_le (by omega)
theorem push_get {l : List Md} {x y : Md} {i : Nat} (h : (l ++ [x])[i]? = some y) : (i < l.length ∧ l[i]? = some y) ∨ (i = l.length ∧ y = x) := by
  rcases Nat.lt_or_ge i l.length with hlt | hge
  · rw [List.getElem?_append_left hlt] at h; exact .inl ⟨hlt, h⟩
  · rw [List.getElem?_append_right hge] at h
    cases hk : i - l.length with
    | zero => rw [hk] at h; simp at h; exact .inr ⟨by omega, h.symm⟩
    | succ k => rw [hk] at h; simp at h
theorem OwB.push {m0 : AMem} {lo : Nat} {m : AMem} {s : AVal} {l : List Md} (h : OwB m0 lo m s l) (hlo : lo ≤ m.length) {c : List AVal} {x : Md} (hx : RMode m0 c x) (hn : l.length < 2 ^ 30) :
    ∃ s' m', appendE m 6 80 49 s 1 c = some (s', m') ∧ Ch (fun b => s.blk = some b) m m' ∧ OwB m0 lo m' s' (l ++ [x]) ∧ (∀ b, s'.blk = some b → s.blk = some b ∨ m.length ≤ b) := by
  obtain ⟨cs, h1, h2⟩ := h
  have hcl := hx.all
  have hl := h1.sl.length
  obtain ⟨s', m', e, hch, h3, h4⟩ := h1.append hlo (k := 1) (xs := c) (bytes := 80) (by omega) hcl.2 (by decide) (by omega)
  refine ⟨s', m', e, hch, ⟨cs ++ c, by simpa using h3, fun i y hy => ?_⟩, h4⟩
  rcases push_get hy with ⟨hi, hy⟩ | ⟨rfl, rfl⟩
  · rw [chunk_append hl hi]; exact h2 i y hy
  · rw [chunk_last hl hcl.1]; exact hx
theorem OwT.push {lo : Nat} {m : AMem} {s : AVal} {l : List Md} (h : OwT lo m s l) (hlo : lo ≤ m.length) {c : List AVal} {x : Md} (hx : ∀ m', Ch (fun b => s.blk = some b) m m' → RMode m' c x) (hn : l.length < 2 ^ 30) :
    ∃ s' m', appendE m 6 80 49 s 1 c = some (s', m') ∧ Ch (fun b => s.blk = some b) m m' ∧ OwT lo m' s' (l ++ [x]) ∧ (∀ b, s'.blk = some b → s.blk = some b ∨ m.length ≤ b) := by
  obtain ⟨cs, h1, h2⟩ := h
  have hcl := (hx m (.refl _ _)).all
  have hl := h1.sl.length
  obtain ⟨s', m', e, hch, h3, h4⟩ := h1.append hlo (k := 1) (xs := c) (bytes := 80) (by omega) hcl.2 (by decide) (by omega)
  refine ⟨s', m', e, hch, ⟨cs ++ c, by simpa using h3, fun i y hy m2 hc2 => ?_⟩, h4⟩
  have hcc : Ch (fun b => s.blk = some b) m m2 := by
    have a1 : Ch (fun b => s.blk = some b ∨ m.length ≤ b) m m' := hch.weaken fun b _ hb => .inl hb
    have a2 : Ch (fun b => s.blk = some b ∨ m.length ≤ b) m' m2 := hc2.weaken fun b _ hb => h4 b hb
    exact (a1.trans a2).weaken fun b hb h => by rcases h with h | h; exact h; omega
  rcases push_get hy with ⟨hi, hy⟩ | ⟨rfl, rfl⟩
  · rw [chunk_append hl hi]; exact h2 i y hy m2 hcc
  · rw [chunk_last hl hcl.1]; exact hx m2 hcc
theorem tab_all {m : AMem} {cs : List AVal} {l : List Md} (hl : cs.length = l.length * 6) (h : ∀ (i : Nat) x, l[i]? = some x → RMode m (chunk cs i) x) : cs.all AVal.one = true := by
  rw [List.all_eq_true]
  intro y hy
  obtain ⟨i, hi, rfl⟩ := List.getElem_of_mem hy
  have hq : i / 6 < l.length := by omega
  have := (h (i / 6) l[i / 6] (List.getElem?_eq_getElem hq)).all.2
  rw [List.all_eq_true] at this
  refine this _ ?_
  have hg : (chunk cs (i / 6))[i % 6]? = some cs[i] := by
    unfold chunk
    rw [List.getElem?_take, if_pos (by omega), List.getElem?_drop, List.getElem?_eq_getElem (by omega)]
    congr 2
    omega
  exact List.mem_of_getElem? hg
theorem k66 (s : AVal) (l : List Md) (m0 m : AMem) (hm0 : m0 <+: m) (hs : RTab m0 s l) (hn : l.length < 2 ^ 30) : ACalls Tryz.prog 66 [s] m fun v m' => m <+: m' ∧ OwB m0 m.length m' v l := by
  refine w66 ?_
  obtain ⟨cs, hsl, hmd⟩ := hs
  replace hsl := hsl.mono hm0
  have hcl := hsl.length
  have hall := tab_all hcl hmd
  have hsc := hsl.cells
  rcases hsl with ⟨rfl, hx, rfl⟩ | ⟨b, o, cap, gr, rfl, h1, h2⟩
  · have hx : l = [] := by simpa using hx
    subst hx
    simp
    exact ⟨[], .nil, by simp⟩
  · simp
    have hsl : Sl m 6 (.slice b o l.length cap gr) l.length cs := .inr ⟨b, o, cap, gr, rfl, h1, h2⟩
    have hN : Ow m.length (m ++ [.own [] 49 none]) 6 49 (.slice m.length 0 0 0 none) 0 [] := Ow.new (by simp) (by simp)
    have hm1 : m <+: m ++ [.own [] 49 none] := List.prefix_append _ _
    have hsc := (hsl.mono hm1).cells
    simp [fillA] at hsc ⊢
    generalize m ++ [.own [] 49 none] = m1 at *
    obtain ⟨t', m2, happ, hch, hO, hbl⟩ := hN.append (by have := hm1.length_le; omega) (k := l.length) (xs := cs) (bytes := 80) hcl hall (by decide) (by omega)
    simp [hsc, happ]
    rw [List.nil_append, Nat.zero_add] at hO
    exact ⟨hch.pre hm1 fun b hb h => (by simp [AVal.blk] at h; omega), cs, hO, hmd⟩
end Go.Proofs.YtheadodblifklaaGreat

namespace Go.Proofs.YtheadodblifklaaGreat
open Go Ax
set_option maxRecDepth 100000
set_option maxHeartbeats 4000000 in
theorem k138 (s : AVal) (c : List AVal) (l : List Md) (x : Md) (m : AMem) (hs : RTab m s l) (hx : RMode m c x) (hsz : ∀ y ∈ l ++ [x], y.elems.length < 2 ^ 40 ∧ y.names.length < 2 ^ 40) (hn : l.length < 2 ^ 20) :
    ACalls Tryz.prog 138 [s, .agg c] m fun v m' => m <+: m' ∧ OwT m.length m' v (l ++ [x]) := by
  have hx0 := hx
  have hcl := hx.all
  obtain ⟨e, nm, rfl, he, hnm⟩ := hx
  refine w138 ?_
  have h1 := Sl.one he
  have h2 := Sl.one hnm
  have hw : IntKind.i64.wrap ((l.length : Int) + 1) = ((l.length + 1 : Nat) : Int) := by rw [wrap64 (by omega) (by omega)]; omega
  have hc0 : (0 : Int) ≤ l.length + 1 := by omega
  have hc1 : 80 * ((l.length : Int) + 1) ≤ 281474976710656 := by omega
  have hc2 : (l.length : Int) + 1 ≤ 9223372036854775807 := by omega
  simp [h1, h2, hs.len, hw, hc0, hc1, hc2]
  have hb0 : readB (m ++ [ABlk.own [.int .i64 x.kind, .int .i64 x.size, e, nm, .int .i64 x.dims, .bool x.flex] 49 none, ABlk.own (List.replicate (l.length + 1) [AVal.int .i64 0, AVal.int .i64 0, AVal.nilslice, AVal.nilslice, AVal.int .i64 0, AVal.bool false]).flatten 49 none]) m.length = some [.int .i64 x.kind, .int .i64 x.size, e, nm, .int .i64 x.dims, .bool x.flex] := by simp [readB, ABlk.cells]
  have hm02 : m <+: m ++ [ABlk.own [.int .i64 x.kind, .int .i64 x.size, e, nm, .int .i64 x.dims, .bool x.flex] 49 none, ABlk.own (List.replicate (l.length + 1) [AVal.int .i64 0, AVal.int .i64 0, AVal.nilslice, AVal.nilslice, AVal.int .i64 0, AVal.bool false]).flatten 49 none] := List.prefix_append _ _
  have hl02 : (m ++ [ABlk.own [.int .i64 x.kind, .int .i64 x.size, e, nm, .int .i64 x.dims, .bool x.flex] 49 none, ABlk.own (List.replicate (l.length + 1) [AVal.int .i64 0, AVal.int .i64 0, AVal.nilslice, AVal.nilslice, AVal.int .i64 0, AVal.bool false]).flatten 49 none]).length = m.length + 2 := by simp
  have hO : OwT m.length (m ++ [ABlk.own [.int .i64 x.kind, .int .i64 x.size, e, nm, .int .i64 x.dims, .bool x.flex] 49 none, ABlk.own (List.replicate (l.length + 1) [AVal.int .i64 0, AVal.int .i64 0, AVal.nilslice, AVal.nilslice, AVal.int .i64 0, AVal.bool false]).flatten 49 none]) (.slice (m.length + 1) 0 0 (l.length + 1) none) [] := by
    refine ⟨[], .inr ⟨m.length + 1, 0, l.length + 1, none, (List.replicate (l.length + 1) [AVal.int .i64 0, AVal.int .i64 0, AVal.nilslice, AVal.nilslice, AVal.int .i64 0, AVal.bool false]).flatten, none, rfl, by omega, by rw [List.getElem?_append_right (by omega)]; simp, by simp [readN], by simp, by simp, by simp [List.all_flatten], .inl rfl⟩, by simp⟩
  have hob : ∀ b, (AVal.slice (m.length + 1) 0 0 (l.length + 1) none).blk = some b → b = m.length + 1 := fun b hb => by simp [AVal.blk] at hb; omega
  generalize AVal.slice (m.length + 1) 0 0 (l.length + 1) none = out at *
  generalize m ++ [ABlk.own [.int .i64 x.kind, .int .i64 x.size, e, nm, .int .i64 x.dims, .bool x.flex] 49 none, ABlk.own (List.replicate (l.length + 1) [AVal.int .i64 0, AVal.int .i64 0, AVal.nilslice, AVal.nilslice, AVal.int .i64 0, AVal.bool false]).flatten 49 none] = m2 at *
  refine W_draw (fun i w m' => i = 1 → OwB m m2.length m' w l) (by simp [maxDst]) ?_
  have : ∀ (j : Nat) (m' : AMem), noFacts j m' := fun _ _ => trivial
  refine D_pre 0 1 [1, 2, 3, 6, 4, 5] (by simp only [List.drop_zero, List.drop_succ_cons, List.take_succ_cons, List.take_zero]; rfl) rfl rfl ‹_› ?_
  simp
  intro _ _
  refine D_C rfl trivial rfl (fun m' hm' _ => (k66 s l m m' (hm02.trans hm') hs (by omega)).mono ?_) ?_ ?_ ?_
  · rintro w m'' ⟨g1, cs, g2, g3⟩
    exact ⟨g1, fun _ => ⟨cs, g2.lo hm'.length_le, g3⟩⟩
  · obtain ⟨cs, g2, g3⟩ := hs
    have hcl2 := g2.length
    exact ⟨_, _, List.prefix_append _ _, fun _ => ⟨cs, Ow.new hcl2 (tab_all hcl2 g3), g3⟩⟩
  · rintro w m' m'' hm hk h
    exact (hk h).mono hm
  rintro w m4 hm4 hw4
  clear hw4
  refine D_R rfl trivial ⟨_, List.prefix_refl _, fun _ h => by cases h⟩ ?_
  simp [bxW hb0, readN]
  refine D_A rfl trivial ?_
  simp [fillA, setN, h1, h2]
  intro b'
  refine D_P rfl trivial ?_
  simp
  refine D_W rfl rfl fun m5 hm5 hf => ?_
  have g13 := hf 1
  have g15 := hf 3
  simp [upd] at g13 g15
  have hsc : sliceCells m5 6 (.slice b' 0 1 1 none) = some (1, [.int .i64 x.kind, .int .i64 x.size, e, nm, .int .i64 x.dims, .bool x.flex]) := by simp [sliceCells, readB, g15, ABlk.cells, readN]
  obtain ⟨t16, m6, happ, hch6, hB, hbl⟩ := g13.push hm5.length_le hx0 (by omega)
  have hm26 : m2 <+: m6 := hch6.pre hm5 fun b hb h => by have := (g13.blk_lo h).1; omega
  simp [hsc, happ]
  refine D_P rfl trivial ?_
  have htl := (hB.tab (hm02.trans hm26)).len
  simp [htl]
  refine D_end fun m7 hm7 _ => ?_
  simp
  replace hB := hB.mono hm7
  replace hm26 := hm26.trans hm7
  replace hO := hO.mono hm26
  replace htl := (hB.tab (hm02.trans hm26)).len
  clear g13 g15 hsc happ hch6 hbl hm5 hb0 hm4
  have hlen : (l ++ [x]).length = l.length + 1 := by simp
  generalize hL : l ++ [x] = L at *
  have hm27 := hm26.length_le
  obtain ⟨I, hI⟩ : ∃ I : Nat → AFrame → AMem → Prop, ∀ q a m', I q a m' ↔ (∃ (k : Nat) (o : AVal), k + q = L.length ∧ a = h138_0 o t16 (.int .i64 ((l.length : Int) + 1)) (.int .i64 k) ∧ m <+: m' ∧ Ch (fun b => b = m.length + 1) m7 m' ∧ OwT m.length m' o (L.take k) ∧ ∀ b, o.blk = some b → b = m.length + 1 ∨ m7.length ≤ b) := ⟨_, fun _ _ _ => Iff.rfl⟩
  refine W_loop I L.length ((hI _ _ _).2 ⟨0, out, by simp, by simp, hm02.trans hm26, .refl _ _, by simpa using hO, fun b hb => .inl (hob b hb)⟩) ?_
  clear hO hob
  rintro q a m8 hIn
  obtain ⟨k, o, hk, rfl, hm8, hch8, hO, hob⟩ := (hI _ _ _).1 hIn
  clear hIn
  simp
  refine bbind_dec (fun hkl => ?_) fun hkl => ?_
  · have hkl : k < L.length := by omega
    have hw := step64 (k := k) (n := L.length) hkl (by omega)
    obtain ⟨q, rfl⟩ : ∃ q', q = q' + 1 := ⟨q - 1, by omega⟩
    have hT8 := (hB.ch hch8 fun b hb e => by have := (hB.blk_lo hb).1; omega).tab hm8
    obtain ⟨bx', ox, c, h4, h5, _, _, h6⟩ := hT8.atC hkl
    simp [h4, h5]
    have hcl := h6.all
    rw [store_new _ _ c _ _ 6 hcl.1 rfl hcl.2]
    have hb7 : (m8 ++ [ABlk.own c 49 none])[m8.length]? = some (.own c 49 none) := by simp
    have hm89 : m8 <+: m8 ++ [ABlk.own c 49 none] := List.prefix_append _ _
    have hl9 : (m8 ++ [ABlk.own c 49 none]).length = m8.length + 1 := by simp
    have hsy := hsz _ (List.getElem_mem hkl)
    simp
    generalize hy : L[k] = y at *
    generalize m8 ++ [ABlk.own c 49 none] = m9 at *
    generalize hb7e : m8.length = b7 at *
    obtain ⟨e2, nm2, c0, c1, c2, c3, c4, c5, he2, hnm2, rfl⟩ := h6.get
    replace he2 := he2.mono hm89
    replace hnm2 := hnm2.mono hm89
    refine W_draw (fun i v m' => (i = 2 → OwL (AVal.int .i64) m9.length m' 3 v y.elems) ∧ (i = 5 → OwL AVal.str m9.length m' 9 v y.names)) (by simp [maxDst]) ?_
    have : ∀ (j : Nat) (m' : AMem), noFacts j m' := fun _ _ => trivial
    refine D_pre 0 2 [2, 3, 4, 5, 6, 7, 8, 9] (by simp only [List.drop_zero, List.drop_succ_cons, List.take_succ_cons, List.take_zero]; rfl) rfl rfl ‹_› ?_
    simp [bx (own_read hb7)]
    intro _ _
    refine D_C rfl trivial rfl (fun m' hm' _ => (k30 e2 y.elems m' (he2.mono hm') (by omega)).mono ?_) ?_ ?_ ?_
    · rintro w m'' ⟨g1, g2⟩
      exact ⟨g1, fun _ => g2.lo' hm'.length_le, by simp⟩
    · exact ⟨_, _, List.prefix_append _ _, fun _ => OwL.new m9 3 y.elems, by simp⟩
    · rintro w m' m'' hm hk
      exact ⟨fun h => (hk.1 h).mono hm, fun h => (hk.2 h).mono hm⟩
    rintro v2 m10 hm10 hv2
    have v2s := (Ow.sl (hv2.1 rfl)).self
    clear hv2 hm10
    refine D_P rfl trivial ?_
    simp
    refine D_R rfl trivial ⟨_, List.prefix_refl _, fun _ h => by cases h⟩ ?_
    simp [bx (own_read hb7)]
    refine D_C rfl trivial rfl (fun m' hm' _ => (k142 nm2 y.names m' (hnm2.mono hm') (by omega)).mono ?_) ?_ ?_ ?_
    · rintro w m'' ⟨g1, g2, _⟩
      exact ⟨g1, by simp, fun _ => g2.lo' hm'.length_le⟩
    · exact ⟨_, _, List.prefix_append _ _, by simp, fun _ => OwL.new m9 9 y.names⟩
    · rintro w m' m'' hm hk
      exact ⟨fun h => (hk.1 h).mono hm, fun h => (hk.2 h).mono hm⟩
    rintro v5 m10 hm10 hv5
    have v5s := (Ow.sl (hv5.2 rfl)).self
    clear hv5 hm10
    refine D_P rfl trivial ?_
    simp
    refine D_W rfl rfl fun m10 hm10 hf => ?_
    have g2 := hf 2
    have g5 := hf 5
    simp [upd] at g2 g5
    have hb10 := own_mono hb7 hm10
    obtain ⟨m11, hst, hb11, hch11⟩ := fld_store (i := 2) hb10 (by simp) v2s.2 v2s.1
    simp [hst]
    refine D_P rfl trivial ?_
    simp
    refine D_W rfl rfl fun m12 hm12 _ => ?_
    have hb12 := own_mono hb11 hm12
    obtain ⟨m13, hst13, hb13, hch13⟩ := fld_store (i := 3) hb12 (by simp) v5s.2 v5s.1
    simp [hst13]
    refine D_end fun m14 hm14 _ => ?_
    have hb14 := own_mono hb13 hm14
    simp at hb14
    have hchx : Ch (fun b => b = b7) m10 m14 := ((hch11.trans (.of_prefix hm12)).trans hch13).trans (.of_prefix hm14)
    have g2' := g2.ch hchx fun b hb e => by have := (g2.blk_lo hb).1; omega
    have g5' := g5.ch hchx fun b hb e => by have := (g5.blk_lo hb).1; omega
    have hm814 : m8 <+: m14 := hchx.pre (hm89.trans hm10) fun b hb e => by omega
    have hO14 := hO.mono hm814
    have hsc : sliceCells (m14 ++ [ABlk.own [.int .i64 y.kind, .int .i64 y.size, v2, v5, .int .i64 y.dims, .bool y.flex] 49 none]) 6 (.slice m14.length 0 1 1 none) = some (1, [.int .i64 y.kind, .int .i64 y.size, v2, v5, .int .i64 y.dims, .bool y.flex]) := by simp [sliceCells, readB, ABlk.cells, readN]
    have hm1415 : m14 <+: m14 ++ [ABlk.own [.int .i64 y.kind, .int .i64 y.size, v2, v5, .int .i64 y.dims, .bool y.flex] 49 none] := List.prefix_append _ _
    have hol : ∀ b, o.blk = some b → m.length ≤ b ∧ b < m8.length := fun b hb => hO.blk_lo hb
    simp [bxW (own_read hb14), readN, fillA, setN, v2s.1, v5s.1]
    generalize m14 ++ [ABlk.own [.int .i64 y.kind, .int .i64 y.size, v2, v5, .int .i64 y.dims, .bool y.flex] 49 none] = m15 at *
    have hm815 := hm814.trans hm1415
    have hl815 := hm815.length_le
    obtain ⟨o', m16, happ, hch16, hO16, hob16⟩ := (hO14.mono hm1415).push (c := [.int .i64 y.kind, .int .i64 y.size, v2, v5, .int .i64 y.dims, .bool y.flex]) (x := y) (by have := hm8.length_le; omega) (fun m' hc => ⟨v2, v5, rfl, ((g2'.mono hm1415).ch hc fun b hb e => by have := (g2.blk_lo hb).1; have := hol b e; omega).ints, Ow.sl ((g5'.mono hm1415).ch hc fun b hb e => by have := (g5.blk_lo hb).1; have := hol b e; omega)⟩) (by simp; omega)
    simp [hsc, happ, hw]
    refine ⟨q, by omega, (hI _ _ _).2 ⟨k + 1, o', by omega, by simp, hch16.pre (hm8.trans hm815) fun b hb e => by have := hol b e; omega, (hch8.andThen (.of_prefix (S := fun _ => False) hm815) fun b hb h => h.elim).andThen hch16 fun b hb h => ?_, ?_, fun b hb => ?_⟩⟩
    · rcases hob b h with h | h
      · exact h
      · omega
    · rw [List.take_add_one, List.getElem?_eq_getElem hkl, hy]
      exact hO16
    · rcases hob16 b hb with h | h
      · exact hob b h
      · have := hch8.len; right; omega
  · have hkl : k = L.length := by omega
    subst hkl
    rw [List.take_length] at hO
    simp
    exact ⟨hm8, hO⟩
end Go.Proofs.YtheadodblifklaaGreat

namespace Go.Proofs.YtheadodblifklaaGreat
open Go Ax
set_option maxRecDepth 100000
def slice3E (esz : Nat) (v hi mx : AVal) : Option AVal := match v with
  | .nilslice => (bdE (some hi) 0).bind fun h => (bdE (some mx) 0).bind fun m => evSlice esz .nilslice 0 h (some m)
  | .slice b o n k ex => (bdE (some hi) n).bind fun h => (bdE (some mx) 0).bind fun m => evSlice esz (.slice b o n k ex) 0 h (some m)
  | _ => none
theorem ev_slice3 (a : AFrame) (esz : Nat) (x hi mx : Arg) : POp.ev a (.slice esz x none (some hi) (some mx)) = slice3E esz (a.ev x) (a.ev hi) (a.ev mx) := by
  simp only [POp.ev, bnd_eq, slice3E]
  cases a.ev x <;> rfl
theorem RTab.slice3 {m : AMem} {s : AVal} {L : List Md} (h : RTab m s L) {n : Nat} (hn : n ≤ L.length) : ∃ s', slice3E 6 s (.int .i64 n) (.int .i64 n) = some s' ∧ RTab m s' (L.take n) := by
  obtain ⟨cs, h1, h2⟩ := h
  have hcl := h1.length
  have hmd : ∀ (i : Nat) x, (L.take n)[i]? = some x → RMode m (((cs.take (n * 6)).drop (i * 6)).take 6) x := by
    intro i x hx
    have hi : i < n := by
      have := (List.getElem?_eq_some_iff.1 hx).1
      simp at this; omega
    rw [List.getElem?_take, if_pos hi] at hx
    have := h2 i x hx
    rw [List.drop_take, List.take_take, Nat.min_eq_left (by omega)]
    exact this
  have hlt : (L.take n).length = n := by simp; omega
  rcases h1 with ⟨rfl, hl, rfl⟩ | ⟨b, o, cap, gr, rfl, ⟨hc, hg⟩, h3⟩
  · obtain rfl : n = 0 := by omega
    exact ⟨.nilslice, by simp [slice3E, bdE, evSlice], [], by simpa using Sl.nil, by simp⟩
  · refine ⟨.slice b o n n none, ?_, cs.take (n * 6), ?_, hmd⟩
    · simp [slice3E, bdE, evSlice]
      omega
    · rw [hlt]
      refine .inr ⟨b, o, n, none, rfl, ⟨Nat.le_refl _, .inl rfl⟩, ?_⟩
      by_cases h0 : n = 0
      · subst h0; exact .inl ⟨rfl, by simp⟩
      · rcases h3 with ⟨h3, _⟩ | ⟨_, bl, h4, h5⟩
        · omega
        · refine .inr ⟨h0, bl, h4, ?_⟩
          have := readN_sub h5 (i := 0) (k := n * 6) (by omega)
          simpa using this
noncomputable def findI (l : List Md) (x : Md) : Option Nat :=
  if (l.length : Int) ∈ x.elems then none
  else if checkI (l ++ [x]) ≠ 0 then none
  else if fidx (fun i => RR (l ++ [x]) i == RR (l ++ [x]) l.length) 0 (l.length + 1) = l.length then none
  else some (fidx (fun i => RR (l ++ [x]) i == RR (l ++ [x]) l.length) 0 (l.length + 1)).toNat
noncomputable def putI (l : List Md) (x : Md) : List Md × Int × Int :=
  if checkI l ≠ 0 then ([], 0, checkI l)
  else match findI l x with
    | some i => (l, i, 0)
    | none => if checkI (l ++ [x]) ≠ 0 then ([], 0, checkI (l ++ [x])) else (l ++ [x], l.length, 0)
theorem k137 (s : AVal) (c : List AVal) (l : List Md) (x : Md) (m : AMem) (hs : RTab m s l) (hx : RMode m c x) (hsz : ∀ y ∈ l ++ [x], smallN y) (h40 : ∀ y ∈ l ++ [x], y.elems.length < 2 ^ 40 ∧ y.names.length < 2 ^ 40) (hn : T13 (l ++ [x])) :
    ACalls Tryz.prog 137 [s, .agg c] m fun v m' => m <+: m' ∧ v = .tuple [.int .i64 ((findI l x).getD 0 : Nat), .bool (findI l x).isSome] := by
  have hx0 := hx
  have hcl := hx.all
  obtain ⟨e, nm, rfl, he, hnm⟩ := hx
  refine w137 ?_
  have h60 := hn.len
  rw [List.length_append, List.length_singleton] at h60
  have h1 := Sl.one he
  have h2 := Sl.one hnm
  simp [h1, h2, hs.len]
  have hb0 := readB_new m [.int .i64 x.kind, .int .i64 x.size, e, nm, .int .i64 x.dims, .bool x.flex] 49 none
  have hm01 : m <+: m ++ [.own [.int .i64 x.kind, .int .i64 x.size, e, nm, .int .i64 x.dims, .bool x.flex] 49 none] := List.prefix_append _ _
  generalize m ++ [.own [.int .i64 x.kind, .int .i64 x.size, e, nm, .int .i64 x.dims, .bool x.flex] 49 none] = m1 at *
  generalize m.length = b3 at *
  have hxs := hsz x (by simp)
  refine C_of (k171 e x.elems _ m1 (he.mono hm01) hxs.1) ?_
  rintro _ m2 ⟨rfl, rfl⟩
  by_cases hin : (l.length : Int) ∈ x.elems
  · simp [hin, findI]
    exact hm01
  · simp [hin, bxW hb0, readN]
    refine C_of (k138 s _ l x m2 (hs.mono hm01) (hx0.mono hm01) h40 (by omega)) ?_
    rintro v3 m3 ⟨hm3, hT⟩
    have hlL : (l ++ [x]).length = l.length + 1 := by simp
    simp
    refine C_of (k49 v3 (l ++ [x]) m3 hT.tab hsz (by omega)) ?_
    rintro _ m4 ⟨rfl, hm4⟩
    have hfind : findI l x = if checkI (l ++ [x]) ≠ 0 then none else if fidx (fun i => RR (l ++ [x]) i == RR (l ++ [x]) l.length) 0 (l.length + 1) = l.length then none else some (fidx (fun i => RR (l ++ [x]) i == RR (l ++ [x]) l.length) 0 (l.length + 1)).toNat := by
      unfold findI
      rw [if_neg hin]
    have hm04 := (hm01.trans hm3).trans hm4
    by_cases hc : checkI (l ++ [x]) = 0
    · have ok := okT_of hc
      simp [hc]
      refine C_of (k52 v3 (l ++ [x]) m4 (hT.mono hm4).tab ok.good hn.t60 hsz ok.h64) ?_
      rintro v5 m5 ⟨hm5, ds, kd, hX, hD⟩
      have hXi := ints_of_nat hX
      have hdl := hD.len
      obtain ⟨b1, o1, g1, g2⟩ := hXi.at (i := l.length) (by simp; omega)
      simp [hs.len, g1, g2]
      have hnd : l.length < ds.length := by omega
      refine C_of (k98 v5 _ (ds[l.length] : Nat) m5 hXi (by simp; omega)) ?_
      rintro _ m6 ⟨rfl, rfl⟩
      have hF : fidx (fun i => (ds.map fun z : Nat => (z : Int))[i]? == some ((ds[l.length] : Nat) : Int)) 0 (ds.map fun z : Nat => (z : Int)).length = fidx (fun i => RR (l ++ [x]) i == RR (l ++ [x]) l.length) 0 (l.length + 1) := by
        rw [List.length_map, hdl, hlL]
        refine fidx_congr _ _ fun j _ hj => ?_
        have hso := hD.sameOrd.eq (a := j) (b := l.length) (by omega) (by omega)
        have e1 : ds.getD j 0 = ds[j]'(by omega) := by simp [List.getD, show j < ds.length by omega]
        have e2 : ds.getD l.length 0 = ds[l.length] := by simp [List.getD, hnd]
        rw [e1, e2] at hso
        rw [Bool.eq_iff_iff]
        simp [show j < ds.length by omega]
        rw [← hso]
        omega
      rw [hF]
      have hge : 0 ≤ fidx (fun i => RR (l ++ [x]) i == RR (l ++ [x]) l.length) 0 (l.length + 1) := (fidx_nonneg _ _ _).2 ⟨l.length, by omega, by omega, by simp⟩
      rw [if_neg (by simp [hc])] at hfind
      generalize fidx (fun i => RR (l ++ [x]) i == RR (l ++ [x]) l.length) 0 (l.length + 1) = F at *
      by_cases hFl : F = l.length
      · rw [if_pos hFl] at hfind
        subst hFl
        simp [hs.len, hfind]
        exact hm04.trans hm5
      · rw [if_neg hFl] at hfind
        simp [hs.len, hfind, beqF hFl]
        exact ⟨hm04.trans hm5, by omega⟩
    · have : findI l x = none := by rw [hfind, if_pos hc]
      simp [bneT hc, this]
      exact hm04
theorem RTab.nil0 (m : AMem) : RTab m .nilslice [] := ⟨[], Sl.nil, by simp⟩
theorem k97 (s : AVal) (c : List AVal) (l : List Md) (x : Md) (m : AMem) (hs : RTab m s l) (hx : RMode m c x) (hsz : ∀ y ∈ l ++ [x], smallN y) (h40 : ∀ y ∈ l ++ [x], y.elems.length < 2 ^ 40 ∧ y.names.length < 2 ^ 40) (hn : T13 (l ++ [x])) :
    ACalls Tryz.prog 97 [s, .agg c] m fun v m' => m <+: m' ∧ ∃ t, v = .tuple [t, .int .i64 (putI l x).2.1, .int .i64 (putI l x).2.2] ∧ RTab m' t (putI l x).1 := by
  have hx0 := hx
  have hcl := hx.all
  obtain ⟨e, nm, rfl, he, hnm⟩ := hx
  refine w97 ?_
  have h60 := hn.len
  rw [List.length_append, List.length_singleton] at h60
  have h1 := Sl.one he
  have h2 := Sl.one hnm
  simp [h1, h2]
  have hb0 := readB_new m [.int .i64 x.kind, .int .i64 x.size, e, nm, .int .i64 x.dims, .bool x.flex] 49 none
  have hm01 : m <+: m ++ [.own [.int .i64 x.kind, .int .i64 x.size, e, nm, .int .i64 x.dims, .bool x.flex] 49 none] := List.prefix_append _ _
  generalize m ++ [.own [.int .i64 x.kind, .int .i64 x.size, e, nm, .int .i64 x.dims, .bool x.flex] 49 none] = m1 at *
  generalize m.length = b3 at *
  have hlL : (l ++ [x]).length = l.length + 1 := by simp
  refine C_of (k49 s l m1 (hs.mono hm01) (fun y hy => hsz y (by simp [hy])) (by omega)) ?_
  rintro _ m2 ⟨rfl, hm2⟩
  have hm02 := hm01.trans hm2
  by_cases hc : checkI l = 0
  · have hp : putI l x = match findI l x with
      | some i => (l, (i : Int), 0)
      | none => if checkI (l ++ [x]) ≠ 0 then ([], 0, checkI (l ++ [x])) else (l ++ [x], (l.length : Int), 0) := by
      unfold putI
      rw [if_neg (by simp [hc])]
    simp [hc, bxW (readB_mono hm2 hb0), readN]
    refine C_of (k137 s _ l x m2 (hs.mono hm02) (hx0.mono hm02) hsz h40 hn) ?_
    rintro _ m3 ⟨hm3, rfl⟩
    have hm03 := hm02.trans hm3
    cases hf : findI l x with
    | some i =>
      rw [hf] at hp
      simp only at hp
      simp [bxW (readB_mono (hm2.trans hm3) hb0), readN]
      refine C_of (k138 s _ l x m3 (hs.mono hm03) (hx0.mono hm03) h40 (by omega)) ?_
      rintro v4 m4 ⟨hm4, hT⟩
      obtain ⟨s', g1, g2⟩ := RTab.slice3 hT.tab (n := l.length) (by omega)
      rw [List.take_left'] at g2
      · simp [hs.len, ev_slice3, g1, hp]
        exact ⟨hm03.trans hm4, g2⟩
      · rfl
    | none =>
      rw [hf] at hp
      simp only at hp
      simp [bxW (readB_mono (hm2.trans hm3) hb0), readN]
      refine C_of (k138 s _ l x m3 (hs.mono hm03) (hx0.mono hm03) h40 (by omega)) ?_
      rintro v4 m4 ⟨hm4, hT⟩
      simp
      refine C_of (k49 v4 (l ++ [x]) m4 hT.tab hsz (by omega)) ?_
      rintro _ m5 ⟨rfl, hm5⟩
      have hm05 := (hm03.trans hm4).trans hm5
      by_cases hc2 : checkI (l ++ [x]) = 0
      · rw [if_neg (by simp [hc2])] at hp
        simp [hc2, hp, hs.len]
        exact ⟨hm05, (hT.mono hm5).tab⟩
      · rw [if_pos hc2] at hp
        simp [bneT hc2, hp]
        exact ⟨hm05, RTab.nil0 _⟩
  · have hp : putI l x = ([], 0, checkI l) := by
      unfold putI
      rw [if_pos hc]
    simp [bneT hc, hp]
    exact ⟨hm02, RTab.nil0 _⟩
end Go.Proofs.YtheadodblifklaaGreat

namespace Go.Proofs.YtheadodblifklaaGreat
open Go Ax
open Relation
set_option maxRecDepth 100000
def unionOf (zs : List Nat) : Md := ⟨12, 0, zs.map fun z : Nat => (z : Int), [], 0, false⟩
theorem mdAt_app {l : List Md} {x : Md} {i : Nat} (h : i < l.length) : mdAt (l ++ [x]) i = mdAt l i := by
  unfold mdAt
  rw [List.getElem?_append_left h]
theorem mdAt_last {l : List Md} {x : Md} : mdAt (l ++ [x]) l.length = x := by
  unfold mdAt
  rw [List.getElem?_concat_length]
  rfl
theorem step_same {l : List Md} {a b : Nat} (ha : a < l.length) (hb : b < l.length) (hk : (mdAt l a).kind = (mdAt l b).kind) (he : (mdAt l a).elems = (mdAt l b).elems) {y : Nat} (h : stepR l isU a y) : stepR l isU b y := by
  obtain ⟨x, h1, h2, h3⟩ := h
  rw [mdAt_eq ha, mdAt_eq hb] at hk he
  rw [List.getElem?_eq_getElem ha] at h1
  cases h1
  refine ⟨l[b], List.getElem?_eq_getElem hb, ?_, by rw [← he]; exact h3⟩
  unfold isU at h2 ⊢
  rw [← hk]; exact h2
theorem part_same {l : List Md} {a b : Nat} (ha : a < l.length) (hb : b < l.length) (hk : (mdAt l a).kind = (mdAt l b).kind) (he : (mdAt l a).elems = (mdAt l b).elems) {j : Nat} (h : IsPart l a j) : IsPart l b j := by
  refine ⟨?_, h.2⟩
  have := h.1
  clear h
  induction this with
  | single h => exact .single (step_same ha hb hk he h)
  | tail _ h ih => exact .tail ih h
theorem stepR_app {l : List Md} {x : Md} (hg : goodT l) {p : Md → Bool} {a b : Nat} (ha : a < l.length) : stepR (l ++ [x]) p a b ↔ stepR l p a b ∧ b < l.length := by
  unfold stepR
  rw [List.getElem?_append_left ha]
  constructor
  · rintro ⟨y, h1, h2, h3⟩
    have := hg y (List.mem_of_getElem? h1) _ h3
    exact ⟨⟨y, h1, h2, h3⟩, by omega⟩
  · exact fun h => h.1
theorem tg_app {l : List Md} {x : Md} (hg : goodT l) {p : Md → Bool} {a b : Nat} (ha : a < l.length) (h : TransGen (stepR (l ++ [x]) p) a b) : TransGen (stepR l p) a b ∧ b < l.length := by
  induction h with
  | single h => have := (stepR_app hg ha).1 h; exact ⟨.single this.1, this.2⟩
  | tail _ h ih => have := (stepR_app hg ih.2).1 h; exact ⟨.tail ih.1 this.1, this.2⟩
section
variable {l : List Md} {zs : List Nat}
theorem part_old {x : Md} (hg : goodT l) {a j : Nat} (ha : a < l.length) : IsPart (l ++ [x]) a j ↔ IsPart l a j := by
  constructor
  · rintro ⟨h1, h2⟩
    obtain ⟨h3, h4⟩ := tg_app hg ha h1
    exact ⟨h3, fun y hy => h2 y (by rw [List.getElem?_append_left h4]; exact hy)⟩
  · intro h
    have hj := h.lt hg
    refine ⟨?_, fun y hy => h.2 y (by rwa [List.getElem?_append_left hj] at hy)⟩
    have hT := h.1
    clear h hj
    have : ∀ {b}, TransGen (stepR l isU) a b → TransGen (stepR (l ++ [x]) isU) a b ∧ b < l.length := fun hb => by
      induction hb with
      | @single b h =>
        have hb' : b < l.length := by obtain ⟨y, h1, _, h3⟩ := h; have := hg y (List.mem_of_getElem? h1) _ h3; omega
        exact ⟨.single ((stepR_app hg ha).2 ⟨h, hb'⟩), hb'⟩
      | @tail c b _ h ih =>
        have hb' : b < l.length := by obtain ⟨y, h1, _, h3⟩ := h; have := hg y (List.mem_of_getElem? h1) _ h3; omega
        exact ⟨.tail ih.1 ((stepR_app hg ih.2).2 ⟨h, hb'⟩), hb'⟩
    exact (this hT).1
theorem part_new (hz : ∀ z ∈ zs, z < l.length ∧ isU (mdAt l z) = false) {j : Nat} : IsPart (l ++ [unionOf zs]) l.length j ↔ j ∈ zs := by
  have hnu : ∀ z ∈ zs, ∀ y, (l ++ [unionOf zs])[z]? = some y → isU y = false := fun z h y hy => by
    obtain ⟨h1, h2⟩ := hz z h
    rw [List.getElem?_append_left h1] at hy
    rw [mdAt_eq h1] at h2
    rw [List.getElem?_eq_getElem h1] at hy
    cases hy
    exact h2
  have h1 : ∀ b, stepR (l ++ [unionOf zs]) isU l.length b → b ∈ zs := fun b ⟨y, h1, _, h3⟩ => by
    rw [List.getElem?_concat_length] at h1
    cases h1
    obtain ⟨z, hz1, hz2⟩ := List.mem_map.1 h3
    have : z = b := by omega
    exact this ▸ hz1
  constructor
  · rintro ⟨h, _⟩
    have : ∀ {b}, TransGen (stepR (l ++ [unionOf zs]) isU) l.length b → b ∈ zs := fun hb => by
      induction hb with
      | single h => exact h1 _ h
      | tail _ h ih =>
        obtain ⟨y, g1, g2, _⟩ := h
        rw [hnu _ ih y g1] at g2
        cases g2
    exact this h
  · intro h
    exact ⟨.single ⟨unionOf zs, by rw [List.getElem?_concat_length], by simp [isU, unionOf], List.mem_map.2 ⟨j, h, rfl⟩⟩, hnu j h⟩
theorem part_in {x j : Nat} (h : IsPart l x j) : x < l.length := by
  have : ∀ {b}, TransGen (stepR l isU) x b → x < l.length := fun hb => by
    induction hb with
    | single h => obtain ⟨y, h1, _⟩ := h; exact (List.getElem?_eq_some_iff.1 h1).1
    | tail _ _ ih => exact ih
  exact this h.1
theorem part_head {x j : Nat} (hx : x < l.length) (h : IsPart l x j) : isU (mdAt l x) = true := by
  have : ∀ {b}, TransGen (stepR l isU) x b → isU (mdAt l x) = true := fun hb => by
    induction hb with
    | single h => obtain ⟨y, h1, h2, _⟩ := h; rw [List.getElem?_eq_getElem hx] at h1; cases h1; rw [mdAt_eq hx]; exact h2
    | tail _ _ ih => exact ih
  exact this h.1
theorem sub_le {xs ys : List Nat} (h : xs.Nodup) (hs : ∀ x ∈ xs, x ∈ ys) : xs.length ≤ ys.length := List.Nodup.length_le_of_subset h hs
theorem T13.of (hn : l.length ≤ 13) : T13 l := by
  refine ⟨by omega, fun hg x O h1 h2 => ?_⟩
  cases O with
  | nil => simp
  | cons j O =>
    have hx := part_in (h2 j (by simp))
    have hxu := part_head hx (h2 j (by simp))
    have hxO : x ∉ j :: O := fun h => by
      have := (h2 x h).2 l[x] (List.getElem?_eq_getElem hx)
      rw [mdAt_eq hx] at hxu
      rw [hxu] at this
      cases this
    have := nodup_le l.length (x :: j :: O) (List.nodup_cons.2 ⟨hxO, h1⟩) fun z hz => by
        rcases List.mem_cons.1 hz with rfl | hz
        · exact hx
        · exact (h2 z hz).lt hg
    simp at this ⊢
    omega
theorem T13.union (h : T13 l) (hg : goodT l) (h59 : l.length < 19) (hz : ∀ z ∈ zs, z < l.length ∧ isU (mdAt l z) = false) (hz12 : zs.length ≤ 12) : T13 (l ++ [unionOf zs]) := by
  refine ⟨by simp; omega, fun _ x O h1 h2 => ?_⟩
  rcases Nat.lt_trichotomy x l.length with hx | rfl | hx
  · exact h.few hg x O h1 fun j hj => (part_old hg hx).1 (h2 j hj)
  · exact Nat.le_trans (sub_le h1 fun j hj => (part_new hz).1 (h2 j hj)) hz12
  · cases O with
    | nil => simp
    | cons j O => have := part_in (h2 j (by simp)); simp at this; omega
theorem T13.copy (h : T13 l) (hg : goodT l) (h59 : l.length < 19) {z : Nat} (hz : z < l.length) : T13 (l ++ [mdAt l z]) := by
  refine ⟨by simp; omega, fun _ x O h1 h2 => ?_⟩
  rcases Nat.lt_trichotomy x l.length with hx | rfl | hx
  · exact h.few hg x O h1 fun j hj => (part_old hg hx).1 (h2 j hj)
  · refine h.few hg z O h1 fun j hj => (part_old (x := mdAt l z) hg hz).1 (part_same (a := l.length) (by simp) (by simp; omega) ?_ ?_ (h2 j hj))
    · rw [mdAt_last, mdAt_app hz]
    · rw [mdAt_last, mdAt_app hz]
  · cases O with
    | nil => simp
    | cons j O => have := part_in (h2 j (by simp)); simp at this; omega
end
theorem base_nu {l : List Md} {x j : Nat} (hjl : j < l.length) (hj : IsBase l x j) : isU (mdAt l j) = false := by
  unfold IsBase at hj
  split at hj
  · rw [mdAt_eq hjl]; exact hj.2 _ (List.getElem?_eq_getElem hjl)
  · rename_i h; subst hj; simpa using h
theorem T13.bases {l : List Md} (h : T13 l) (hg : goodT l) {x : Nat} (hx : x < l.length) : (basesOf l x).length ≤ 12 := by
  have hb := fun z hz => basesOf_sub hg hx (z := z) hz
  cases hu : isU (mdAt l x)
  · rw [(basesEx hg hx).el hu]; simp
  · refine h.few hg x _ ?_ fun z hz => ?_
    · obtain ⟨O, _, h2⟩ := (basesEx hg hx).un hu
      exact h2.asc.imp fun hab => by intro e; subst e; omega
    · have := hb z hz
      unfold IsBase at this
      rw [if_pos hu] at this
      exact this
end Go.Proofs.YtheadodblifklaaGreat

namespace Go.Proofs.YtheadodblifklaaGreat
open Go Ax
set_option maxRecDepth 100000
theorem k55 (s ro t : AVal) (l : List Md) (rk zs : List Nat) (x b1 b2 : Nat) (m : AMem) (hs : RTab m s l) (hro : RInts m ro (rk.map fun z : Nat => (z : Int))) (ht : RInts m t (zs.map fun z : Nat => (z : Int))) (hz : ∀ z ∈ zs, z < rk.length) (hx : x < rk.length) (hn : zs.length < 2 ^ 62) (hb1 : readB m b1 = some [s, ro]) (hb2 : readB m b2 = some [t]) :
    ACalls Tryz.prog 55 [.int .i64 x, .ptr b1 0, .ptr b2 0] m fun v m' => v = .bool (zs.any fun z => rk.getD z 0 == rk.getD x 0) ∧ m <+: m' := by
  refine w55 ?_
  simp [bxW hb1, readN, bx hb2]
  refine C_of (k46 s ro t rk zs x m hs.self hro ht hz hx hn) ?_
  rintro _ m2 ⟨rfl, hm2⟩
  simp [hm2]
noncomputable def ofI (l : List Md) (zs : List Nat) : List Md × Int × Int :=
  if zs.length = 1 then ((putI l (mdAt l (zs.getD 0 0))).1, fidx (fun i => RR l i == RR l (zs.getD 0 0)) 0 l.length, (putI l (mdAt l (zs.getD 0 0))).2.2)
  else putI l (unionOf zs)
set_option maxHeartbeats 4000000 in
theorem k56 (s ro t : AVal) (l : List Md) (ds zs : List Nat) (kd : Nat) (m : AMem) (hs : RTab m s l) (hro : RInts m ro (ds.map fun z : Nat => (z : Int))) (hD : DenseOf l.length (fun a b => RR l a < RR l b) ds kd) (ht : RInts m t (zs.map fun z : Nat => (z : Int))) (hz : ∀ z ∈ zs, z < l.length) (hsz : ∀ y ∈ l, smallN y) (h40 : ∀ y ∈ l, y.elems.length < 2 ^ 40 ∧ y.names.length < 2 ^ 40) (hn : T13 l) (h59 : l.length < 19) (hg : goodT l) (hzu : ∀ z ∈ zs, isU (mdAt l z) = false) (hz12 : zs.length ≤ 12) :
    ACalls Tryz.prog 56 [.agg [s, ro], t] m fun v m' => m <+: m' ∧ ∃ t', v = .tuple [t', .int .i64 (ofI l zs).2.1, .int .i64 (ofI l zs).2.2] ∧ RTab m' t' (ofI l zs).1 := by
  refine w56 ?_
  obtain ⟨hsl, hsc⟩ := hs.self
  obtain ⟨hr1, hr2⟩ := Sl.self hro
  have htl := ht.len
  rw [List.length_map] at htl
  simp [hsl, hsc, hr1, hr2, htl]
  have hb0 := readB_new m [s, ro] 53 none
  have hm1 : m <+: m ++ [.own [s, ro] 53 none] := List.prefix_append _ _
  generalize m ++ [.own [s, ro] 53 none] = m1 at *
  generalize m.length = b2 at *
  by_cases h1 : zs.length = 1
  · have hz0 : zs.getD 0 0 < l.length := by
      have : zs.getD 0 0 = zs[0] := by simp [List.getD, h1]
      rw [this]; exact hz _ (List.getElem_mem _)
    have ho : ofI l zs = ((putI l (mdAt l (zs.getD 0 0))).1, fidx (fun i => RR l i == RR l (zs.getD 0 0)) 0 l.length, (putI l (mdAt l (zs.getD 0 0))).2.2) := by unfold ofI; rw [if_pos h1]
    rw [ho]
    obtain ⟨bt, ot, g1, g2⟩ := ht.at (i := 0) (by simp; omega)
    have e0 : (zs.map fun z : Nat => (z : Int))[0]'(by simp; omega) = ((zs.getD 0 0 : Nat) : Int) := by simp [List.getD, h1]
    rw [e0] at g2
    generalize zs.getD 0 0 = z0 at *
    have hmd := mdAt_eq hz0
    obtain ⟨bx', ox, c, g3, g4, _, _, g5⟩ := hs.atC hz0
    rw [← hmd] at g5
    simp [h1]
    refine W_draw (fun _ _ _ => True) (by simp [maxDst]) ?_
    refine D_pc 0 9 [9, 10, 11, 12, 13, 14, 15, 16] ?_
    have g2' := loadE_mono hm1 g2
    have g4' := loadE_mono hm1 g4
    have g10 := g1 .i64
    simp at g10
    simp [bx hb0, g10, g2', g3, g4']
    intro _ _
    refine D_X rfl rfl fun m2 hm2 _ => ?_
    simp
    have hmm : mdAt l z0 ∈ l := by rw [hmd]; exact List.getElem_mem hz0
    have hm02 := hm1.trans hm2
    refine C_of (k97 s c l (mdAt l z0) m2 (hs.mono hm02) (g5.mono hm02) (fun y hy => ?_) (fun y hy => ?_) (hn.copy hg h59 hz0)) ?_
    · rcases List.mem_append.1 hy with h | h
      · exact hsz y h
      · simp at h; subst h; exact hsz _ hmm
    · rcases List.mem_append.1 hy with h | h
      · exact h40 y h
      · simp at h; subst h; exact h40 _ hmm
    rintro _ m3 ⟨hm3, t', rfl, hT⟩
    refine ⟨by simp [lateOf], ?_⟩
    refine D_pc 10 7 [] ?_
    simp
    intro _ _
    refine D_end fun m4 hm4 _ => ?_
    have hm14 := (hm2.trans hm3).trans hm4
    have hb4 := readB_mono hm14 hb0
    simp
    refine W_draw (fun _ _ _ => True) (by simp [maxDst]) ?_
    refine D_pc 0 10 [11, 10, 12, 13, 14] ?_
    obtain ⟨br, or_, g6, g7⟩ := ranksAt hro (x := z0) (by rw [hD.len]; exact hz0)
    have g7 := g7 m4 (hm1.trans hm14)
    have g2'' := loadE_mono hm14 g2'
    simp [bx hb4, g10, g2'', g6, g7]
    intro _ _
    refine D_P rfl trivial ?_
    simp
    refine D_X rfl rfl fun m5 hm5 _ => ?_
    simp
    have hdl := hD.len
    refine C_of (k98 ro _ (ds.getD z0 0 : Nat) m5 (hro.mono ((hm1.trans hm14).trans hm5)) (by simp; omega)) ?_
    rintro _ m6 ⟨rfl, rfl⟩
    have hF : fidx (fun i => (ds.map fun z : Nat => (z : Int))[i]? == some ((ds.getD z0 0 : Nat) : Int)) 0 (ds.map fun z : Nat => (z : Int)).length = fidx (fun i => RR l i == RR l z0) 0 l.length := by
      rw [List.length_map, hdl]
      refine fidx_congr _ _ fun j _ hj => ?_
      have hso := hD.sameOrd.eq (a := j) (b := z0) (by omega) (by omega)
      have e1 : ds.getD j 0 = ds[j]'(by omega) := by simp [List.getD, show j < ds.length by omega]
      rw [Bool.eq_iff_iff]
      simp only [List.getElem?_map, List.getElem?_eq_getElem (show j < ds.length by omega), Option.map_some, beq_iff_eq, Option.some.injEq]
      rw [← hso, e1]
      omega
    rw [hF]
    refine ⟨by simp [lateOf], ?_⟩
    refine D_pc 12 3 [] ?_
    simp
    intro _ _
    refine D_end fun m7 hm7 _ => ?_
    simp
    exact ⟨((hm1.trans hm14).trans hm5).trans hm7, hT.mono ((hm4.trans hm5).trans hm7)⟩
  · have ho : ofI l zs = putI l (unionOf zs) := by unfold ofI; rw [if_neg h1]
    rw [ho]
    have h1' : ¬ (zs.length : Int) = 1 := by omega
    have hts := Sl.self ht
    simp [beqF h1', bx hb0, fillA, setN, hts.1, hts.2]
    have hsm : ∀ y ∈ l ++ [unionOf zs], smallN y := fun y hy => by
      rcases List.mem_append.1 hy with h | h
      · exact hsz y h
      · simp at h; subst h; exact ⟨by simp [unionOf]; omega, by simp [unionOf], by simp [unionOf]⟩
    have h40' : ∀ y ∈ l ++ [unionOf zs], y.elems.length < 2 ^ 40 ∧ y.names.length < 2 ^ 40 := fun y hy => by
      rcases List.mem_append.1 hy with h | h
      · exact h40 y h
      · simp at h; subst h; exact ⟨by simp [unionOf]; omega, by simp [unionOf]⟩
    refine C_of (k97 s _ l (unionOf zs) m1 (hs.mono hm1) ⟨t, .nilslice, rfl, ht.mono hm1, Sl.nil⟩ hsm h40' (hn.union hg h59 (fun z h => ⟨hz z h, hzu z h⟩) hz12)) ?_
    rintro _ m3 ⟨hm3, t', rfl, hT⟩
    simp
    exact ⟨hm1.trans hm3, hT⟩
end Go.Proofs.YtheadodblifklaaGreat

namespace Go.Proofs.YtheadodblifklaaGreat
open Go Ax
set_option maxRecDepth 100000
open Classical in
noncomputable def leftI (l : List Md) (u v : Nat) : List Nat := (basesOf l u).filter fun z => !decide (hasRR l v z)
noncomputable def withoutI (l : List Md) (u v : Int) : List Md × Int × Int :=
  if rightI l [u, v] ≠ 0 then ([], 0, rightI l [u, v])
  else if isU (mdAt l u.toNat) = false then ([], 0, 13)
  else if (leftI l u.toNat v.toNat).length = 0 then ([], 0, 12)
  else ofI l (leftI l u.toNat v.toNat)
set_option maxHeartbeats 4000000 in
open Classical in
theorem k24 (s : AVal) (l : List Md) (u v : Int) (m : AMem) (hs : RTab m s l) (hsz : ∀ x ∈ l, smallN x) (h40 : ∀ y ∈ l, y.elems.length < 2 ^ 40 ∧ y.names.length < 2 ^ 40) (hn : T13 l) (h59 : l.length < 19) :
    ACalls Tryz.prog 24 [s, .int .i64 u, .int .i64 v] m fun w m' => m <+: m' ∧ ∃ t, w = .tuple [t, .int .i64 (withoutI l u v).2.1, .int .i64 (withoutI l u v).2.2] ∧ RTab m' t (withoutI l u v).1 := by
  refine w24 ?_
  obtain ⟨hsl, hsc⟩ := hs.self
  simp [fillA, setN]
  have hA := two_ints m u v
  have hm1 : m <+: m ++ [.own [.int .i64 u, .int .i64 v] 3 none] := List.prefix_append _ _
  generalize AVal.slice m.length 0 2 2 none = t1 at *
  generalize m ++ [.own [.int .i64 u, .int .i64 v] 3 none] = m1 at *
  refine C_of (k35 s t1 l [u, v] m1 (hs.mono hm1) hA.ints hsz (fun x hx => (h40 x hx).2) hn (by simp)) ?_
  rintro _ m2 ⟨hm2, ⟨hr, rfl⟩ | ⟨hr, ro, ds, k, rfl, hX, hD⟩⟩
  · simp
    rw [tabBox _ _ _ rfl rfl]
    have hm3 : m2 <+: m2 ++ [.own [.nilslice, .nilslice] 53 none] := List.prefix_append _ _
    generalize m2 ++ [.own [.nilslice, .nilslice] 53 none] = m3 at *
    have hW : withoutI l u v = ([], 0, rightI l [u, v]) := by unfold withoutI; rw [if_pos hr]
    simp [bneT hr, hW]
    exact ⟨(hm1.trans hm2).trans hm3, RTab.nil0 _⟩
  obtain ⟨hc, a, b, rfl, rfl, ha, hb⟩ := right2 hr
  have ok := okT_of hc
  have hrs := (Ow.sl hX).self
  have hso := dense_same hD
  have hW : withoutI l a b = if isU (mdAt l a) = false then ([], 0, 13) else if (leftI l a b).length = 0 then ([], 0, 12) else ofI l (leftI l a b) := by
    unfold withoutI
    rw [if_neg (by simp [hr])]
    simp only [Int.toNat_natCast]
  simp
  rw [tabBox _ _ _ hsl hrs.1]
  have hb8 := readB_new m2 [s, ro] 53 none
  have hm3 : m2 <+: m2 ++ [.own [s, ro] 53 none] := List.prefix_append _ _
  generalize m2 ++ [.own [s, ro] 53 none] = m3 at *
  generalize m2.length = b8 at *
  have hm03 := (hm1.trans hm2).trans hm3
  have hRo := (ints_of_nat hX).mono hm3
  simp [bxW hb8, readN]
  refine C_of (k41 s ro l a m3 (hs.mono hm03) hrs ha) ?_
  rintro _ m4 ⟨rfl, hm4⟩
  simp
  have hm04 := hm03.trans hm4
  cases hu : isU (mdAt l a)
  · rw [if_pos hu] at hW
    simp [hW]
    exact ⟨hm04, RTab.nil0 _⟩
  rw [if_neg (by rw [hu]; simp)] at hW
  have hb84 := readB_mono hm4 hb8
  simp [bxW hb84, readN]
  refine C_of (k44n s ro l b hb m4 (hs.mono hm04) hrs ok.good ok.len ok.h64) ?_
  rintro v5 m5 ⟨hm5, P, hP, hPn, hPm⟩
  have hps := (Ow.sl hP).self
  have hPb : IsBases l b P := ⟨hPn, hPm⟩
  have hPl := hPb.length ok.good hb
  have hPlt := hPb.lt ok.good hb
  have hany : ∀ w, w < l.length → (P.any fun z => ds.getD z 0 == ds.getD w 0) = decide (hasRR l b w) := fun w hw => any_hasRR ok.good hso hb hw hPm
  simp
  rw [store_new1 _ _ _ _ _ hps.2 hps.1]
  have hb10 := readB_new m5 [v5] 33 none
  have hm6 : m5 <+: m5 ++ [.own [v5] 33 none] := List.prefix_append _ _
  generalize m5 ++ [.own [v5] 33 none] = m6 at *
  generalize m5.length = b10 at *
  have hb86 := readB_mono (hm5.trans hm6) hb84
  have hm06 := (hm04.trans hm5).trans hm6
  have hm36 := (hm4.trans hm5).trans hm6
  have hP6 := (ints_of_nat hP).mono hm6
  simp
  refine W_draw (fun _ _ _ => True) (by simp [maxDst]) ?_
  refine D_pc 0 3 [5, 3, 4, 6, 7] ?_
  simp [bxW hb86, readN]
  intro _ _
  refine D_P rfl trivial ?_
  simp
  refine D_X rfl rfl fun m7 hm7 _ => ?_
  simp
  have hm07 := hm06.trans hm7
  refine C_of (k44n s ro l a ha m7 (hs.mono hm07) hrs ok.good ok.len ok.h64) ?_
  rintro v8 m8 ⟨hm8, O, hO, hOn, hOm⟩
  have hb88 := readB_mono (hm7.trans hm8) hb86
  refine ⟨by simp [lateOf, ROp.ev, hb88, readN], ?_⟩
  refine D_X rfl rfl fun m9 hm9 _ => ?_
  simp
  have hm69 := (hm7.trans hm8).trans hm9
  have hm09 := hm06.trans hm69
  have hR9 := hRo.mono (hm36.trans hm69)
  have hOb : IsBases l a O := ⟨hOn, hOm⟩
  refine C_of (k43 s ro v8 l ds O m9 (hs.mono hm09) hR9 ((ints_of_nat hO).mono hm9) hOn (by have := hOb.length ok.good ha; omega) (fun z hz => by rw [hD.len]; exact hOb.lt ok.good ha z hz)) ?_
  rintro v10 m10 ⟨hm10, zs, hZ, hsb⟩
  refine ⟨by simp [lateOf], ?_⟩
  have hzs := once_eq ok.good hso ha hu hOm hsb
  have hzl : ∀ z ∈ zs, z < l.length := fun z hz => hOb.lt ok.good ha z (hsb.sub z hz)
  have hzn : zs.length ≤ l.length := nodup_le l.length zs (hsb.asc.imp fun hab => by intro e; subst e; omega) hzl
  refine D_X rfl rfl fun m11 hm11 _ => ?_
  simp
  refine C_of (k53 v10 3 m9.length m9 (Nat.le_refl _) 55 [] [.ptr b8 0, .ptr b10 0] (fun z => P.any fun y => ds.getD y 0 == ds.getD z.toNat 0) (zs.map fun z : Nat => (z : Int)) ?_ (by simp; omega) m11 (hm10.trans hm11) (natsI.2 (hZ.mono hm11))) ?_
  · intro z hz m' hm'
    obtain ⟨z, hz', rfl⟩ := List.mem_map.1 hz
    have hmt := hm69.trans hm'
    exact k55 s ro v5 l ds P z b8 b10 m' (hs.mono (hm06.trans hmt)) (hRo.mono (hm36.trans hmt)) (hP6.mono hmt) (fun y hy => by rw [hD.len]; exact hPlt y hy) (by rw [hD.len]; exact hzl z hz') (by omega) (readB_mono hmt hb86) (readB_mono hmt hb10)
  rintro v12 m12 ⟨hm12, _, hF, _⟩
  refine ⟨by simp [lateOf], ?_⟩
  have hfl : ((zs.map fun z : Nat => (z : Int)).filter fun a => !(P.any fun y => ds.getD y 0 == ds.getD a.toNat 0)) = (leftI l a b).map fun z : Nat => (z : Int) := by
    rw [List.filter_map]
    unfold leftI
    rw [← hzs]
    congr 1
    refine List.filter_congr fun z hz => ?_
    simp only [Function.comp, Int.toNat_natCast]
    rw [hany z (hzl z hz)]
  rw [hfl] at hF
  refine D_P rfl trivial ?_
  simp
  refine D_end fun m13 hm13 _ => ?_
  replace hF := hF.mono hm13
  have hll : (leftI l a b).length ≤ l.length := by
    unfold leftI
    rw [← hzs]
    exact Nat.le_trans (List.length_filter_le _ _) hzn
  have hlz : ∀ z ∈ leftI l a b, z < l.length := fun z hz => by
    unfold leftI at hz
    rw [← hzs] at hz
    exact hzl z (List.mem_filter.1 hz).1
  have hm913 := hm12.trans hm13
  have hm013 := hm09.trans hm913
  have hln := hF.len
  rw [List.length_map] at hln
  simp [hln]
  by_cases h0 : leftI l a b = []
  · rw [if_pos (by rw [h0]; rfl)] at hW
    simp [h0, hW]
    exact ⟨hm013, RTab.nil0 _⟩
  · have h0' : ¬ (leftI l a b).length = 0 := by simpa using h0
    have h0i : ¬ ((leftI l a b).length : Int) = 0 := by omega
    rw [if_neg h0'] at hW
    simp [beqF h0i, bxW (readB_mono (hm69.trans hm913) hb86), readN]
    refine C_of (k56 s ro v12 l ds (leftI l a b) k m13 (hs.mono hm013) (hRo.mono (hm36.trans (hm69.trans hm913))) hD hF.ints hlz hsz h40 hn h59 ok.good (fun z hz => base_nu (hlz z hz) (basesOf_sub ok.good ha (List.mem_filter.1 hz).1)) (Nat.le_trans (List.length_filter_le _ _) (hn.bases ok.good ha))) ?_
    rintro _ m14 ⟨hm14, t', rfl, hT⟩
    rw [hW]
    simp
    exact ⟨hm013.trans hm14, hT⟩
end Go.Proofs.YtheadodblifklaaGreat

namespace Go.Proofs.YtheadodblifklaaGreat
open Go Ax
open Relation
set_option maxRecDepth 100000
def mdU (k : Int) (es : List Int) : Md := ⟨k, 0, es, [], 0, false⟩
def tab5 : List Md := [mdU 3 [], mdU 1 [], mdU 12 [0, 1], mdU 2 [], mdU 12 [3, 2]]
def tab6 : List Md := [mdU 3 [], mdU 1 [], mdU 12 [0, 1], mdU 2 [], mdU 12 [3, 2], mdU 12 [1, 0]]
theorem noCycle {l : List Md} (hd : ∀ (a : Nat) x, l[a]? = some x → ∀ e ∈ x.elems, 0 ≤ e ∧ e < (a : Int)) {p : Md → Bool} {a b : Nat} (h : TransGen (stepR l p) a b) : b < a := by
  have one : ∀ a b, stepR l p a b → b < a := by
    rintro a b ⟨x, h1, _, h2⟩
    have := hd a x h1 _ h2
    omega
  induction h with
  | single h => exact one _ _ h
  | tail _ h ih => have := one _ _ h; omega
theorem check_of {l : List Md} (hn : l.length ≤ 512) (h1 : ∀ x ∈ l, oneI x l.length = 0) (hv : l.any (voidsB l) = false) (hd : ∀ (a : Nat) x, l[a]? = some x → ∀ e ∈ x.elems, 0 ≤ e ∧ e < (a : Int)) (hr : ∀ x ∈ l, rowStruct x = false) : checkI l = 0 := by
  unfold checkI
  rw [if_neg (by omega), if_neg, if_neg (by rw [hv]; simp), if_neg, if_neg]
  · rintro ⟨x, _, _, e, _, hf⟩
    have : ∀ m, ¬ FlexP l m := by
      intro m h
      cases h with
      | flex h1 h2 => rw [hr _ (List.mem_of_getElem? h1)] at h2; cases h2
      | step h1 _ => obtain ⟨x, h1, h2, _⟩ := h1; rw [hr _ (List.mem_of_getElem? h1)] at h2; cases h2
    exact this _ hf
  · rintro ⟨r, _, h | h⟩
    · have := noCycle hd h; omega
    · have := noCycle hd h; omega
  · intro h
    apply h
    rw [firstI_zero]
    intro y hy
    obtain ⟨x, hx, rfl⟩ := List.mem_map.1 hy
    exact h1 x hx
theorem check5 : checkI tab5 = 0 := by
  refine check_of (by decide) (by decide) (by decide) ?_ (by decide)
  intro a x hx
  match a, hx with
  | 0, hx => simp [tab5, mdU] at hx; subst hx; simp
  | 1, hx => simp [tab5, mdU] at hx; subst hx; simp
  | 2, hx => simp [tab5, mdU] at hx; subst hx; simp
  | 3, hx => simp [tab5, mdU] at hx; subst hx; simp
  | 4, hx => simp [tab5, mdU] at hx; subst hx; simp
  | a + 5, hx => simp [tab5] at hx
theorem check6 : checkI tab6 = 0 := by
  refine check_of (by decide) (by decide) (by decide) ?_ (by decide)
  intro a x hx
  match a, hx with
  | 0, hx => simp [tab6, mdU] at hx; subst hx; simp
  | 1, hx => simp [tab6, mdU] at hx; subst hx; simp
  | 2, hx => simp [tab6, mdU] at hx; subst hx; simp
  | 3, hx => simp [tab6, mdU] at hx; subst hx; simp
  | 4, hx => simp [tab6, mdU] at hx; subst hx; simp
  | 5, hx => simp [tab6, mdU] at hx; subst hx; simp
  | a + 6, hx => simp [tab6] at hx
theorem R_kindlt {l : List Md} {a b : Nat} (ha : a < l.length) (hb : b < l.length) (h : (mdAt l a).kind < (mdAt l b).kind) : ∀ d, R l (d + 1) a < R l (d + 1) b
  | 0 => by
    rw [R_lt l 0 ha]
    unfold cmpR thenC
    simp only [R]
    have h00 : cmpI 0 0 = 0 := by decide
    rw [if_neg (by simp [h00])]
    simp only [if_true]
    unfold firstC firstL
    rw [firstNZ_cons]
    have : cmpI (mdAt l a).kind (mdAt l b).kind < 0 := cmpI_lt.2 h
    rw [if_pos (by omega)]
    exact this
  | d + 1 => R_refine l (d + 1) ha (R_kindlt ha hb h d)
theorem RR_kindlt {l : List Md} {a b : Nat} (ha : a < l.length) (hb : b < l.length) (h : (mdAt l a).kind < (mdAt l b).kind) : RR l a < RR l b := R_kindlt ha hb h _
theorem R_twin {l : List Md} {a b : Nat} (hf : ∀ y, firstC y (mdAt l a) = firstC y (mdAt l b)) (hk : ∀ r, keyOf l r a = keyOf l r b) : ∀ d, R l d a = R l d b
  | 0 => rfl
  | d + 1 => by
    simp only [R, cntC]
    congr 1
    funext j
    have : cmpR l (R l d) d j a = cmpR l (R l d) d j b := by
      unfold cmpR thenC
      simp only [R_twin hf hk d, hf, hk]
    rw [this]
theorem step5 {a b : Nat} : stepR tab5 isU a b ↔ (a = 2 ∧ (b = 0 ∨ b = 1)) ∨ (a = 4 ∧ (b = 3 ∨ b = 2)) := by
  unfold stepR
  match a with
  | 0 => simp [tab5, mdU, isU]
  | 1 => simp [tab5, mdU, isU]
  | 2 => simp [tab5, mdU, isU]; omega
  | 3 => simp [tab5, mdU, isU]
  | 4 => simp [tab5, mdU, isU]; omega
  | a + 5 => simp [tab5]
theorem step6 {a b : Nat} : stepR tab6 isU a b ↔ (a = 2 ∧ (b = 0 ∨ b = 1)) ∨ (a = 4 ∧ (b = 3 ∨ b = 2)) ∨ (a = 5 ∧ (b = 1 ∨ b = 0)) := by
  unfold stepR
  match a with
  | 0 => simp [tab6, mdU, isU]
  | 1 => simp [tab6, mdU, isU]
  | 2 => simp [tab6, mdU, isU]; omega
  | 3 => simp [tab6, mdU, isU]
  | 4 => simp [tab6, mdU, isU]; omega
  | 5 => simp [tab6, mdU, isU]; omega
  | a + 6 => simp [tab6]
theorem part5 {j : Nat} : IsPart tab5 4 j ↔ j = 0 ∨ j = 1 ∨ j = 3 := by
  have key : ∀ j, TransGen (stepR tab5 isU) 4 j → j = 0 ∨ j = 1 ∨ j = 2 ∨ j = 3 := by
    intro j h
    induction h with
    | single h => rw [step5] at h; omega
    | tail _ h ih => rw [step5] at h; omega
  have s43 : stepR tab5 isU 4 3 := by rw [step5]; omega
  have s42 : stepR tab5 isU 4 2 := by rw [step5]; omega
  have s20 : stepR tab5 isU 2 0 := by rw [step5]; omega
  have s21 : stepR tab5 isU 2 1 := by rw [step5]; omega
  unfold IsPart
  constructor
  · rintro ⟨h1, h2⟩
    rcases key j h1 with rfl | rfl | rfl | rfl
    · omega
    · omega
    · have := h2 (mdU 12 [0, 1]) rfl; simp [isU, mdU] at this
    · omega
  · rintro (rfl | rfl | rfl)
    · exact ⟨.tail (.single s42) s20, by simp [tab5, isU, mdU]⟩
    · exact ⟨.tail (.single s42) s21, by simp [tab5, isU, mdU]⟩
    · exact ⟨.single s43, by simp [tab5, isU, mdU]⟩
theorem part6 {x j : Nat} (hx : x = 2 ∨ x = 5) : IsPart tab6 x j ↔ j = 0 ∨ j = 1 := by
  have key : ∀ j, TransGen (stepR tab6 isU) x j → j = 0 ∨ j = 1 := by
    intro j h
    induction h with
    | single h => rw [step6] at h; omega
    | tail _ h ih => rw [step6] at h; omega
  have s0 : stepR tab6 isU x 0 := by rw [step6]; omega
  have s1 : stepR tab6 isU x 1 := by rw [step6]; omega
  unfold IsPart
  constructor
  · rintro ⟨h1, h2⟩
    exact key j h1
  · rintro (rfl | rfl)
    · exact ⟨.single s0, by simp [tab6, isU, mdU]⟩
    · exact ⟨.single s1, by simp [tab6, isU, mdU]⟩
theorem twin6 : RR tab6 5 = RR tab6 2 := by
  refine R_twin (fun y => ?_) (fun r => ?_) _
  · simp [mdAt, tab6, mdU, firstC, firstL, lenC]
  · unfold keyOf
    have h1 : isU (mdAt tab6 5) = true := rfl
    have h2 : isU (mdAt tab6 2) = true := rfl
    rw [if_pos h1, if_pos h2]
    congr 1
    apply List.filter_congr
    intro v _
    have : (∃ j, IsPart tab6 5 j ∧ r j = v) ↔ ∃ j, IsPart tab6 2 j ∧ r j = v := by simp only [part6 (.inl rfl), part6 (.inr rfl)]
    rw [decide_eq_decide]
    exact this
theorem bases5 : basesOf tab5 4 = [1, 3, 0] := by
  have h : BasesOk tab5 4 [1, 3, 0] := by
    refine ⟨fun _ => ⟨[0, 1, 3], fun j => by rw [part5]; simp, ?_⟩, fun h => by simp [mdAt, tab5, isU, mdU] at h⟩
    have h13 : RR tab5 1 < RR tab5 3 := RR_kindlt (by decide) (by decide) (by decide)
    have h30 : RR tab5 3 < RR tab5 0 := RR_kindlt (by decide) (by decide) (by decide)
    refine ⟨?_, by simp, ?_⟩
    · simp
      omega
    · simp
  exact h.eq.symm
theorem right5 {u v : Int} (h : (0 ≤ u ∧ u < 5) ∧ 0 ≤ v ∧ v < 5) : rightI tab5 [u, v] = 0 := by
  unfold rightI
  rw [if_neg (by rw [check5]; simp), if_neg]
  simp [outB, tab5]
  omega
theorem has5 : hasV tab5 4 0 = .tuple [.bool true, .int .i64 0] := by
  have h13 : RR tab5 1 < RR tab5 3 := RR_kindlt (by decide) (by decide) (by decide)
  have h30 : RR tab5 3 < RR tab5 0 := RR_kindlt (by decide) (by decide) (by decide)
  have h1 : (RR tab5 1 == RR tab5 0) = false := by simp; omega
  have h3 : (RR tab5 3 == RR tab5 0) = false := by simp; omega
  unfold hasV hasB
  rw [right5 (by omega)]
  simp [bases5, atI, fidx, h1, h3]
  simp [mdAt, tab5, isU, mdU]
theorem idx5 : idxV tab5 4 0 = .tuple [.int .i64 2, .int .i64 0] := by
  have h13 : RR tab5 1 < RR tab5 3 := RR_kindlt (by decide) (by decide) (by decide)
  have h30 : RR tab5 3 < RR tab5 0 := RR_kindlt (by decide) (by decide) (by decide)
  have h1 : (RR tab5 1 == RR tab5 0) = false := by simp; omega
  have h3 : (RR tab5 3 == RR tab5 0) = false := by simp; omega
  unfold idxV
  rw [right5 (by omega)]
  simp [bases5, atI, fidx, h1, h3]
  simp [mdAt, tab5, isU, mdU]
end Go.Proofs.YtheadodblifklaaGreat

namespace Go.Proofs.YtheadodblifklaaGreat
open Go Ax
set_option maxRecDepth 100000
theorem rrNe {l : List Md} {a b : Nat} (ha : a < l.length) (hb : b < l.length) (h : (mdAt l a).kind ≠ (mdAt l b).kind) : (RR l a == RR l b) = false := by
  have : RR l a ≠ RR l b := fun e => h (RR_kind ha hb e)
  simpa using this
open Classical in
theorem left5 : leftI tab5 4 3 = [1, 0] := by
  have h1 := rrNe (l := tab5) (a := 3) (b := 1) (by decide) (by decide) (by decide)
  have h0 := rrNe (l := tab5) (a := 3) (b := 0) (by decide) (by decide) (by decide)
  have hb : ∀ z, hasRR tab5 3 z ↔ RR tab5 3 = RR tab5 z := fun z => by
    unfold hasRR
    have : ∀ j, IsBase tab5 3 j ↔ j = 3 := fun j => by
      unfold IsBase
      have h : isU (mdAt tab5 3) = false := by decide
      rw [h, if_neg (by simp)]
    simp only [this]
    exact ⟨fun ⟨j, h1, h2⟩ => by rw [← h1]; exact h2, fun h => ⟨3, rfl, h⟩⟩
  unfold leftI
  rw [bases5]
  simp at h1 h0
  simp [List.filter_cons, hb, h1, h0]
theorem without5 : withoutI tab5 4 3 = (tab5, 2, 0) := by
  unfold withoutI
  rw [right5 (by omega), if_neg (by simp), if_neg (by decide)]
  have e : leftI tab5 (Int.toNat 4) (Int.toNat 3) = [1, 0] := left5
  rw [e, if_neg (by decide)]
  unfold ofI
  rw [if_neg (by decide)]
  unfold putI
  rw [check5, if_neg (by simp)]
  have hf : findI tab5 (unionOf [1, 0]) = some 2 := by
    unfold findI
    have h6 : tab5 ++ [unionOf [1, 0]] = tab6 := rfl
    have h0 := rrNe (l := tab6) (a := 0) (b := 5) (by decide) (by decide) (by decide)
    have h1 := rrNe (l := tab6) (a := 1) (b := 5) (by decide) (by decide) (by decide)
    have hl : tab5.length = 5 := rfl
    rw [h6, check6, hl, if_neg (by decide), if_neg (by simp)]
    have : fidx (fun i => RR tab6 i == RR tab6 5) 0 (5 + 1) = 2 := by
      rw [twin6] at h0 h1
      simp at h0 h1
      simp [fidx, twin6, h0, h1]
    rw [this]
    rfl
  rw [hf]
  rfl
set_option maxHeartbeats 4000000 in
theorem k10 (m : AMem) : ACalls Tryz.prog 10 [] m fun v m' => v = .bool true ∧ m <+: m' := by
  refine w10 ?_
  simp [fillA, setN]
  have hT : RTab (m ++ [ABlk.own [.int .i64 0, .int .i64 1] 3 none, ABlk.own [.int .i64 3, .int .i64 2] 3 none,
      ABlk.own [.int .i64 3, .int .i64 0, .nilslice, .nilslice, .int .i64 0, .bool false, .int .i64 1, .int .i64 0, .nilslice, .nilslice, .int .i64 0, .bool false, .int .i64 12, .int .i64 0, .slice m.length 0 2 2 none, .nilslice, .int .i64 0, .bool false, .int .i64 2, .int .i64 0, .nilslice, .nilslice, .int .i64 0, .bool false, .int .i64 12, .int .i64 0, .slice (m.length + 1) 0 2 2 none, .nilslice, .int .i64 0, .bool false] 49 none]) (.slice (m.length + 2) 0 5 5 none) tab5 := by
    refine ⟨_, .inr ⟨_, _, _, _, rfl, ⟨by decide, .inl rfl⟩, .inr ⟨by decide, _, by simp [readB, ABlk.cells, List.getElem?_append_right]; rfl, rfl⟩⟩, fun i x hx => ?_⟩
    have i1 : RInts (m ++ [ABlk.own [.int .i64 0, .int .i64 1] 3 none, ABlk.own [.int .i64 3, .int .i64 2] 3 none, ABlk.own [.int .i64 3, .int .i64 0, .nilslice, .nilslice, .int .i64 0, .bool false, .int .i64 1, .int .i64 0, .nilslice, .nilslice, .int .i64 0, .bool false, .int .i64 12, .int .i64 0, .slice m.length 0 2 2 none, .nilslice, .int .i64 0, .bool false, .int .i64 2, .int .i64 0, .nilslice, .nilslice, .int .i64 0, .bool false, .int .i64 12, .int .i64 0, .slice (m.length + 1) 0 2 2 none, .nilslice, .int .i64 0, .bool false] 49 none]) (.slice m.length 0 2 2 none) [0, 1] :=
      .inr ⟨_, _, _, _, rfl, ⟨by decide, .inl rfl⟩, .inr ⟨by decide, _, by simp [readB, ABlk.cells]; rfl, rfl⟩⟩
    have i2 : RInts (m ++ [ABlk.own [.int .i64 0, .int .i64 1] 3 none, ABlk.own [.int .i64 3, .int .i64 2] 3 none, ABlk.own [.int .i64 3, .int .i64 0, .nilslice, .nilslice, .int .i64 0, .bool false, .int .i64 1, .int .i64 0, .nilslice, .nilslice, .int .i64 0, .bool false, .int .i64 12, .int .i64 0, .slice m.length 0 2 2 none, .nilslice, .int .i64 0, .bool false, .int .i64 2, .int .i64 0, .nilslice, .nilslice, .int .i64 0, .bool false, .int .i64 12, .int .i64 0, .slice (m.length + 1) 0 2 2 none, .nilslice, .int .i64 0, .bool false] 49 none]) (.slice (m.length + 1) 0 2 2 none) [3, 2] :=
      .inr ⟨_, _, _, _, rfl, ⟨by decide, .inl rfl⟩, .inr ⟨by decide, _, by simp [readB, ABlk.cells, List.getElem?_append_right]; rfl, rfl⟩⟩
    match i, hx with
    | 0, hx => simp [tab5, mdU] at hx; subst hx; exact ⟨_, _, rfl, Sl.nil, Sl.nil⟩
    | 1, hx => simp [tab5, mdU] at hx; subst hx; exact ⟨_, _, rfl, Sl.nil, Sl.nil⟩
    | 2, hx => simp [tab5, mdU] at hx; subst hx; exact ⟨_, _, rfl, i1, Sl.nil⟩
    | 3, hx => simp [tab5, mdU] at hx; subst hx; exact ⟨_, _, rfl, Sl.nil, Sl.nil⟩
    | 4, hx => simp [tab5, mdU] at hx; subst hx; exact ⟨_, _, rfl, i2, Sl.nil⟩
    | i + 5, hx => simp [tab5] at hx
  have hm1 := List.prefix_append m [ABlk.own [.int .i64 0, .int .i64 1] 3 none, ABlk.own [.int .i64 3, .int .i64 2] 3 none,
      ABlk.own [.int .i64 3, .int .i64 0, .nilslice, .nilslice, .int .i64 0, .bool false, .int .i64 1, .int .i64 0, .nilslice, .nilslice, .int .i64 0, .bool false, .int .i64 12, .int .i64 0, .slice m.length 0 2 2 none, .nilslice, .int .i64 0, .bool false, .int .i64 2, .int .i64 0, .nilslice, .nilslice, .int .i64 0, .bool false, .int .i64 12, .int .i64 0, .slice (m.length + 1) 0 2 2 none, .nilslice, .int .i64 0, .bool false] 49 none]
  generalize m ++ [ABlk.own [.int .i64 0, .int .i64 1] 3 none, ABlk.own [.int .i64 3, .int .i64 2] 3 none,
      ABlk.own [.int .i64 3, .int .i64 0, .nilslice, .nilslice, .int .i64 0, .bool false, .int .i64 1, .int .i64 0, .nilslice, .nilslice, .int .i64 0, .bool false, .int .i64 12, .int .i64 0, .slice m.length 0 2 2 none, .nilslice, .int .i64 0, .bool false, .int .i64 2, .int .i64 0, .nilslice, .nilslice, .int .i64 0, .bool false, .int .i64 12, .int .i64 0, .slice (m.length + 1) 0 2 2 none, .nilslice, .int .i64 0, .bool false] 49 none] = m1 at *
  generalize AVal.slice (m.length + 2) 0 5 5 none = s at *
  have hsz : ∀ x ∈ tab5, smallN x := by
    intro x hx
    simp [tab5, mdU] at hx
    rcases hx with rfl | rfl | rfl | rfl | rfl <;> simp [smallN]
  have h40 : ∀ x ∈ tab5, x.elems.length < 2 ^ 40 ∧ x.names.length < 2 ^ 40 := by
    intro x hx
    simp [tab5, mdU] at hx
    rcases hx with rfl | rfl | rfl | rfl | rfl <;> simp
  have hc1 := k12 s tab5 4 0 m1 hT hsz (fun x hx => (h40 x hx).2) (T13.of (by decide))
  refine C_of hc1 ?_
  rintro _ m2 ⟨rfl, hm2⟩
  rw [has5]
  simp
  have hc2 := k14 s tab5 4 0 m2 (hT.mono hm2) hsz (fun x hx => (h40 x hx).2) (T13.of (by decide))
  refine C_of hc2 ?_
  rintro _ m3 ⟨rfl, hm3⟩
  rw [idx5]
  simp
  have hc3 := k24 s tab5 4 3 m3 (hT.mono (hm2.trans hm3)) hsz h40 (T13.of (by decide)) (by decide)
  refine C_of hc3 ?_
  rintro _ m4 ⟨hm4, t, rfl, _⟩
  rw [without5]
  simp
  exact ⟨by decide, ((hm1.trans hm2).trans hm3).trans hm4⟩
end Go.Proofs.YtheadodblifklaaGreat

namespace Go.Proofs.YtheadodblifklaaGreat
open Go Ax
set_option maxRecDepth 100000
def OwM (lo : Nat) (m : AMem) (c : List AVal) (x : Md) : Prop := ∃ e nm, c = [.int .i64 x.kind, .int .i64 x.size, e, nm, .int .i64 x.dims, .bool x.flex] ∧ OwL (AVal.int .i64) lo m 3 e x.elems ∧ OwL AVal.str lo m 9 nm x.names
theorem OwM.mode {lo : Nat} {m : AMem} {c : List AVal} {x : Md} (h : OwM lo m c x) : RMode m c x := by
  obtain ⟨e, nm, rfl, h1, h2⟩ := h
  exact ⟨e, nm, rfl, h1.ints, Ow.sl h2⟩
theorem OwM.mono {lo : Nat} {m m' : AMem} {c : List AVal} {x : Md} (h : OwM lo m c x) (hm : m <+: m') : OwM lo m' c x := by
  obtain ⟨e, nm, rfl, h1, h2⟩ := h
  exact ⟨e, nm, rfl, h1.mono hm, h2.mono hm⟩
end Go.Proofs.YtheadodblifklaaGreat

namespace Go.Proofs.YtheadodblifklaaGreat.Ax
open Go Go.ChangeShapes Go.WideShapes Go.ChangeAt Go.RowKit
set_option maxRecDepth 100000
def RoMem (m : AMem) : Prop := ∀ (b : Nat) blk, m[b]? = some blk → blk.isOwn = false
theorem Sim.nil (w : World) : Sim [] [] w := ⟨rfl, by simp, by simp, by simp⟩
theorem RoMem.nil : RoMem [] := by intro b blk h; simp at h
theorem Sim.ro {ρ : List RB} {m : AMem} {w : World} (h : Sim ρ m w) (hm : RoMem m) {a : RB} (cs : List AVal) (ha : a.block < w.heap.size) (hc : ∀ (i : Nat) x, cs[i]? = some x → ∃ v, w.cell? (at_ a i) = some v ∧ VR ρ x v) :
    Sim (ρ ++ [a]) (m ++ [.ro cs]) w ∧ RoMem (m ++ [.ro cs]) := by
  have hp : ρ <+: ρ ++ [a] := List.prefix_append _ _
  have hr : RoMem (m ++ [.ro cs]) := by
    intro b blk hb
    rcases Nat.lt_or_ge b m.length with hlt | hge
    · rw [List.getElem?_append_left hlt] at hb; exact hm b blk hb
    · rw [List.getElem?_append_right hge] at hb
      cases hk : b - m.length with
      | zero => rw [hk] at hb; simp at hb; subst hb; rfl
      | succ k => rw [hk] at hb; simp at hb
  refine ⟨⟨by simp [h.len], ?_, ?_, ?_⟩, hr⟩
  · intro b blk a' hb ha'
    rcases Nat.lt_or_ge b m.length with hlt | hge
    · rw [List.getElem?_append_left hlt] at hb
      rw [List.getElem?_append_left (by rw [h.len]; exact hlt)] at ha'
      exact (h.ok b blk a' hb ha').mono hp
    · rw [List.getElem?_append_right hge] at hb
      rw [List.getElem?_append_right (by rw [h.len]; exact hge), h.len] at ha'
      cases hk : b - m.length with
      | zero =>
        rw [hk] at hb ha'
        simp only [List.getElem?_cons_zero, Option.some.injEq] at hb ha'
        subst hb ha'
        intro i x hx
        obtain ⟨v, h1, h2⟩ := hc i x hx
        exact ⟨v, h1, VR.mono hp x v h2⟩
      | succ k => rw [hk] at hb; simp at hb
  · intro b b' blk blk' a1 a2 _ hb _ _ _ ho
    rw [hr b blk hb] at ho
    simp at ho
  · intro b a' ha'
    rcases Nat.lt_or_ge b ρ.length with hlt | hge
    · rw [List.getElem?_append_left hlt] at ha'; exact h.bound b a' ha'
    · rw [List.getElem?_append_right hge] at ha'
      cases hk : b - ρ.length with
      | zero => rw [hk] at ha'; simp at ha'; subst ha'; exact ha
      | succ k => rw [hk] at ha'; simp at ha'
theorem slice_in {ρ : List RB} {m : AMem} {w : World} (h : Sim ρ m w) (hm : RoMem m) (hne : 0 < w.heap.size) {a : Addr} {len cap esz : Nat} (hlc : len ≤ cap)
    (hcell : cap ≠ 0 → ∃ v, w.cell? a = some v) {xs : List AVal} (hx : xs.length = len * esz) (hc : ∀ (i : Nat) x, xs[i]? = some x → ∃ v, w.cell? (a.add i) = some v ∧ VR ρ x v) :
    ∃ ρ' m' s, ρ <+: ρ' ∧ m <+: m' ∧ RoMem m' ∧ Sim ρ' m' w ∧ VR ρ' s (.slice (some a) len cap) ∧ Sl m' esz s len xs := by
  by_cases hcap : cap = 0
  · subst hcap
    obtain rfl : len = 0 := by omega
    obtain rfl : xs = [] := List.eq_nil_of_length_eq_zero (by simpa using hx)
    obtain ⟨h1, h2⟩ := h.ro hm (a := ⟨0, 0, 0, 0⟩) [] hne (by simp)
    refine ⟨_, _, .slice m.length 0 0 0 none, List.prefix_append _ _, List.prefix_append _ _, h2, h1, ?_, .inr ⟨_, _, _, _, rfl, ⟨by omega, .inl rfl⟩, .inl ⟨rfl, rfl⟩⟩⟩
    simp only [VR]
    exact ⟨⟨0, 0, 0, 0⟩, a, 0, rfl, by rw [← h.len]; simp, by simp, by omega, by simp, by omega, by simp⟩
  · obtain ⟨v0, hv0⟩ := hcell hcap
    have hs := World.cell?_spot hv0
    obtain ⟨b, off, sp⟩ := a
    simp only at hs
    subst hs
    have hb : b < w.heap.size := by
      rcases Nat.lt_or_ge b w.heap.size with hlt | hge
      · exact hlt
      · unfold World.cell? at hv0
        simp only [Array.getElem?_eq_none hge] at hv0
        simp at hv0
    obtain ⟨h1, h2⟩ := h.ro hm (a := ⟨b, off, 0, 0⟩) xs hb fun i x hx => by
      obtain ⟨v, h1, h2⟩ := hc i x hx
      rw [Go.WideShapes.add_plain] at h1
      exact ⟨v, h1, h2⟩
    refine ⟨_, _, .slice m.length 0 len cap none, List.prefix_append _ _, List.prefix_append _ _, h2, h1, ?_, .inr ⟨_, _, _, _, rfl, ⟨hlc, .inl rfl⟩, ?_⟩⟩
    · simp only [VR]
      exact ⟨⟨b, off, 0, 0⟩, _, cap, rfl, by rw [← h.len]; simp, by simp, hlc, by simp, by omega, by simp⟩
    · by_cases hl : len = 0
      · subst hl
        exact .inl ⟨rfl, List.eq_nil_of_length_eq_zero (by simpa using hx)⟩
      · refine .inr ⟨hl, xs, by simp [readB, ABlk.cells], ?_⟩
        have h0 : 0 + len * esz ≤ xs.length := by omega
        unfold readN
        rw [if_pos h0, List.drop_zero, List.take_of_length_le (by omega)]
def Enters (w : World) (vs : List Value) (Rep : AMem → List AVal → Prop) : Prop :=
  ∀ ρ m, Sim ρ m w → RoMem m → ∃ ρ' m' xs, ρ <+: ρ' ∧ m <+: m' ∧ RoMem m' ∧ Sim ρ' m' w ∧ VRs ρ' xs vs ∧ Rep m' xs
variable {H : Type} {enc : TypeId × Value → H} {P : Program} {w : World} {base : Nat} {spare : Nat → Bool} {held : Bool}
theorem enters_ints (hne : 0 < w.heap.size) {t e : TypeId} {fuel : Nat} {cs : List Value} {x : DataW H × List MemPlace} (ht : P.underlying t = some (.slice e)) (he : P.underlying e = some (.int .i64)) (hc : P.cellsOf e = 1)
    (h : DataW.trod enc P w base (fun _ => true) held fuel t cs = some x) :
    ∃ zs : List Int, Enters w cs (fun m xs => ∃ s, xs = [s] ∧ RInts m s zs) ∧ (P.bytesOf e = 8 → ∀ B, (x.1.weights P t).all (· ≤ B) = true → zs.length ≤ B) := by
  rcases open_ints ht he hc h with ⟨rfl, rfl⟩ | ⟨a, len, cap, zs, rfl, _, hlc, _, hz, rfl, hcell, _⟩
  · exact ⟨[], fun ρ m hs hm => ⟨ρ, m, [.nilslice], List.prefix_refl _, List.prefix_refl _, hm, hs, by simp [VRs, VR], .nilslice, rfl, Sl.nil⟩, by simp⟩
  · simp only [if_true] at hz
    refine ⟨zs.take len, fun ρ m hs hm => ?_, ?_⟩
    · obtain ⟨ρ', m', s, h1, h2, h3, h4, h5, h6⟩ := slice_in (esz := 1) hs hm hne hlc (fun hcap => ⟨_, by have := hcell 0 (by omega); simpa [Addr.add] using this⟩) (xs := (zs.take len).map fun x => .int .i64 x) (by simp; omega)
        (fun i x hx => by
          simp only [List.getElem?_map, Option.map_eq_some_iff] at hx
          obtain ⟨z, hz', rfl⟩ := hx
          have hi : i < zs.length := by
            have := (List.getElem?_eq_some_iff.1 hz').1
            simp at this; omega
          have hg : zs[i]? = some z := by
            rw [List.getElem?_take] at hz'
            split at hz'
            · exact hz'
            · simp at hz'
          exact ⟨_, hcell i hi, by simp [VR, List.getD, hg]⟩)
      refine ⟨ρ', m', [s], h1, h2, h3, h4, by simp only [VRs]; exact ⟨_, _, rfl, h5, rfl⟩, s, rfl, ?_⟩
      have hl : (zs.take len).length = len := by simp; omega
      unfold RInts
      rw [hl]
      exact h6
    · intro hb B hB
      simp only [DataW.weights, ht, List.all_cons, Bool.and_eq_true, decide_eq_true_eq] at hB
      have := hB.1
      rw [hb] at this
      simp [lits] at this ⊢
      omega
theorem enters_strs (hne : 0 < w.heap.size) {t e : TypeId} {fuel : Nat} {cs : List Value} {x : DataW H × List MemPlace} (ht : P.underlying t = some (.slice e)) (he : P.underlying e = some .string) (hc : P.cellsOf e = 1)
    (h : DataW.trod enc P w base (fun _ => true) held fuel t cs = some x) :
    ∃ zs : List ByteArray, Enters w cs (fun m xs => ∃ s, xs = [s] ∧ RStrs m s zs) ∧ (P.bytesOf e = 16 → ∀ B, (x.1.weights P t).all (· ≤ B) = true → zs.length ≤ B ∧ ∀ z ∈ zs, z.size ≤ B) := by
  rcases open_strings ht he hc h with ⟨rfl, rfl⟩ | ⟨a, len, cap, zs, rfl, _, hlc, _, hz, rfl, hcell, _⟩
  · exact ⟨[], fun ρ m hs hm => ⟨ρ, m, [.nilslice], List.prefix_refl _, List.prefix_refl _, hm, hs, by simp [VRs, VR], .nilslice, rfl, Sl.nil⟩, by simp⟩
  · simp only [if_true] at hz
    refine ⟨zs.take len, fun ρ m hs hm => ?_, ?_⟩
    · obtain ⟨ρ', m', s, h1, h2, h3, h4, h5, h6⟩ := slice_in (esz := 1) hs hm hne hlc (fun hcap => ⟨_, by have := hcell 0 (by omega); simpa [Addr.add] using this⟩) (xs := (zs.take len).map fun x => .str x) (by simp; omega)
        (fun i x hx => by
          simp only [List.getElem?_map, Option.map_eq_some_iff] at hx
          obtain ⟨z, hz', rfl⟩ := hx
          have hi : i < zs.length := by
            have := (List.getElem?_eq_some_iff.1 hz').1
            simp at this; omega
          have hg : zs[i]? = some z := by
            rw [List.getElem?_take] at hz'
            split at hz'
            · exact hz'
            · simp at hz'
          exact ⟨_, hcell i hi, by simp [VR, List.getD, hg]⟩)
      refine ⟨ρ', m', [s], h1, h2, h3, h4, by simp only [VRs]; exact ⟨_, _, rfl, h5, rfl⟩, s, rfl, ?_⟩
      have hl : (zs.take len).length = len := by simp; omega
      unfold RStrs
      rw [hl]
      exact h6
    · intro hb B hB
      simp only [DataW.weights, ht, List.all_cons, Bool.and_eq_true, decide_eq_true_eq, List.all_append] at hB
      obtain ⟨h1, h2, _⟩ := hB
      rw [hb] at h1
      refine ⟨by simp [strs] at h1 ⊢; omega, fun z hz' => ?_⟩
      have key : ∀ l : List ByteArray, (DataW.weightsAll (H := H) P e (strs l)).all (· ≤ B) = true → ∀ z ∈ l, z.size ≤ B := by
        intro l
        induction l with
        | nil => simp
        | cons y ys ih =>
          intro hl z hz
          simp only [strs, List.map_cons, DataW.weightsAll, DataW.weights, List.cons_append, List.nil_append, List.all_cons, Bool.and_eq_true, decide_eq_true_eq] at hl
          rcases List.mem_cons.1 hz with rfl | hz
          · have := hl.1; simpa using this
          · exact ih (by simpa [strs] using hl.2) z hz
      exact key _ h2 z hz'
structure ModeT (P : Program) where
  tT : TypeId
  tM : TypeId
  tI : TypeId
  eI : TypeId
  tS : TypeId
  eS : TypeId
  k0 : TypeId
  k1 : TypeId
  k4 : TypeId
  k5 : TypeId
  fs : Array Field
  hT : P.underlying tT = some (.slice tM)
  hM : P.underlying tM = some (.struct fs)
  hI : P.underlying tI = some (.slice eI)
  hi : P.underlying eI = some (.int .i64)
  hS : P.underlying tS = some (.slice eS)
  hs : P.underlying eS = some .string
  h0 : P.underlying k0 = some (.int .i64)
  h1 : P.underlying k1 = some (.int .i64)
  h4 : P.underlying k4 = some (.int .i64)
  h5 : P.underlying k5 = some .bool
  cM : P.cellsOf tM = 6
  ci : P.cellsOf eI = 1
  cs : P.cellsOf eS = 1
  c0 : P.cellsOf k0 = 1
  c1 : P.cellsOf k1 = 1
  cI : P.cellsOf tI = 1
  cS : P.cellsOf tS = 1
  c4 : P.cellsOf k4 = 1
  c5 : P.cellsOf k5 = 1
  bi : P.bytesOf eI = 8
  bs : P.bytesOf eS = 16
  bM : 1 ≤ P.bytesOf tM
  sz : fs.size = 6
  f0 : (fs[0]?).map (fun f => (f.type, f.offset)) = some (k0, 0)
  f1 : (fs[1]?).map (fun f => (f.type, f.offset)) = some (k1, 1)
  f2 : (fs[2]?).map (fun f => (f.type, f.offset)) = some (tI, 2)
  f3 : (fs[3]?).map (fun f => (f.type, f.offset)) = some (tS, 3)
  f4 : (fs[4]?).map (fun f => (f.type, f.offset)) = some (k4, 4)
  f5 : (fs[5]?).map (fun f => (f.type, f.offset)) = some (k5, 5)
structure MdB (B : Nat) (x : Md) : Prop where
  elems : x.elems.length ≤ B
  names : x.names.length ≤ B
  each : ∀ z ∈ x.names, z.size ≤ B
theorem field_of {fs : Array Field} {i : Nat} {t : TypeId} {o : Nat} (h : (fs[i]?).map (fun f => (f.type, f.offset)) = some (t, o)) : ∃ f, fs[i]? = some f ∧ f.type = t ∧ f.offset = o := by
  cases hf : fs[i]? with
  | none => rw [hf] at h; simp at h
  | some f => rw [hf] at h; simp at h; exact ⟨f, rfl, h.1, h.2⟩
theorem weights_parts {e : TypeId} {fs : Array Field} (ht : P.underlying e = some (.struct fs)) {xs : List (DataW H × List MemPlace)} {i : Nat} {f : Field} {y : DataW H × List MemPlace} (hf : fs[i]? = some f) (hy : xs[i]? = some y) {B : Nat}
    (h : ((DataW.agg (xs.map (·.1))).weights P e).all (· ≤ B) = true) : (y.1.weights P f.type).all (· ≤ B) = true := by
  simp only [DataW.weights, ht] at h
  rw [List.all_eq_true] at h ⊢
  intro n hn
  exact h n (DataW.weights_mem_each (j := i) (t := f.type) (d := y.1) (by simp [hf]) (by simp [hy]) n hn)
theorem enters_mode (hne : 0 < w.heap.size) (T : ModeT P) {fuel : Nat} {cs : List Value} {x : DataW H × List MemPlace} (h : DataW.trod enc P w base (fun _ => true) held fuel T.tM cs = some x) :
    ∃ md : Md, Enters w cs (fun m xs => RMode m xs md) ∧ (∀ B, (x.1.weights P T.tM).all (· ≤ B) = true → MdB B md) := by
  obtain ⟨xs, n, _, rfl, hl, hxl, hall⟩ := DataW.trod_struct T.hM h
  rw [T.cM] at hl
  rw [T.sz] at hxl
  obtain ⟨c0, c1, c2, c3, c4, c5, rfl⟩ : ∃ c0 c1 c2 c3 c4 c5, cs = [c0, c1, c2, c3, c4, c5] := by
    match cs, hl with
    | [c0, c1, c2, c3, c4, c5], _ => exact ⟨_, _, _, _, _, _, rfl⟩
  obtain ⟨x0, x1, x2, x3, x4, x5, rfl⟩ : ∃ c0 c1 c2 c3 c4 c5, xs = [c0, c1, c2, c3, c4, c5] := by
    match xs, hxl with
    | [c0, c1, c2, c3, c4, c5], _ => exact ⟨_, _, _, _, _, _, rfl⟩
  obtain ⟨g0, a0, t0, o0⟩ := field_of T.f0
  obtain ⟨g1, a1, t1, o1⟩ := field_of T.f1
  obtain ⟨g2, a2, t2, o2⟩ := field_of T.f2
  obtain ⟨g3, a3, t3, o3⟩ := field_of T.f3
  obtain ⟨g4, a4, t4, o4⟩ := field_of T.f4
  obtain ⟨g5, a5, t5, o5⟩ := field_of T.f5
  have e0 := hall 0 g0 a0
  have e1 := hall 1 g1 a1
  have e2 := hall 2 g2 a2
  have e3 := hall 3 g3 a3
  have e4 := hall 4 g4 a4
  have e5 := hall 5 g5 a5
  rw [t0, o0, T.c0] at e0
  rw [t1, o1, T.c1] at e1
  rw [t2, o2, T.cI] at e2
  rw [t3, o3, T.cS] at e3
  rw [t4, o4, T.c4] at e4
  rw [t5, o5, T.c5] at e5
  simp only [List.drop_zero, List.drop_succ_cons, List.take_succ_cons, List.take_zero, List.getElem?_cons_zero, List.getElem?_cons_succ] at e0 e1 e2 e3 e4 e5
  obtain ⟨n0, q0, rfl, _⟩ := DataW.trod_int T.h0 e0
  obtain ⟨n1, q1, rfl, _⟩ := DataW.trod_int T.h1 e1
  obtain ⟨n4, q4, rfl, _⟩ := DataW.trod_int T.h4 e4
  obtain ⟨n5, q5, rfl⟩ := DataW.trod_bool T.h5 e5
  simp only [List.cons.injEq, and_true] at q0 q1 q4 q5
  subst q0 q1 q4 q5
  obtain ⟨el, hel, hel'⟩ := enters_ints hne T.hI T.hi T.ci e2
  obtain ⟨nm, hnm, hnm'⟩ := enters_strs hne T.hS T.hs T.cs e3
  refine ⟨⟨n0, n1, el, nm, n4, n5⟩, fun ρ m hs hm => ?_, fun B hB => ?_⟩
  · obtain ⟨ρ1, m1, ys, h1, h2, h3, h4, h5, s, rfl, h6⟩ := hel ρ m hs hm
    obtain ⟨ρ2, m2, ys, k1, k2, k3, k4, k5, s', rfl, k6⟩ := hnm ρ1 m1 h4 h3
    simp only [VRs] at h5 k5
    obtain ⟨_, _, hh, h5, rfl⟩ := h5
    obtain ⟨_, _, hk, k5, rfl⟩ := k5
    simp only [List.cons.injEq, and_true] at hh hk
    subst hh hk
    refine ⟨ρ2, m2, [.int .i64 n0, .int .i64 n1, s, s', .int .i64 n4, .bool n5], h1.trans k1, h2.trans k2, k3, k4, ?_, s, s', rfl, h6.mono k2, k6⟩
    simp only [VRs, VR]
    exact ⟨_, _, rfl, rfl, _, _, rfl, rfl, _, _, rfl, VR.mono k1 _ _ h5, _, _, rfl, k5, _, _, rfl, rfl, _, _, rfl, rfl, rfl⟩
  · have w2 := weights_parts (i := 2) T.hM a2 (y := x2) (by simp) hB
    have w3 := weights_parts (i := 3) T.hM a3 (y := x3) (by simp) hB
    rw [t2] at w2
    rw [t3] at w3
    obtain ⟨p1, p2⟩ := hnm' T.bs B w3
    exact ⟨hel' T.bi B w2, p1, p2⟩
theorem weightsAll_mem {e : TypeId} {B : Nat} : ∀ {l : List (DataW H)}, (DataW.weightsAll P e l).all (· ≤ B) = true → ∀ d ∈ l, (d.weights P e).all (· ≤ B) = true
  | [], _, d, hd => by simp at hd
  | y :: ys, h, d, hd => by
    simp only [DataW.weightsAll, List.all_append, Bool.and_eq_true] at h
    rcases List.mem_cons.1 hd with rfl | hd
    · exact h.1
    · exact weightsAll_mem h.2 d hd
theorem enters_tab (T : ModeT P) {fuel : Nat} {cs : List Value} (hne : ∀ a len cap, cs = [.slice (some a) len cap] → 0 < w.heap.size) {x : DataW H × List MemPlace} (h : DataW.trod enc P w base (fun _ => true) held fuel T.tT cs = some x) :
    ∃ l : List Md, Enters w cs (fun m xs => ∃ s, xs = [s] ∧ RTab m s l) ∧ (∀ B, (x.1.weights P T.tT).all (· ≤ B) = true → l.length ≤ B ∧ ∀ md ∈ l, MdB B md) := by
  rcases Go.Deep.open_slice T.hT h with ⟨rfl, rfl⟩ | ⟨a, len, cap, mm, n, D, Pl, rfl, _, hlc, _, hmm, rfl, hel⟩
  · exact ⟨[], fun ρ m hs hm => ⟨ρ, m, [.nilslice], List.prefix_refl _, List.prefix_refl _, hm, hs, by simp [VRs, VR], .nilslice, rfl, [], Sl.nil, by simp⟩, by simp⟩
  · replace hne := hne _ _ _ rfl
    simp only [if_true] at hmm
    subst hmm
    rw [T.cM] at hel
    have hmd : ∀ i, i < len → ∃ (cs' : List Value) (md : Md), w.cells? base (a.add (i * 6)) 6 = some cs' ∧ Enters w cs' (fun m xs => RMode m xs md) ∧ (∀ B, ((D i).weights P T.tM).all (· ≤ B) = true → MdB B md) := by
      intro i hi
      obtain ⟨cs', h1, h2⟩ := hel i (by omega)
      obtain ⟨md, h3, h4⟩ := enters_mode hne T h2
      exact ⟨cs', md, h1, h3, h4⟩
    have hl : ∃ l : List Md, l.length = len ∧ ∀ (i : Nat) md, l[i]? = some md → ∃ (cs' : List Value), w.cells? base (a.add (i * 6)) 6 = some cs' ∧ Enters w cs' (fun m xs => RMode m xs md) ∧ (∀ B, ((D i).weights P T.tM).all (· ≤ B) = true → MdB B md) := by
      have : ∀ k, k ≤ len → ∃ l : List Md, l.length = k ∧ ∀ (i : Nat) md, l[i]? = some md → ∃ (cs' : List Value), w.cells? base (a.add (i * 6)) 6 = some cs' ∧ Enters w cs' (fun m xs => RMode m xs md) ∧ (∀ B, ((D i).weights P T.tM).all (· ≤ B) = true → MdB B md) := by
        intro k
        induction k with
        | zero => exact fun _ => ⟨[], rfl, by simp⟩
        | succ k ih =>
          intro hk
          obtain ⟨l, h1, h2⟩ := ih (by omega)
          obtain ⟨cs', md, h3, h4⟩ := hmd k (by omega)
          refine ⟨l ++ [md], by simp [h1], fun i md' hi => ?_⟩
          rcases Nat.lt_or_ge i l.length with hlt | hge
          · rw [List.getElem?_append_left hlt] at hi; exact h2 i md' hi
          · rw [List.getElem?_append_right hge] at hi
            cases hj : i - l.length with
            | zero =>
              rw [hj] at hi
              simp only [List.getElem?_cons_zero, Option.some.injEq] at hi
              subst hi
              obtain rfl : i = k := by omega
              exact ⟨cs', h3, h4⟩
            | succ j => rw [hj] at hi; simp at hi
      exact this len (Nat.le_refl _)
    obtain ⟨l, hlen, hl⟩ := hl
    refine ⟨l, fun ρ m hs hm => ?_, fun B hB => ?_⟩
    · have key : ∀ k, k ≤ len → ∃ (ρ' : List RB) (m' : AMem) (xs : List AVal), ρ <+: ρ' ∧ m <+: m' ∧ RoMem m' ∧ Sim ρ' m' w ∧ xs.length = k * 6 ∧ (∀ (i : Nat) x, xs[i]? = some x → ∃ v, w.cell? (a.add i) = some v ∧ VR ρ' x v) ∧
          ∀ (i : Nat) md, i < k → l[i]? = some md → RMode m' ((xs.drop (i * 6)).take 6) md := by
        intro k
        induction k with
        | zero => exact fun _ => ⟨ρ, m, [], List.prefix_refl _, List.prefix_refl _, hm, hs, rfl, by simp, by omega⟩
        | succ k ih =>
          intro hk
          obtain ⟨ρ1, m1, xs, h1, h2, h3, h4, h5, h6, h7⟩ := ih (by omega)
          obtain ⟨md, hmdk⟩ : ∃ md, l[k]? = some md := ⟨l[k], List.getElem?_eq_getElem (by omega)⟩
          obtain ⟨cs', c1, c2, _⟩ := hl k md hmdk
          obtain ⟨ρ2, m2, ys, g1, g2, g3, g4, g5, g6⟩ := c2 ρ1 m1 h4 h3
          obtain ⟨_, c3, c4⟩ := World.cells?_some c1
          have hys : ys.length = 6 := by rw [← g5.length]; exact c3
          refine ⟨ρ2, m2, xs ++ ys, h1.trans g1, h2.trans g2, g3, g4, by simp [h5, hys]; omega, fun i x hx => ?_, fun i md' hi hmd' => ?_⟩
          · rcases Nat.lt_or_ge i xs.length with hlt | hge
            · rw [List.getElem?_append_left hlt] at hx
              obtain ⟨v, hv, hr⟩ := h6 i x hx
              exact ⟨v, hv, VR.mono g1 x v hr⟩
            · rw [List.getElem?_append_right hge] at hx
              have hj : i - xs.length < 6 := by rw [← hys]; exact (List.getElem?_eq_some_iff.1 hx).1
              obtain ⟨v, hv, hr⟩ := g5.get _ x hx
              refine ⟨v, ?_, hr⟩
              have := c4 (i - xs.length) hj
              rw [Addr.add_add, hv] at this
              rw [← this]
              congr 2
              omega
          · rcases Nat.lt_or_ge i k with hlt | hge
            · have := (h7 i md' hlt hmd').mono g2
              rw [List.drop_append_of_le_length (by omega), List.take_append_of_le_length (by simp; omega)]
              exact this
            · obtain rfl : i = k := by omega
              rw [hmdk] at hmd'
              simp only [Option.some.injEq] at hmd'
              subst hmd'
              rw [List.drop_append, h5, Nat.sub_self, List.drop_eq_nil_of_le (by omega)]
              simp only [List.nil_append, List.drop_zero]
              rw [List.take_of_length_le (by omega)]
              exact g6
      obtain ⟨ρ1, m1, xs, h1, h2, h3, h4, h5, h6, h7⟩ := key len (Nat.le_refl _)
      obtain ⟨ρ', m', s, g1, g2, g3, g4, g5, g6⟩ := slice_in (esz := 6) h4 h3 hne hlc (fun hcap => by
        obtain ⟨cs', c1, _⟩ := hel 0 (by omega)
        obtain ⟨_, c3, c4⟩ := World.cells?_some c1
        have := c4 0 (by omega)
        rw [Addr.add_add] at this
        rw [List.getElem?_eq_getElem (by omega)] at this
        exact ⟨_, by simpa [Addr.add] using this⟩) h5 h6
      refine ⟨ρ', m', [s], h1.trans g1, h2.trans g2, g3, g4, by simp only [VRs]; exact ⟨_, _, rfl, g5, rfl⟩, s, rfl, xs, by rw [hlen]; exact g6, fun i md hi => (h7 i md (by have := (List.getElem?_eq_some_iff.1 hi).1; omega) hi).mono g2⟩
    · simp only [DataW.weights, T.hT, List.all_cons, Bool.and_eq_true, decide_eq_true_eq, List.all_append] at hB
      obtain ⟨b1, b2, _⟩ := hB
      refine ⟨?_, fun md hmd => ?_⟩
      · have := T.bM
        simp only [List.length_map, List.length_range] at b1
        have h3 : len ≤ (len + (mm - len)) * P.bytesOf T.tM := by
          calc len ≤ (len + (mm - len)) * 1 := by omega
            _ ≤ _ := Nat.mul_le_mul_left _ this
        omega
      · obtain ⟨i, hi, rfl⟩ := List.getElem_of_mem hmd
        obtain ⟨cs', _, _, c5⟩ := hl i l[i] (List.getElem?_eq_getElem hi)
        exact c5 B (weightsAll_mem b2 (D i) (List.mem_map.2 ⟨i, by simp; omega, rfl⟩))
theorem below_of_evol {ρ ρ' : List RB} {m m' : AMem} {w' : World} (hm : RoMem m) (h : Evol ρ m w ρ' m' w') : Below w.heap.size w w' :=
  ⟨h.os, h.tape, h.output, h.size, fun k hk => h.frame k hk fun ⟨b, blk, a, hb, ho, _⟩ => by rw [hm b blk hb] at ho; cases ho⟩
theorem heap_pos {r : Reach} {b0 : Nat} {t e : TypeId} {a : Addr} {len cap : Nat} (ht : P.underlying t = some (.slice e)) (hval : Value.okWide P w r b0 t (.slice (some a) len cap)) : 0 < w.heap.size := by
  simp only [Value.okWide, ht, Cell.okWide, Cell.ok, World.has] at hval
  obtain ⟨_, _, _, _, row, cells, h, _⟩ := hval
  unfold World.shape? at h
  rcases Nat.eq_zero_or_pos w.heap.size with h0 | h0
  · rw [Array.getElem?_eq_none (by omega)] at h
    simp at h
  · exact h0
end Go.Proofs.YtheadodblifklaaGreat.Ax

namespace Go.Proofs.YtheadodblifklaaGreat
open Go Ax
set_option maxRecDepth 100000
structure Fits (l : List Md) : Prop where
  n : l.length ≤ 13
  n12 : l.length ≤ 12
  sm : ∀ x ∈ l, smallN x
  h40 : ∀ x ∈ l, x.elems.length < 2 ^ 40 ∧ x.names.length < 2 ^ 40
theorem fits_of {l : List Md} (hb : ∀ md ∈ l, MdB reachBytes md) (h : (decide ((l.length : Int) ≤ 12) && l.all fun x => decide (x.elems.length ≤ 6) && decide (x.names.length ≤ 6)) = true) : Fits l := by
  rw [Bool.and_eq_true, decide_eq_true_iff, List.all_eq_true] at h
  obtain ⟨h1, h2⟩ := h
  refine ⟨by omega, by omega, fun x hx => ?_, fun x hx => ?_⟩
  · have := h2 x hx
    rw [Bool.and_eq_true, decide_eq_true_iff, decide_eq_true_iff] at this
    refine ⟨by omega, by omega, fun s hs => ?_⟩
    have h3 := (hb x hx).each s hs
    have h4 : reachBytes < 2 ^ 62 := by decide
    omega
  · have := h2 x hx
    rw [Bool.and_eq_true, decide_eq_true_iff, decide_eq_true_iff] at this
    omega
end Go.Proofs.YtheadodblifklaaGreat

namespace Go.Proofs.YtheadodblifklaaGreat
open Go Ax
set_option maxRecDepth 100000
theorem w3 {args m R} (h : W Tryz.prog (.seq (.reg [qb 6 false]) (.kill [0,1,2] (.seq (.seq (.reg [qc 19 10 [],⟨some 20,.P (.un .not (.t 19)),none⟩]) (.kill [0,1,2,20] (.cond (.t 20) (.seq (.reg [qb 6 false]) .ret) .skip))) (.kill [0,1,2] (.seq (.seq (.reg [qv 21 0,qc 22 11 [(.t 21),(qz 12)],⟨some 23,.P (.un .not (.t 22)),none⟩]) (.kill [0,1,2,23] (.cond (.t 23) (.seq (.reg [qb 6 true]) .ret) .skip))) (.kill [0,1,2] (.seq (.reg [qv 25 0,qv 26 1,qv 27 2,qc 28 12 [(.t 25),(.t 26),(.t 27)],qv 24 28,qx 29 24 0,qx 30 24 1,qv 7 29,qv 8 30]) (.kill [0,1,2,7,8] (.seq (.reg [qv 32 0,qv 33 1,qv 34 2,qc 35 13 [(.t 32),(.t 33),(.t 34)],qv 31 35,qx 36 31 0,qx 37 31 1,qv 9 36,qv 10 37]) (.kill [0,1,2,7,8,9,10] (.seq (.reg [qv 39 0,qv 40 1,qv 41 2,qc 42 14 [(.t 39),(.t 40),(.t 41)],qv 38 42,qx 43 38 0,qx 44 38 1,qv 11 43,qv 12 44]) (.kill [0,1,2,7,8,9,10,11,12] (.seq (.reg [qv 46 0,qv 47 1,qv 48 2,qc 49 15 [(.t 46),(.t 47),(.t 48)],qv 45 49,qx 50 45 0,qx 51 45 1,qv 13 50,qv 14 51]) (.kill [0,1,2,7,8,9,10,11,12,13,14] (.seq (.reg [qv 53 0,qv 54 1,qv 55 2,qc 56 16 [(.t 53),(.t 54),(.t 55)],qv 52 56,qx 57 52 0,qx 58 52 1,qv 15 57,qv 16 58]) (.kill [0,1,2,7,8,9,10,11,12,13,14,15,16] (.seq (.reg [qv 60 0,qv 61 1,qv 62 2,qc 63 17 [(.t 60),(.t 61),(.t 62)],qv 59 63,qx 64 59 0,qx 65 59 1,qv 17 64,qv 18 65]) (.kill [7,8,9,10,11,12,13,14,15,16,17,18] (.seq (.reg [qv 66 7,qv 67 9,⟨some 68,.P (.eqB false (.t 66) (.t 67)),none⟩,qv 69 68,⟨some 70,.P (.mov (.t 8)),(some (69, true))⟩,⟨some 71,.P (.mov (.t 10)),(some (69, true))⟩,⟨some 72,.P (.bin .eql (.t 70) (.t 71)),(some (69, true))⟩,⟨some 73,.P (.pick (.t 69) (.t 72) (.c (.bool false))),none⟩,qv 74 73,⟨some 75,.P (.mov (.t 11)),(some (74, true))⟩,⟨some 76,.P (.mov (.t 13)),(some (74, true))⟩,⟨some 77,.P (.bin .eql (.t 75) (.t 76)),(some (74, true))⟩,⟨some 78,.P (.pick (.t 74) (.t 77) (.c (.bool false))),none⟩,qv 79 78,⟨some 80,.P (.mov (.t 12)),(some (79, true))⟩,⟨some 81,.P (.mov (.t 14)),(some (79, true))⟩,⟨some 82,.P (.bin .eql (.t 80) (.t 81)),(some (79, true))⟩,⟨some 83,.P (.pick (.t 79) (.t 82) (.c (.bool false))),none⟩,qv 84 83,⟨some 85,.P (.mov (.t 15)),(some (84, true))⟩,⟨some 86,.P (.mov (.t 17)),(some (84, true))⟩,⟨some 87,.P (.eqB false (.t 85) (.t 86)),(some (84, true))⟩,⟨some 88,.P (.pick (.t 84) (.t 87) (.c (.bool false))),none⟩,qv 89 88,⟨some 90,.P (.mov (.t 16)),(some (89, true))⟩,⟨some 91,.P (.mov (.t 18)),(some (89, true))⟩,⟨some 92,.P (.bin .eql (.t 90) (.t 91)),(some (89, true))⟩,⟨some 93,.P (.pick (.t 89) (.t 92) (.c (.bool false))),none⟩,qv 6 93]) .ret))))))))))))))))))) (E [(.tmp 6)] R .mk) .mk (mat 94 (sArgs 0 args)) m) (hl : Nat.ble args.length 94 = true := by rfl) : ACalls Tryz.prog 3 args m R := walk mix (by kernel_rfl) (Nat.le_of_ble_eq_true hl) h
theorem w7 {args m R} (h : W Tryz.prog (.seq (.reg [qb 6 false]) (.kill [0,1,2] (.seq (.seq (.reg [qc 24 10 [],⟨some 25,.P (.un .not (.t 24)),none⟩]) (.kill [0,1,2,25] (.cond (.t 25) (.seq (.reg [qb 6 false]) .ret) .skip))) (.kill [0,1,2] (.seq (.seq (.reg [qv 26 0,qc 27 11 [(.t 26),(qz 12)],⟨some 28,.P (.un .not (.t 27)),none⟩,qv 29 28,⟨some 30,.P (.mov (.t 0)),(some (29, false))⟩,⟨some 31,.P (.mov (.t 1)),(some (29, false))⟩,⟨some 32,.P (.mov (.t 2)),(some (29, false))⟩,⟨some 33,.A (.bslice 3 2 [(.int .i64 0)] [(0, (1, (.t 31))),(1, (1, (.t 32)))]),(some (29, false))⟩,⟨some 34,.C (.c (.func (.func 18) [] [])) [(.t 30),(.t 33)], (some (29, false))⟩,⟨some 35,.P (.un .not (.t 34)),(some (29, false))⟩,⟨some 36,.P (.pick (.t 29) (.c (.bool true)) (.t 35)),none⟩]) (.kill [0,1,2,36] (.cond (.t 36) (.seq (.reg [qb 6 true]) .ret) .skip))) (.kill [0,1,2] (.seq (.reg [qv 38 0,qv 39 1,qv 40 2,qc 41 12 [(.t 38),(.t 39),(.t 40)],qv 37 41,qx 42 37 0,qx 43 37 1,qv 7 42,qv 8 43]) (.kill [0,1,2,7,8] (.seq (.seq (.reg [qv 44 8,qk 45 .neq 44 0,qv 46 45,⟨some 47,.P (.mov (.t 7)),(some (46, false))⟩,⟨some 48,.P (.un .not (.t 47)),(some (46, false))⟩,⟨some 49,.P (.pick (.t 46) (.c (.bool true)) (.t 48)),none⟩]) (.kill [0,1,2,8,49] (.cond (.t 49) (.seq (.reg [qv 50 8,qk 51 .eql 50 0,qv 6 51]) .ret) .skip))) (.kill [0,1,2] (.seq (.seq (.reg [qv 53 0,qv 54 1,qc 55 27 [(.t 53),(.t 54)],qv 52 55,qx 56 52 0,qx 57 52 1,qv 9 56,qv 10 57]) (.kill [0,1,2,9,10] (.seq (.reg [qv 58 10,qk 59 .neq 58 0,qv 60 59,⟨some 61,.P (.mov (.t 9)),(some (60, false))⟩,⟨some 62,.P (.len (.t 61)),(some (60, false))⟩,⟨some 63,.P (.bin .lss (.t 62) (qz 2)),(some (60, false))⟩,⟨some 64,.P (.pick (.t 60) (.c (.bool true)) (.t 63)),none⟩]) (.kill [0,1,2,10,64] (.cond (.t 64) (.seq (.reg [qv 65 10,qk 66 .eql 65 0,qv 6 66]) .ret) .skip))))) (.kill [0,1,2] (.seq (.reg [qv 68 0,qv 69 1,qv 70 2,⟨some 71,.A (.bslice 3 2 [(.int .i64 0)] [(0, (1, (.t 69))),(1, (1, (.t 70)))]),none⟩,qc 72 28 [(.t 68),(.t 71)],qv 67 72,qx 73 67 0,qx 74 67 1,qx 75 67 2,qv 11 73,qv 12 74,qv 8 75]) (.kill [0,1,2,8,11,12] (.seq (.seq (.reg [qv 76 8,qk 77 .eql 76 0]) (.kill [0,1,2,11,12,77] (.cond (.t 77) (.seq (.reg [qv 79 11,qv 80 1,qv 81 12,qc 82 19 [(.t 79),(.t 80),(.t 81)],qv 78 82,qx 83 78 0,qx 84 78 1,qv 13 83,qv 14 84]) (.kill [0,1,2,13,14] (.seq (.reg [qv 85 14,qk 86 .neq 85 0,qv 87 86,⟨some 88,.P (.mov (.t 13)),(some (87, false))⟩,⟨some 89,.P (.un .not (.t 88)),(some (87, false))⟩,⟨some 90,.P (.pick (.t 87) (.c (.bool true)) (.t 89)),none⟩]) (.kill [0,1,2,90] (.cond (.t 90) (.seq (.reg [qb 6 false]) .ret) .skip))))) .skip))) (.kill [0,1,2] (.seq (.reg [qv 92 0,qv 93 1,qv 94 2,qc 95 24 [(.t 92),(.t 93),(.t 94)],qv 91 95,qx 96 91 0,qx 97 91 1,qx 98 91 2,qv 15 96,qv 16 97,qv 17 98]) (.kill [1,2,15,16,17] (.seq (.seq (.reg [qv 99 17,qk 100 .neq 99 0]) (.kill [1,2,15,16,17,100] (.cond (.t 100) (.seq (.reg [qv 101 17,qk 102 .eql 101 12,qv 6 102]) .ret) .skip))) (.kill [1,2,15,16] (.seq (.reg [qv 104 15,qv 105 16,qv 106 2,qc 107 12 [(.t 104),(.t 105),(.t 106)],qv 103 107,qx 108 103 0,qx 109 103 1,qv 18 108,qv 17 109]) (.kill [1,2,15,16,17,18] (.seq (.reg [qv 111 15,qv 112 16,qv 113 2,qc 114 19 [(.t 111),(.t 112),(.t 113)],qv 110 114,qx 115 110 0,qx 116 110 1,qv 19 115,qv 20 116]) (.kill [1,2,15,16,17,18,19,20] (.seq (.reg [qv 118 15,qv 119 16,qv 120 2,⟨some 121,.A (.bslice 3 2 [(.int .i64 0)] [(0, (1, (.t 119))),(1, (1, (.t 120)))]),none⟩,qc 122 28 [(.t 118),(.t 121)],qv 117 122,qx 123 117 0,qx 124 117 1,qx 125 117 2,qv 21 123,qv 22 124,qv 23 125]) (.kill [1,17,18,19,20,21,22,23] (.seq (.seq (.reg [qv 126 17,qv 127 20,qo 128 .add 126 127,qv 129 23,qo 130 .add 128 129,qk 131 .neq 130 0,qv 132 131,⟨some 133,.P (.mov (.t 18)),(some (132, false))⟩,⟨some 134,.P (.pick (.t 132) (.c (.bool true)) (.t 133)),none⟩,qv 135 134,⟨some 136,.P (.mov (.t 19)),(some (135, false))⟩,⟨some 137,.P (.pick (.t 135) (.c (.bool true)) (.t 136)),none⟩]) (.kill [1,21,22,137] (.cond (.t 137) (.seq (.reg [qb 6 false]) .ret) .skip))) (.kill [1,21,22] (.seq (.reg [qv 139 21,qv 140 22,qv 141 1,qc 142 19 [(.t 139),(.t 140),(.t 141)],qv 138 142,qx 143 138 0,qx 144 138 1,qv 19 143,qv 8 144]) (.kill [8,19] (.seq (.reg [qv 145 19,qv 146 145,⟨some 147,.P (.mov (.t 8)),(some (146, true))⟩,⟨some 148,.P (.bin .eql (.t 147) (qz 0)),(some (146, true))⟩,⟨some 149,.P (.pick (.t 146) (.t 148) (.c (.bool false))),none⟩,qv 6 149]) .ret))))))))))))))))))))))))))))))) (E [(.tmp 6)] R .mk) .mk (mat 150 (sArgs 0 args)) m) (hl : Nat.ble args.length 150 = true := by rfl) : ACalls Tryz.prog 7 args m R := walk mix (by kernel_rfl) (Nat.le_of_ble_eq_true hl) h
end Go.Proofs.YtheadodblifklaaGreat
namespace Go.Proofs.YtheadodblifklaaGreat
open Go Ax
open Relation
set_option maxRecDepth 100000
theorem RR_first {l : List Md} {a b : Nat} (ha : a < l.length) (hb : b < l.length) (h : RR l a = RR l b) : firstC (mdAt l a) (mdAt l b) = 0 := by
  have h1 : R l (1 + l.length) a = R l (1 + l.length) b := by rw [Nat.add_comm]; exact h
  have h2 := R_eq_cmp (d := 0) ha hb (R_eq_down ha hb l.length h1)
  unfold cmpR thenC at h2
  have h0 : cmpI (R l 0 a : Nat) (R l 0 b : Nat) = 0 := cmpI_zero.2 rfl
  simp [h0] at h2
  exact h2
theorem lexC_refl : ∀ xs : List Int, lexC cmpI xs xs = 0
  | [] => rfl
  | x :: xs => by
    have h : cmpI x x = 0 := cmpI_zero.2 rfl
    simp [lexC, h, lexC_refl xs]
theorem R_eq_of {l : List Md} {a b : Nat} (ha : a < l.length) (hb : b < l.length) (hf : firstC (mdAt l a) (mdAt l b) = 0) (hk : ∀ r, keyOf l r a = keyOf l r b) : ∀ d, R l d a = R l d b
  | 0 => rfl
  | d + 1 => by
    have ih := R_eq_of ha hb hf hk d
    have hc : cmpR l (R l d) d a b = 0 := by
      unfold cmpR thenC
      have h0 : cmpI (R l d a : Nat) (R l d b : Nat) = 0 := cmpI_zero.2 (by rw [ih])
      simp only [h0]
      by_cases hd : d = 0
      · simp [hd, hf]
      · simp [hd, hk, lexC_refl]
    have h1 := R_lt l d (b := b) ha
    have h2 := R_lt l d (b := a) hb
    have h3 := (cmpR_ord l (R l d) d).anti a b trivial trivial
    have h4 := (cmpR_ord l (R l d) d).anti b a trivial trivial
    omega
theorem key_same {l : List Md} {a b : Nat} (ha : a < l.length) (hb : b < l.length) (hk : (mdAt l a).kind = (mdAt l b).kind) (he : (mdAt l a).elems = (mdAt l b).elems) (r : Nat → Nat) : keyOf l r a = keyOf l r b := by
  unfold keyOf
  have hu : isU (mdAt l a) = isU (mdAt l b) := by unfold isU; rw [hk]
  rw [hu, he]
  cases isU (mdAt l b)
  · rfl
  · simp only [if_true]
    congr 1
    apply List.filter_congr
    intro v _
    rw [decide_eq_decide]
    exact ⟨fun ⟨j, h1, h2⟩ => ⟨j, part_same ha hb hk he h1, h2⟩, fun ⟨j, h1, h2⟩ => ⟨j, part_same hb ha hk.symm he.symm h1, h2⟩⟩
theorem RR_same {l : List Md} {a b : Nat} (ha : a < l.length) (hb : b < l.length) (hf : firstC (mdAt l a) (mdAt l b) = 0) (he : (mdAt l a).elems = (mdAt l b).elems) : RR l a = RR l b :=
  R_eq_of ha hb hf (key_same ha hb (firstC_kind hf) he) _
theorem fidx_at {p : Nat → Bool} : ∀ (n i j : Nat), i ≤ j → j < i + n → p j = true → (∀ k, i ≤ k → k < j → p k = false) → fidx p i n = (j : Int)
  | 0, i, j, h1, h2, _, _ => by omega
  | n + 1, i, j, h1, h2, h3, h4 => by
    rw [fidx]
    by_cases hij : i = j
    · subst hij; rw [if_pos h3]
    · rw [if_neg (by rw [h4 i (Nat.le_refl _) (by omega)]; simp)]
      exact fidx_at n (i + 1) j (by omega) (by omega) h3 fun k k1 k2 => h4 k (by omega) k2
theorem findI_ok {l : List Md} {x : Md} (h : ∀ e ∈ x.elems, outB l.length e = false) : findI l x = if checkI (l ++ [x]) ≠ 0 then none else if fidx (fun i => RR (l ++ [x]) i == RR (l ++ [x]) l.length) 0 (l.length + 1) = l.length then none else some (fidx (fun i => RR (l ++ [x]) i == RR (l ++ [x]) l.length) 0 (l.length + 1)).toNat := by
  unfold findI
  rw [if_neg]
  intro hm
  have := h _ hm
  simp [outB] at this
theorem findI_last {l : List Md} {x : Md} (h : ∀ e ∈ x.elems, outB l.length e = false) (hc : checkI (l ++ [x]) = 0) (hn : ∀ i, i < l.length → RR (l ++ [x]) i ≠ RR (l ++ [x]) l.length) : findI l x = none := by
  rw [findI_ok h, if_neg (by simp [hc]), if_pos]
  exact fidx_at _ 0 _ (by omega) (by omega) (by simp) fun k _ hk => by simpa using hn k hk
theorem findI_some {l : List Md} {x : Md} (h : ∀ e ∈ x.elems, outB l.length e = false) (hc : checkI (l ++ [x]) = 0) {j : Nat} (hj : j < l.length) (he : RR (l ++ [x]) j = RR (l ++ [x]) l.length) (hn : ∀ i, i < j → RR (l ++ [x]) i ≠ RR (l ++ [x]) l.length) : findI l x = some j := by
  have hF := fidx_at (p := fun i => RR (l ++ [x]) i == RR (l ++ [x]) l.length) (l.length + 1) 0 j (by omega) (by omega) (by simpa using he) fun k _ hk => by simpa using hn k hk
  rw [findI_ok h, if_neg (by simp [hc]), hF, if_neg (by omega)]
  simp
end Go.Proofs.YtheadodblifklaaGreat

namespace Go.Proofs.YtheadodblifklaaGreat
open Go Ax
set_option maxRecDepth 100000
structure UpTo (f : Nat → Nat) (ms : List Nat) (r : Nat) (zs : List Nat) : Prop where
  asc : zs.Pairwise (fun a b => f a < f b)
  sub : ∀ z ∈ zs, z ∈ ms ∧ f z < r
  cov : ∀ y ∈ ms, f y < r → ∃ z ∈ zs, f z = f y ∧ z ≤ y
theorem UpTo.skip {f : Nat → Nat} {ms : List Nat} {r : Nat} {zs : List Nat} (h : UpTo f ms r zs) (hn : ∀ y ∈ ms, f y ≠ r) : UpTo f ms (r + 1) zs :=
  ⟨h.asc, fun z hz => ⟨(h.sub z hz).1, by have := (h.sub z hz).2; omega⟩, fun y hy hl => h.cov y hy (by have := hn y hy; omega)⟩
theorem UpTo.take {f : Nat → Nat} {ms : List Nat} {r : Nat} {zs : List Nat} (h : UpTo f ms r zs) {k : Nat} (hk : k ∈ ms) (hr : f k = r) (hl : ∀ y ∈ ms, f y = r → k ≤ y) : UpTo f ms (r + 1) (zs ++ [k]) := by
  refine ⟨?_, fun z hz => ?_, fun y hy hlt => ?_⟩
  · rw [List.pairwise_append]
    refine ⟨h.asc, by simp, fun a ha b hb => ?_⟩
    simp at hb
    subst hb
    have := (h.sub a ha).2
    omega
  · rcases List.mem_append.1 hz with hz | hz
    · exact ⟨(h.sub z hz).1, by have := (h.sub z hz).2; omega⟩
    · simp at hz; subst hz; exact ⟨hk, by omega⟩
  · by_cases he : f y = r
    · exact ⟨k, by simp, by omega, hl y hy he⟩
    · obtain ⟨z, h1, h2⟩ := h.cov y hy (by omega)
      exact ⟨z, by simp [h1], h2⟩
end Go.Proofs.YtheadodblifklaaGreat

namespace Go.Proofs.YtheadodblifklaaGreat
open Go Ax
open Relation
set_option maxRecDepth 100000
theorem part_nflex {l : List Md} (hc : checkI l = 0) {u j : Nat} (h : IsPart l u j) : ¬ FlexP l j := by
  have key : ∀ x ∈ l, flexOf x = true → ∀ e ∈ x.elems, ¬ FlexP l e.toNat := by
    unfold checkI at hc
    split at hc
    · omega
    · split at hc
      · rename_i h1 h2; exact absurd hc h2
      · split at hc
        · omega
        · split at hc
          · omega
          · split at hc
            · omega
            · rename_i h5
              intro x hx hf e he hp
              exact h5 ⟨x, hx, hf, e, he, hp⟩
  have last : ∃ z, stepR l isU z j := by
    have := h.1
    cases this with
    | single h => exact ⟨_, h⟩
    | tail _ h => exact ⟨_, h⟩
  obtain ⟨z, x, h1, h2, h3⟩ := last
  have := key x (List.mem_of_getElem? h1) (by unfold isU at h2; unfold flexOf; simp at h2 ⊢; omega) _ h3
  simpa using this
end Go.Proofs.YtheadodblifklaaGreat

namespace Go.Proofs.YtheadodblifklaaGreat
open Go Ax
set_option maxRecDepth 100000
open Classical in
noncomputable def allI (l : List Md) (ms : List Nat) : List Nat := (SortedBy.ex (RR l) (ms.flatMap (basesOf l))).choose
theorem allI_sorted (l : List Md) (ms : List Nat) : SortedBy (RR l) (ms.flatMap (basesOf l)) (allI l ms) := (SortedBy.ex (RR l) (ms.flatMap (basesOf l))).choose_spec
open Classical in
noncomputable def joinsI (l : List Md) (ms : List Int) : List Md × Int × Int :=
  if rightI l ms ≠ 0 then ([], 0, rightI l ms)
  else if ms.length = 0 then ([], 0, 12)
  else if (ms.any fun x => decide (FlexP l x.toNat)) = true then ([], 0, 7)
  else ofI l (allI l (ms.map Int.toNat))
theorem rightA {l : List Md} {ms : List Int} (h : rightI l ms = 0) : checkI l = 0 ∧ ∃ ns : List Nat, ms = ns.map (fun z : Nat => (z : Int)) ∧ ∀ z ∈ ns, z < l.length := by
  unfold rightI at h
  split at h
  · omega
  · rename_i hc
    have hc : checkI l = 0 := Decidable.of_not_not hc
    split at h
    · omega
    · rename_i ha
      have ha' : ∀ x ∈ ms, 0 ≤ x ∧ x < l.length := fun x hx => by
        have := List.any_eq_false.1 (Bool.not_eq_true _ ▸ ha) x hx
        simp [outB] at this
        omega
      refine ⟨hc, ms.map Int.toNat, ?_, fun z hz => ?_⟩
      · rw [List.map_map]
        have : ∀ x ∈ ms, ((fun z : Nat => (z : Int)) ∘ Int.toNat) x = id x := fun x hx => by
          have := ha' x hx
          simp
          omega
        rw [List.map_congr_left this, List.map_id]
      · obtain ⟨x, hx, rfl⟩ := List.mem_map.1 hz
        have := ha' x hx
        omega
theorem allI_eq {l : List Md} (hg : goodT l) {r : Nat → Nat} (hr : SameOrd l.length r (RR l)) {ms O zs : List Nat} (hm : ∀ x ∈ ms, x < l.length) (hO : ∀ j, j ∈ O ↔ ∃ x ∈ ms, IsBase l x j) (hs : SortedBy r O zs) : zs = allI l ms := by
  have hOl : ∀ j ∈ O, j < l.length := fun j hj => by
    obtain ⟨x, hx, hb⟩ := (hO j).1 hj
    exact hb.lt hg (hm x hx)
  have hsR := hs.congrO (n := l.length) hOl hr
  have ha := allI_sorted l ms
  refine hsR.unique (ms' := O) (zs' := allI l ms) ⟨ha.asc, fun z hz => ?_, fun y hy => ?_⟩ fun v => Iff.rfl
  · obtain ⟨x, hx, hzx⟩ := List.mem_flatMap.1 (ha.sub z hz)
    exact (hO z).2 ⟨x, hx, basesOf_sub hg (hm x hx) hzx⟩
  · obtain ⟨x, hx, hb⟩ := (hO y).1 hy
    obtain ⟨w, hw, h1, h2⟩ : ∃ w ∈ basesOf l x, RR l w = RR l y ∧ w ≤ y := by
      have hB := basesEx hg (hm x hx)
      unfold IsBase at hb
      cases hu : isU (mdAt l x)
      · rw [hu, if_neg (by simp)] at hb
        exact ⟨x, by rw [hB.el hu]; simp, by rw [hb], by omega⟩
      · rw [hu, if_pos rfl] at hb
        obtain ⟨P, h3, h4⟩ := hB.un hu
        exact h4.cov y ((h3 y).2 hb)
    obtain ⟨z, h3, h4, h5⟩ := ha.cov w (List.mem_flatMap.2 ⟨x, hx, hw⟩)
    exact ⟨z, h3, by omega, by omega⟩
theorem allI_sub {l : List Md} (hg : goodT l) {ms : List Nat} (hm : ∀ x ∈ ms, x < l.length) {z : Nat} (hz : z ∈ allI l ms) : ∃ x ∈ ms, IsBase l x z := by
  obtain ⟨x, hx, hzx⟩ := List.mem_flatMap.1 ((allI_sorted l ms).sub z hz)
  exact ⟨x, hx, basesOf_sub hg (hm x hx) hzx⟩
open Classical in
theorem k63 (s : AVal) (l : List Md) (i : Nat) (hi : i < l.length) (m : AMem) (hs : RTab m s l) (hsz : ∀ x ∈ l, smallN x) (hc : checkI l = 0) :
    ACalls Tryz.prog 63 [s, .int .i64 i] m fun v m' => v = .bool (decide (FlexP l i)) ∧ m <+: m' := by
  refine w63 ?_
  have ok := okT_of hc
  simp
  refine C_of (k49 s l m hs hsz (by have := ok.len; omega)) ?_
  rintro _ m1 ⟨rfl, hm1⟩
  have hil : (i : Int) < l.length := by omega
  simp [hc]
  refine C_of (k104 s l i m1 (hs.mono hm1)) ?_
  rintro _ m1 ⟨rfl, rfl⟩
  simp [hil]
  refine C_of (k86 s l m1 (hs.mono hm1) ok.good ok.acy ok.len hsz) ?_
  rintro v m2 ⟨hm2, O, hO, hOl, hOf⟩
  obtain ⟨b, o, _, h1, h2, _⟩ := hO.at (i := i) (by omega)
  simp [h1, h2]
  refine ⟨?_, hm1.trans hm2⟩
  have := hOf i
  rw [List.getElem?_eq_getElem (by omega)] at this
  by_cases hf : FlexP l i
  · have := this.2 ⟨hi, hf⟩
    simp at this
    simp [this, hf]
  · have h3 : ¬ O[i] = true := fun h => hf (this.1 (by rw [h])).2
    simp at h3
    simp [h3, hf]
open Classical in
theorem k62 (s : AVal) (l : List Md) (i b : Nat) (hi : i < l.length) (m : AMem) (hs : RTab m s l) (hb : readB m b = some [s]) (hsz : ∀ x ∈ l, smallN x) (hc : checkI l = 0) :
    ACalls Tryz.prog 62 [.int .i64 i, .ptr b 0] m fun v m' => v = .bool (decide (FlexP l i)) ∧ m <+: m' := by
  refine w62 ?_
  have h1 := bx hb 0
  simp at h1
  simp [h1]
  refine C_of (k63 s l i hi m hs hsz hc) ?_
  rintro _ m1 ⟨rfl, hm1⟩
  simp
  exact hm1
set_option maxHeartbeats 8000000 in
open Classical in
theorem k28 (s t : AVal) (l : List Md) (ms : List Int) (m : AMem) (hs : RTab m s l) (ht : RInts m t ms) (hsz : ∀ x ∈ l, smallN x) (h40 : ∀ y ∈ l, y.elems.length < 2 ^ 40 ∧ y.names.length < 2 ^ 40) (hn : T13 l) (h13 : l.length < 19) (hal : checkI l = 0 → ∀ ns : List Nat, ms = ns.map (fun z : Nat => (z : Int)) → (∀ z ∈ ns, z < l.length) → (allI l ns).length ≤ 12) (hm8 : ms.length ≤ 8) :
    ACalls Tryz.prog 28 [s, t] m fun w m' => m <+: m' ∧ ∃ t', w = .tuple [t', .int .i64 (joinsI l ms).2.1, .int .i64 (joinsI l ms).2.2] ∧ RTab m' t' (joinsI l ms).1 := by
  refine w28 ?_
  obtain ⟨hsl, hsc⟩ := hs.self
  simp [hsl, hsc]
  have hb1 := readB_new m [s] 22 none
  have hm1 : m <+: m ++ [.own [s] 22 none] := List.prefix_append _ _
  generalize m ++ [.own [s] 22 none] = m1 at *
  generalize m.length = b1 at *
  refine C_of (k35 s t l ms m1 (hs.mono hm1) (ht.mono hm1) hsz (fun x hx => (h40 x hx).2) hn (by omega)) ?_
  rintro _ m2 ⟨hm2, ⟨hr, rfl⟩ | ⟨hr, ro, ds, k, rfl, hX, hD⟩⟩
  · simp
    rw [tabBox _ _ _ rfl rfl]
    have hm3 : m2 <+: m2 ++ [.own [.nilslice, .nilslice] 53 none] := List.prefix_append _ _
    generalize m2 ++ [.own [.nilslice, .nilslice] 53 none] = m3 at *
    have hW : joinsI l ms = ([], 0, rightI l ms) := by unfold joinsI; rw [if_pos hr]
    simp [bneT hr, hW]
    exact ⟨(hm1.trans hm2).trans hm3, RTab.nil0 _⟩
  obtain ⟨hc, ns, rfl, hns⟩ := rightA hr
  have ok := okT_of hc
  have hrs := (Ow.sl hX).self
  have hso := dense_same hD
  have hW : joinsI l (ns.map fun z : Nat => (z : Int)) = if ns.length = 0 then ([], 0, 12) else if (ns.any fun x => decide (FlexP l x)) = true then ([], 0, 7) else ofI l (allI l ns) := by
    unfold joinsI
    rw [if_neg (by simp [hr]), List.length_map, List.any_map, List.map_map]
    have : (Int.toNat ∘ fun z : Nat => (z : Int)) = id := rfl
    rw [this, List.map_id]
    rfl
  rw [List.length_map] at hm8
  simp
  rw [tabBox _ _ _ hsl hrs.1]
  have hb8 := readB_new m2 [s, ro] 53 none
  have hm3 : m2 <+: m2 ++ [.own [s, ro] 53 none] := List.prefix_append _ _
  generalize m2 ++ [.own [s, ro] 53 none] = m3 at *
  generalize m2.length = b8 at *
  have hm13 := hm2.trans hm3
  have hm03 := hm1.trans hm13
  have hRo := (ints_of_nat hX).mono hm3
  have htl : ∀ m', m <+: m' → lenE t = some (.int .i64 ns.length) := fun m' h => by have := (ht.mono h).len; rw [List.length_map] at this; exact this
  have htl0 := htl m (List.prefix_refl _)
  simp [htl0]
  by_cases h0 : ns.length = 0
  · rw [if_pos h0] at hW
    simp [h0, hW]
    exact ⟨hm03, RTab.nil0 _⟩
  rw [if_neg h0] at hW
  have h0' : ¬ (ns.length : Int) = 0 := by omega
  simp [beqF h0']
  refine C_of (k47 t (ns.map fun z : Nat => (z : Int)) (fun x => decide (FlexP l x.toNat)) m3 (ht.mono hm03) (by simp; omega) 62 [] [.ptr b1 0] ?_) ?_
  · intro x hx m' hm'
    obtain ⟨z, hz, rfl⟩ := List.mem_map.1 hx
    exact k62 s l z b1 (hns z hz) m' (hs.mono (hm03.trans hm')) (readB_mono (hm13.trans hm') hb1) hsz hc
  rintro _ m4 ⟨rfl, hm4⟩
  have hany : ((ns.map fun z : Nat => (z : Int)).any fun x => decide (FlexP l x.toNat)) = ns.any fun x => decide (FlexP l x) := by
    rw [List.any_map]; rfl
  rw [hany]
  simp
  cases hfx : ns.any fun x => decide (FlexP l x)
  rotate_left
  · rw [if_pos hfx] at hW
    simp [hW]
    exact ⟨hm03.trans hm4, RTab.nil0 _⟩
  rw [if_neg (by rw [hfx]; simp)] at hW
  have hm04 := hm03.trans hm4
  have hb84 := readB_mono hm4 hb8
  simp [htl0]
  obtain ⟨J, hJ⟩ : ∃ J : AFrame → AMem → Prop, ∀ f m', J f m' ↔ (∃ (o : AVal) (O : List Nat), f.forget [7, 9] = mat 53 [(7, .ptr b8 0), (9, o)] ∧ m4 <+: m' ∧ OwL natI m4.length m' 3 o O ∧ O.length ≤ 8 * 20 ∧ ∀ j, j ∈ O ↔ ∃ x ∈ ns, IsBase l x j) := ⟨_, fun _ _ => Iff.rfl⟩
  refine W_JB J ?_ ?_
  · obtain ⟨I, hI⟩ : ∃ I : Nat → AFrame → AMem → Prop, ∀ q f m', I q f m' ↔ (∃ (k : Nat) (o : AVal) (O : List Nat), k + q = ns.length ∧ f = h28_0 (.ptr b8 0) o t (.int .i64 ns.length) (.int .i64 k) ∧ m4 <+: m' ∧ OwL natI m4.length m' 3 o O ∧ O.length ≤ k * 20 ∧ ∀ j, j ∈ O ↔ ∃ x ∈ ns.take k, IsBase l x j) := ⟨_, fun _ _ _ => Iff.rfl⟩
    refine W_loop I ns.length ((hI _ _ _).2 ⟨0, .nilslice, [], by simp, by simp, List.prefix_refl _, OwL.nil, by simp, by simp⟩) ?_
    rintro q f m5 hIn
    obtain ⟨k, o, O, hq, rfl, hm5, hO, hOl, hOm⟩ := (hI _ _ _).1 hIn
    clear hIn
    simp
    refine bbind_dec (fun hkl => ?_) fun hkl => ?_
    · have hw := step64 hkl (by omega)
      obtain ⟨b1', o1, g1, g2⟩ := (ht.mono (hm04.trans hm5)).at (i := k) (by simpa using hkl)
      simp at g2
      have hxk := hns _ (List.getElem_mem hkl)
      simp [g1, g2, bxW (readB_mono hm5 hb84), readN]
      refine C_of (k44 s ro o l O m4.length ns[k] hxk m m5 hs (hm04.trans hm5) hm04.length_le hrs hm5.length_le hO ok.good ok.len ok.h64 (by omega)) ?_
      rintro v m6 ⟨hc6, P, hP, hPn, hPm, _⟩
      have hPl := nodup_le l.length P hPn fun z hz => ((hPm z).1 hz).lt ok.good hxk
      simp [hw]
      refine ⟨q - 1, by omega, (hI _ _ _).2 ⟨k + 1, v, O ++ P, by omega, by simp, hc6.pre hm5 fun b hb e => by have := (hO.blk_lo e).1; omega, hP, by rw [List.length_append]; omega, fun j => ?_⟩⟩
      rw [List.mem_append, hOm, hPm, List.take_add_one, List.getElem?_eq_getElem hkl]
      constructor
      · rintro (⟨x, h1, h2⟩ | h)
        · exact ⟨x, List.mem_append_left _ h1, h2⟩
        · exact ⟨ns[k], List.mem_append_right _ (List.mem_singleton.2 rfl), h⟩
      · rintro ⟨x, h1, h2⟩
        rcases List.mem_append.1 h1 with h1 | h1
        · exact .inl ⟨x, h1, h2⟩
        · simp at h1
          subst h1
          exact .inr h2
    · have hkl : k = ns.length := by omega
      subst hkl
      rw [List.take_length] at hOm
      simp
      exact (hJ _ _).2 ⟨o, O, by simp, hm5, hO, by omega, hOm⟩
  intro f m5 hJ2
  obtain ⟨o, O, hf, hm5, hO, hOl, hOm⟩ := (hJ _ _).1 hJ2
  clear hJ2 hJ
  have hm05 := hm04.trans hm5
  have hR5 := hRo.mono (hm4.trans hm5)
  simp [hf, bxW (readB_mono hm5 hb84), readN]
  refine C_of (k43g s ro o l ds O m5 (hs.mono hm05) hR5 (ints_of_nat hO) (by omega) (fun z hz => by
    obtain ⟨x, h1, h2⟩ := (hOm z).1 hz
    rw [hD.len]
    exact h2.lt ok.good (hns x h1))) ?_
  rintro v m6 ⟨hm6, zs, hZ, hsb⟩
  obtain rfl := allI_eq ok.good hso hns hOm hsb
  have hal := hal hc ns rfl hns
  have hzu : ∀ z ∈ allI l ns, isU (mdAt l z) = false := fun z hz => by
    obtain ⟨x, h1, h2⟩ := allI_sub ok.good hns hz
    exact base_nu (h2.lt ok.good (hns x h1)) h2
  have hzl : ∀ z ∈ allI l ns, z < l.length := fun z hz => by
    obtain ⟨x, h1, h2⟩ := allI_sub ok.good hns hz
    exact h2.lt ok.good (hns x h1)
  have hlZ := hZ.len
  generalize allI l ns = zs at *
  have h64 : ¬ (64 : Int) < zs.length := by omega
  simp [hlZ, h64, bxW (readB_mono (hm5.trans hm6) hb84), readN]
  refine C_of (k56 s ro v l ds zs k m6 (hs.mono (hm05.trans hm6)) (hR5.mono hm6) hD (ints_of_nat hZ) hzl hsz h40 hn (by omega) ok.good hzu hal) ?_
  rintro _ m7 ⟨hm7, t', rfl, hT⟩
  simp [hW]
  exact ⟨(hm05.trans hm6).trans hm7, hT⟩
end Go.Proofs.YtheadodblifklaaGreat

namespace Go.Proofs.YtheadodblifklaaGreat
open Go Ax
set_option maxRecDepth 100000
open Classical in
noncomputable def sameB (l : List Md) (ys zs : List Nat) : Bool := decide (ys.length = zs.length ∧ ∀ (k : Nat) (y z : Nat), ys[k]? = some y → zs[k]? = some z → RR l y = RR l z)
noncomputable def leastI (l : List Md) (p : Nat) : Int := fidx (fun i => RR l i == RR l p) 0 l.length
end Go.Proofs.YtheadodblifklaaGreat

namespace Go.Proofs.YtheadodblifklaaGreat
open Go Ax
open Relation
set_option maxRecDepth 100000
structure CheckOk (l : List Md) : Prop where
  len : l.length ≤ 512
  one : ∀ x ∈ l, oneI x l.length = 0
  void : l.any (voidsB l) = false
  bad : ∀ r, r < l.length → ¬ badM l r
  flex : ∀ x ∈ l, flexOf x = true → ∀ e ∈ x.elems, ¬ FlexP l e.toNat
theorem checkOk_iff {l : List Md} : checkI l = 0 ↔ CheckOk l := by
  constructor
  · intro h
    unfold checkI at h
    split at h
    · omega
    · rename_i h1
      split at h
      · rename_i h2; exact absurd h h2
      · rename_i h2
        split at h
        · omega
        · rename_i h3
          split at h
          · omega
          · rename_i h4
            split at h
            · omega
            · rename_i h5
              refine ⟨by omega, fun x hx => ?_, by simpa using h3, fun r hr hb => h4 ⟨r, hr, hb⟩, fun x hx hf e he hp => h5 ⟨x, hx, hf, e, he, hp⟩⟩
              have h2 : firstI (l.map (oneI · l.length)) = 0 := by simpa using h2
              rw [firstI_zero] at h2
              exact h2 _ (List.mem_map.2 ⟨x, hx, rfl⟩)
  · intro h
    unfold checkI
    rw [if_neg (by have := h.len; omega), if_neg, if_neg (by rw [h.void]; simp), if_neg (fun ⟨r, hr, hb⟩ => h.bad r hr hb), if_neg (fun ⟨x, hx, hf, e, he, hp⟩ => h.flex x hx hf e he hp)]
    intro hc
    apply hc
    rw [firstI_zero]
    intro y hy
    obtain ⟨x, hx, rfl⟩ := List.mem_map.1 hy
    exact h.one x hx
theorem one_more {x : Md} {n : Nat} (h : oneI x n = 0) : oneI x (n + 1) = 0 := by
  obtain ⟨h1, h2, h3, h4⟩ := oneI_zero h
  unfold oneI
  rw [if_neg (by simp [h1]), if_neg, if_neg, if_neg (by rw [h4]; simp)]
  · simp only [List.any_eq_true, not_exists, not_and]
    intro s hs
    simp [h3 s hs]
  · simp only [List.any_eq_true, not_exists, not_and]
    intro e he
    have := h2 e he
    simp [outB]
    omega
theorem no_into {l : List Md} {x : Md} (hg : goodT l) (hx : ∀ e ∈ x.elems, 0 ≤ e ∧ e < (l.length : Int)) {p : Md → Bool} {a : Nat} : ¬ stepR (l ++ [x]) p a l.length := by
  rintro ⟨y, h1, _, h3⟩
  have hy : y ∈ l ++ [x] := List.mem_of_getElem? h1
  rcases List.mem_append.1 hy with h | h
  · have := hg y h _ h3; omega
  · simp at h; subst h; have := hx _ h3; omega
theorem flex_app {l : List Md} {x : Md} (hg : goodT l) {a : Nat} (ha : a < l.length) (h : FlexP (l ++ [x]) a) : FlexP l a := by
  induction h with
  | flex h1 h2 h3 =>
    rw [List.getElem?_append_left ha] at h1
    exact .flex h1 h2 h3
  | step h1 h2 ih =>
    obtain ⟨y, g1, g2⟩ := h1
    rw [List.getElem?_append_left ha] at g1
    have hb := hg y (List.mem_of_getElem? g1) _ g2.2
    exact .step ⟨y, g1, g2⟩ (ih (by omega))
theorem check_copy {l : List Md} (hc : checkI l = 0) (hn : l.length < 512) {x : Md} (hx : x ∈ l) : checkI (l ++ [x]) = 0 := by
  have ok := okT_of hc
  have h := checkOk_iff.1 hc
  have hxg := ok.good x hx
  have hmem : ∀ y ∈ l ++ [x], y ∈ l := fun y hy => by
    rcases List.mem_append.1 hy with h | h
    · exact h
    · simp at h; subst h; exact hx
  refine checkOk_iff.2 ⟨by simp; omega, fun y hy => ?_, ?_, fun r hr hb => ?_, fun y hy hf e he hp => ?_⟩
  · rw [List.length_append, List.length_singleton]
    exact one_more (h.one y (hmem y hy))
  · rw [List.any_eq_false]
    intro y hy
    have hy' := hmem y hy
    have hv := List.any_eq_false.1 h.void y hy'
    have hve : ∀ e ∈ y.elems, voidE (l ++ [x]) e = voidE l e := fun e he => by
      have := ok.good y hy' e he
      unfold voidE
      rw [List.getElem?_append_left (by omega)]
    intro hv2
    apply hv
    unfold voidsB at hv2 ⊢
    split at hv2
    · cases hv2
    · rename_i h12
      rw [if_neg h12]
      split at hv2
      · rename_i h13
        rw [if_pos h13]
        rw [List.any_eq_true] at hv2 ⊢
        obtain ⟨e, he, hh⟩ := hv2
        exact ⟨e, he, by rw [← hve e (List.dropLast_subset _ he)]; exact hh⟩
      · rename_i h13
        rw [if_neg h13]
        rw [List.any_eq_true] at hv2 ⊢
        obtain ⟨e, he, hh⟩ := hv2
        exact ⟨e, he, by rw [← hve e he]; exact hh⟩
  · have key : ∀ p : Md → Bool, TransGen (stepR (l ++ [x]) p) r r → r < l.length ∧ TransGen (stepR l p) r r := fun p hp => by
      have hrl : r < l.length := by
        rcases Nat.lt_or_ge r l.length with h | h
        · exact h
        · have : r = l.length := by simp at hr; omega
          subst this
          exfalso
          cases hp with
          | single h => exact no_into ok.good hxg h
          | tail _ h => exact no_into ok.good hxg h
      exact ⟨hrl, (tg_app ok.good hrl hp).1⟩
    rcases hb with hb | hb
    · obtain ⟨h1, h2⟩ := key _ hb; exact h.bad r h1 (.inl h2)
    · obtain ⟨h1, h2⟩ := key _ hb; exact h.bad r h1 (.inr h2)
  · have hy' := hmem y hy
    have := ok.good y hy' e he
    exact h.flex y hy' hf e he (flex_app ok.good (by omega) hp)
theorem putI_copy {l : List Md} (hc : checkI l = 0) (hn : l.length < 512) {z : Nat} (hz : z < l.length) : (putI l (mdAt l z)).1 = l ∧ (putI l (mdAt l z)).2.2 = 0 := by
  have hm : mdAt l z ∈ l := by rw [mdAt_eq hz]; exact List.getElem_mem hz
  have ok := okT_of hc
  have hin : ∀ e ∈ (mdAt l z).elems, outB l.length e = false := fun e he => by
    have := ok.good _ hm e he
    simp [outB]; omega
  have hcc := check_copy hc hn hm
  have hRz : RR (l ++ [mdAt l z]) z = RR (l ++ [mdAt l z]) l.length := by
    have hl : (l ++ [mdAt l z]).length = l.length + 1 := by simp
    refine RR_same (by omega) (by omega) ?_ ?_
    · rw [mdAt_app hz, mdAt_last]
      have := (firstC_ord.self (a := mdAt l z) trivial)
      exact this
    · rw [mdAt_app hz, mdAt_last]
  rcases fidx_first (p := fun i => RR (l ++ [mdAt l z]) i == RR (l ++ [mdAt l z]) l.length) (l.length + 1) 0 with ⟨_, h2⟩ | ⟨j, _, hj, h1, h2, h3⟩
  · have := h2 z (by omega) (by omega)
    simp [hRz] at this
  · have hjz : j ≤ z := by
      rcases Nat.lt_or_ge z j with h | h
      · have := h3 z (by omega) h
        simp [hRz] at this
      · exact h
    have hf := findI_some hin hcc (j := j) (by omega) (by simpa using h2) (fun i hi => by simpa using h3 i (by omega) hi)
    unfold putI
    rw [if_neg (by simp [hc]), hf]
    exact ⟨rfl, rfl⟩
end Go.Proofs.YtheadodblifklaaGreat

namespace Go.Proofs.YtheadodblifklaaGreat
open Go Ax Go.ChangeShapes Go.WideShapes Go.ChangeAt Go.RowKit
set_option maxRecDepth 100000
theorem under22 : Tryz.prog.underlying 22 = some (.slice 49) := by kernel_rfl
theorem under3 : Tryz.prog.underlying 3 = some (.int .i64) := by kernel_rfl
theorem under4 : Tryz.prog.underlying 4 = some .bool := by kernel_rfl
theorem under33 : Tryz.prog.underlying 33 = some (.slice 3) := by kernel_rfl
theorem under47 : Tryz.prog.underlying 47 = some (.slice 9) := by kernel_rfl
theorem under9 : Tryz.prog.underlying 9 = some .string := by kernel_rfl
theorem laidOut : laidOutB Tryz.prog = true := by kernel_rfl
theorem own0 : ownKnob Tryz.prog.godebug = none := by kernel_rfl
noncomputable def fs49 : Array Field := match Tryz.prog.underlying 49 with | some (.struct fs) => fs | _ => #[]
noncomputable def modeT : ModeT Tryz.prog :=
  { tT := 22, tM := 49, tI := 33, eI := 3, tS := 47, eS := 9, k0 := 3, k1 := 3, k4 := 3, k5 := 4, fs := fs49,
    hT := under22, hM := by kernel_rfl, hI := under33, hi := under3, hS := under47, hs := under9, h0 := under3, h1 := under3, h4 := under3, h5 := under4,
    cM := by kernel_rfl, ci := by kernel_rfl, cs := by kernel_rfl, c0 := by kernel_rfl, c1 := by kernel_rfl, cI := by kernel_rfl, cS := by kernel_rfl, c4 := by kernel_rfl, c5 := by kernel_rfl,
    bi := by kernel_rfl, bs := by kernel_rfl, bM := of_decide_eq_true (by kernel_rfl), sz := by kernel_rfl, f0 := by kernel_rfl, f1 := by kernel_rfl, f2 := by kernel_rfl, f3 := by kernel_rfl, f4 := by kernel_rfl, f5 := by kernel_rfl }
def LawTII (f : FuncId) : Prop := ∀ (m : AMem) (s : AVal) (l : List Md) (u v : Int), RTab m s l → l.length ≤ reachBytes → (∀ md ∈ l, MdB reachBytes md) → ACalls Tryz.prog f [s, .int .i64 u, .int .i64 v] m fun r _ => r = .bool true
theorem lifted3 {os : Os} (started : os.Started) {H : Type} {enc : TypeId × Value → H} {f : FuncId} {fn : Func} {s : ChangeSpec} {conds : List PathCond}
    (noInit : Tryz.checked.prog.inits.idxOf? f = none) (hfn : Tryz.checked.prog.funcs[f]? = some fn) (hp : fn.params = #[22, 3, 3]) (hr : fn.resultTypes = #[4]) (hs : s.vars = [])
    (hsf : ∀ d1 d2 d3 : DataW H, s.fn H [d1, d2, d3] = { results := [.lit (.bool true)], args := [d1, d2, d3] })
    (witness : ∃ (w : World) (tape : Tape) (i : Input), w.os = os ∧ (w.forCall tape i).Shaped Tryz.checked.prog ∧ i.vars = [] ∧ Input.okWide Tryz.checked.prog (w.forCall tape i) .any w.heap.size f i ∧
      s.pre6 enc Tryz.checked.prog fn conds false (w.forCall tape i).memory i.args ∧ ({} : Assume).holds Tryz.checked.prog (lone (Frame.enter Tryz.checked.prog f i.args .normal) [] (w.forCall tape i)))
    (law : LawTII f) :
    ReturnsInHanded {} Tryz.checked os f .any (s.pre6 enc Tryz.checked.prog fn conds false) (s.post enc Tryz.checked.prog fn false true false false) := by
  refine returnsInHanded_of_change_sized (C := Tryz.checked) own0 started noInit hfn witness ?_
  intro W base args ds gs before hval0 hW _ hsz0 _
  have hW' := hW
  rw [hp] at hval0 hsz0
  obtain ⟨p, q, hA, hV, rfl, _, _⟩ := hW
  rw [hp] at hA
  rw [hs] at hV
  obtain ⟨v0, v1, v2, d0, d1, d2, p0, p1, p2, rfl, rfl, rfl, h0, h1, h2⟩ := trodAll_three hA
  obtain ⟨rfl, rfl⟩ := trodVars_none hV
  obtain ⟨a1, rfl, rfl, rfl, w1⟩ := open_int under3 (hval0 1 3 v1 rfl rfl) h1
  obtain ⟨a2, rfl, rfl, rfl, w2⟩ := open_int under3 (hval0 2 3 v2 rfl rfl) h2
  have hv0 := hval0 0 22 v0 rfl rfl
  have h0k := h0
  obtain ⟨fuel, hf⟩ := h0
  obtain ⟨a0, len, cap, rfl⟩ := okWide_slice under22 hv0
  obtain ⟨l, hent, hbd⟩ := enters_tab (enc := enc) modeT (fuel := fuel) (x := (d0, p0)) (fun a len' cap' e => by
    simp [Value.cells] at e
    obtain ⟨rfl, rfl, rfl⟩ := e
    exact heap_pos under22 hv0) hf
  obtain ⟨b1, b2⟩ := hbd reachBytes (by
    rw [List.all_eq_true] at hsz0 ⊢
    intro n hn
    exact hsz0 n (DataW.weights_mem_each (j := 0) (t := 22) (d := d0) (by simp) (by simp) n hn))
  obtain ⟨ρ', m', xs, _, _, hro, hsim, hvr, sv, rfl, hT⟩ := hent [] [] (Sim.nil W) RoMem.nil
  simp only [VRs] at hvr
  obtain ⟨_, _, e, hvr, rfl⟩ := hvr
  simp [Value.cells] at e
  subst e
  have hlt : ∀ x ∈ p0, x.block < W.heap.size := fun x hx => hW'.lt x (by simp [hx])
  refine ((law m' sv l a1 a2 hT b1 b2).2 ρ' W #[.slice a0 len cap, .int .i64 a1, .int .i64 a2] hsim (by simp only [VRs, VR]; exact ⟨_, _, rfl, hvr, _, _, rfl, rfl, _, _, rfl, rfl, rfl⟩)).mono fun e W' h => ?_
  obtain ⟨v', v, m'', ρ'', rfl, rfl, hv, _, hev⟩ := h
  simp only [VR] at hv
  subst hv
  have hb := below_of_evol hro hev
  refine ⟨_, rfl, [d0, _, _], [], _, [], p0 ++ ([] ++ ([] ++ [])), [], hW', ?_, ?_, ?_, hb.frame _, fun h => by cases h⟩
  · rw [hr]
    show DataW.TrodAll enc _ W' _ _ _ [4] _ (s.fn H [d0, _, _]).results []
    rw [hsf]
    exact trodAll_mk1 (shut_bool under4 true)
  · rw [hp]
    show DataW.TrodAll enc _ W' _ _ _ [22, 3, 3] _ (s.fn H [d0, _, _]).args _
    rw [hsf]
    exact trodAll_cons_mk (Below.trod laidOut (by kernel_rfl) (of_decide_eq_true (by kernel_rfl)) h0k hb hlt) (trodAll_cons_mk (shut_int under3 w1) (trodAll_cons_mk (shut_int under3 w2) trodAll_mk0))
  · show DataW.TrodVars enc _ W' _ s.vars (s.fn H [d0, _, _]).vars _
    rw [hsf, hs]
    rfl
end Go.Proofs.YtheadodblifklaaGreat

namespace Go.Proofs.YtheadodblifklaaGreat
open Go Ax Go.ChangeShapes Go.WideShapes Go.ChangeAt Go.RowKit
set_option maxRecDepth 100000
theorem putI_small {l : List Md} {x : Md} (hl : ∀ y ∈ l, smallN y) (hx : smallN x) : ∀ y ∈ (putI l x).1, smallN y := by
  have hlx : ∀ y ∈ l ++ [x], smallN y := fun y hy => by
    rcases List.mem_append.1 hy with h | h
    · exact hl y h
    · simp at h; subst h; exact hx
  unfold putI
  split
  · simp
  · split
    · exact hl
    · split
      · simp
      · exact hlx
theorem putI_len (l : List Md) (x : Md) : (putI l x).1.length ≤ l.length + 1 := by
  unfold putI
  split
  · simp
  · split
    · simp
    · split
      · simp
      · simp
theorem ofI_small {l : List Md} {zs : List Nat} (hl : ∀ y ∈ l, smallN y) (hz : ∀ z ∈ zs, z < l.length) (hn : zs.length < 2 ^ 30) : ∀ y ∈ (ofI l zs).1, smallN y := by
  unfold ofI
  split
  · rename_i h1
    have hz0 : zs.getD 0 0 < l.length := by
      have : zs.getD 0 0 = zs[0] := by simp [List.getD, h1]
      rw [this]; exact hz _ (List.getElem_mem _)
    exact putI_small hl (hl _ (by rw [mdAt_eq hz0]; exact List.getElem_mem hz0))
  · exact putI_small hl ⟨by simp [unionOf]; omega, by simp [unionOf], by simp [unionOf]⟩
theorem ofI_len (l : List Md) (zs : List Nat) : (ofI l zs).1.length ≤ l.length + 1 := by
  unfold ofI
  split
  · exact putI_len _ _
  · exact putI_len _ _
theorem without_small {l : List Md} (hn : l.length ≤ 60) (hl : ∀ y ∈ l, smallN y) (u v : Int) : (∀ y ∈ (withoutI l u v).1, smallN y) ∧ (withoutI l u v).1.length ≤ l.length + 1 := by
  unfold withoutI
  split
  · simp
  · rename_i h
    obtain ⟨hc, a, b, rfl, rfl, ha, hb⟩ := right2 (by simpa using h)
    have ok := okT_of hc
    split
    · simp
    · split
      · simp
      · refine ⟨ofI_small hl (fun z hz => ?_) ?_, ofI_len _ _⟩
        · simp only [Int.toNat_natCast, leftI] at hz
          exact (basesEx ok.good ha).lt ok.good ha z (List.mem_filter.1 hz).1
        · simp only [Int.toNat_natCast, leftI]
          have h1 := (basesEx ok.good ha).length ok.good ha
          have h2 := List.length_filter_le (fun z => !@decide (hasRR l b z) (Classical.propDecidable _)) (basesOf l a)
          omega
end Go.Proofs.YtheadodblifklaaGreat

namespace Go.Proofs.YtheadodblifklaaGreat
open Go Ax
open Relation
set_option maxRecDepth 100000
theorem OrdG.zero_trans {α : Type} {c : α → α → Int} {D : α → Prop} (h : OrdG c D) {a b d : α} (ha : D a) (hb : D b) (hd : D d) (h1 : c a b = 0) (h2 : c b d = 0) : c a d = 0 := by
  have e1 := h.trans a b d ha hb hd (by omega) (by omega)
  have e2 := h.trans d b a hd hb ha (by rw [(h.zero hb hd).1 h2]; omega) (by rw [(h.zero ha hb).1 h1]; omega)
  have := h.anti a d ha hd
  have := h.anti d a hd ha
  omega
structure Bisim (l : List Md) (E : Nat → Nat → Prop) : Prop where
  lt : ∀ a b, E a b → a < l.length ∧ b < l.length
  first : ∀ a b, E a b → firstC (mdAt l a) (mdAt l b) = 0
  up : ∀ a b j, E a b → isU (mdAt l a) = true → IsPart l a j → ∃ j', IsPart l b j' ∧ E j j'
  down : ∀ a b j, E a b → isU (mdAt l b) = true → IsPart l b j → ∃ j', IsPart l a j' ∧ E j' j
  len : ∀ a b, E a b → isU (mdAt l a) = false → (mdAt l a).elems.length = (mdAt l b).elems.length
  el : ∀ (a b k : Nat) (e e' : Int), E a b → isU (mdAt l a) = false → (mdAt l a).elems[k]? = some e → (mdAt l b).elems[k]? = some e' → E e.toNat e'.toNat
theorem Bisim.R {l : List Md} {E : Nat → Nat → Prop} (h : Bisim l E) : ∀ d a b, E a b → R l d a = R l d b
  | 0, _, _, _ => rfl
  | d + 1, a, b, he => by
    have ih := h.R d
    obtain ⟨ha, hb⟩ := h.lt a b he
    have hf := h.first a b he
    have hu : isU (mdAt l a) = isU (mdAt l b) := by unfold isU; rw [firstC_kind hf]
    have hk : keyOf l (Go.Proofs.YtheadodblifklaaGreat.R l d) a = keyOf l (Go.Proofs.YtheadodblifklaaGreat.R l d) b := by
      unfold keyOf
      rw [← hu]
      cases hua : isU (mdAt l a)
      · rw [if_neg (by simp), if_neg (by simp)]
        refine List.ext_getElem? fun k => ?_
        rw [List.getElem?_map, List.getElem?_map]
        have hl := h.len a b he hua
        by_cases hkl : k < (mdAt l a).elems.length
        · rw [List.getElem?_eq_getElem hkl, List.getElem?_eq_getElem (by omega)]
          simp only [Option.map_some, Option.some.injEq, Int.natCast_inj]
          exact ih _ _ (h.el a b k _ _ he hua (List.getElem?_eq_getElem hkl) (List.getElem?_eq_getElem (by omega)))
        · rw [List.getElem?_eq_none (by omega), List.getElem?_eq_none (by omega)]
      · rw [if_pos rfl, if_pos rfl]
        congr 1
        apply List.filter_congr
        intro v _
        rw [decide_eq_decide]
        constructor
        · rintro ⟨j, h1, h2⟩
          obtain ⟨j', h3, h4⟩ := h.up a b j he hua h1
          exact ⟨j', h3, by rw [← ih _ _ h4]; exact h2⟩
        · rintro ⟨j, h1, h2⟩
          obtain ⟨j', h3, h4⟩ := h.down a b j he (by rw [← hu]; exact hua) h1
          exact ⟨j', h3, by rw [ih _ _ h4]; exact h2⟩
    have hc : cmpR l (Go.Proofs.YtheadodblifklaaGreat.R l d) d a b = 0 := by
      unfold cmpR thenC
      have h0 : cmpI (Go.Proofs.YtheadodblifklaaGreat.R l d a : Nat) (Go.Proofs.YtheadodblifklaaGreat.R l d b : Nat) = 0 := cmpI_zero.2 (by rw [ih a b he])
      simp only [h0]
      by_cases hd : d = 0
      · simp [hd, hf]
      · simp [hd, hk, lexC_refl]
    have h1 := R_lt l d (b := b) ha
    have h2 := R_lt l d (b := a) hb
    have h3 := (cmpR_ord l (Go.Proofs.YtheadodblifklaaGreat.R l d) d).anti a b trivial trivial
    have h4 := (cmpR_ord l (Go.Proofs.YtheadodblifklaaGreat.R l d) d).anti b a trivial trivial
    omega
theorem Bisim.RR {l : List Md} {E : Nat → Nat → Prop} (h : Bisim l E) {a b : Nat} (he : E a b) : RR l a = RR l b := h.R _ a b he
theorem RR_part {l : List Md} (hg : goodT l) {a b j : Nat} (ha : a < l.length) (hb : b < l.length) (h : RR l a = RR l b) (hu : isU (mdAt l a) = true) (hj : IsPart l a j) : ∃ j', IsPart l b j' ∧ RR l j = RR l j' := by
  have hk := RR_key hg ha hb h
  have hub : isU (mdAt l b) = true := by unfold isU at hu ⊢; rw [← firstC_kind (RR_first ha hb h)]; exact hu
  have hr : ∀ a, a < l.length → RR l a < l.length := fun a ha => R_bound l _ ha
  have k1 := ((keyOf_isKey hg hr a).un hu).2 (RR l j : Int)
  have k2 := ((keyOf_isKey hg hr b).un hub).2 (RR l j : Int)
  rw [hk] at k1
  obtain ⟨j', h1, h2⟩ := k2.1 (k1.2 ⟨j, hj, rfl⟩)
  exact ⟨j', h1, by omega⟩
theorem RR_elem {l : List Md} (hg : goodT l) {a b : Nat} (ha : a < l.length) (hb : b < l.length) (h : RR l a = RR l b) (hu : isU (mdAt l a) = false) : (mdAt l a).elems.length = (mdAt l b).elems.length ∧ ∀ (k : Nat) (e e' : Int), (mdAt l a).elems[k]? = some e → (mdAt l b).elems[k]? = some e' → RR l e.toNat = RR l e'.toNat := by
  have hk := RR_key hg ha hb h
  have hub : isU (mdAt l b) = false := by unfold isU at hu ⊢; rw [← firstC_kind (RR_first ha hb h)]; exact hu
  have hr : ∀ a, a < l.length → RR l a < l.length := fun a ha => R_bound l _ ha
  have k1 := (keyOf_isKey hg hr a).el hu
  have k2 := (keyOf_isKey hg hr b).el hub
  rw [hk, k2] at k1
  refine ⟨by have := congrArg List.length k1; simpa using this.symm, fun k e e' h1 h2 => ?_⟩
  have := congrArg (·[k]?) k1
  simp only [List.getElem?_map, h1, h2, Option.map_some, Option.some.injEq, Int.natCast_inj] at this
  exact this.symm
theorem check_union {l : List Md} (hc : checkI l = 0) (hn : l.length < 512) {zs : List Nat} (hz : ∀ z ∈ zs, z < l.length ∧ ¬ FlexP l z) (h2 : 2 ≤ zs.length) (h64 : zs.length ≤ 64) : checkI (l ++ [unionOf zs]) = 0 := by
  have ok := okT_of hc
  have h := checkOk_iff.1 hc
  have hxg : ∀ e ∈ (unionOf zs).elems, 0 ≤ e ∧ e < (l.length : Int) := fun e he => by
    obtain ⟨z, hz1, rfl⟩ := List.mem_map.1 he
    have := (hz z hz1).1
    show 0 ≤ (z : Int) ∧ (z : Int) < l.length
    omega
  refine checkOk_iff.2 ⟨by simp; omega, fun y hy => ?_, ?_, fun r hr hb => ?_, fun y hy hf e he hp => ?_⟩
  · rw [List.length_append, List.length_singleton]
    rcases List.mem_append.1 hy with hy | hy
    · exact one_more (h.one y hy)
    · simp at hy
      subst hy
      have hs : shapeI (unionOf zs) = 0 := by
        unfold shapeI
        rw [if_neg (by simp [unionOf]), if_pos, if_neg (by simp [unionOf]; omega)]
        refine ⟨?_, ?_, ?_, ?_, ?_, ?_⟩ <;> simp [least, most, nNames, dimsOk, sizeOk, unionOf]
        omega
      unfold oneI
      rw [if_neg (by simp [hs]), if_neg, if_neg (by simp [unionOf]), if_neg (by simp [unionOf, twiceB])]
      simp only [List.any_eq_true, not_exists, not_and]
      intro e he
      have := hxg e he
      simp [outB]
      omega
  · rw [List.any_eq_false]
    intro y hy
    rcases List.mem_append.1 hy with hy' | hy'
    · have hv := List.any_eq_false.1 h.void y hy'
      have hve : ∀ e ∈ y.elems, voidE (l ++ [unionOf zs]) e = voidE l e := fun e he => by
        have := ok.good y hy' e he
        unfold voidE
        rw [List.getElem?_append_left (by omega)]
      intro hv2
      apply hv
      unfold voidsB at hv2 ⊢
      split at hv2
      · cases hv2
      · rename_i h12
        rw [if_neg h12]
        split at hv2
        · rename_i h13
          rw [if_pos h13]
          rw [List.any_eq_true] at hv2 ⊢
          obtain ⟨e, he, hh⟩ := hv2
          exact ⟨e, he, by rw [← hve e (List.dropLast_subset _ he)]; exact hh⟩
        · rename_i h13
          rw [if_neg h13]
          rw [List.any_eq_true] at hv2 ⊢
          obtain ⟨e, he, hh⟩ := hv2
          exact ⟨e, he, by rw [← hve e he]; exact hh⟩
    · simp at hy'
      subst hy'
      simp [voidsB, unionOf]
  · have key : ∀ p : Md → Bool, TransGen (stepR (l ++ [unionOf zs]) p) r r → r < l.length ∧ TransGen (stepR l p) r r := fun p hp => by
      have hrl : r < l.length := by
        rcases Nat.lt_or_ge r l.length with h | h
        · exact h
        · have : r = l.length := by simp at hr; omega
          subst this
          exfalso
          cases hp with
          | single h => exact no_into ok.good hxg h
          | tail _ h => exact no_into ok.good hxg h
      exact ⟨hrl, (tg_app ok.good hrl hp).1⟩
    rcases hb with hb | hb
    · obtain ⟨h1, h2⟩ := key _ hb; exact h.bad r h1 (.inl h2)
    · obtain ⟨h1, h2⟩ := key _ hb; exact h.bad r h1 (.inr h2)
  · rcases List.mem_append.1 hy with hy' | hy'
    · have := ok.good y hy' e he
      exact h.flex y hy' hf e he (flex_app ok.good (by omega) hp)
    · simp at hy'
      subst hy'
      obtain ⟨z, hz1, rfl⟩ := List.mem_map.1 he
      have := hz z hz1
      exact this.2 (flex_app ok.good this.1 (by simpa using hp))
section
variable {l : List Md} {zs : List Nat}
theorem RR_app {x : Md} (hg : goodT l) (hg' : goodT (l ++ [x])) {a b : Nat} (ha : a < l.length) (hb : b < l.length) (h : RR (l ++ [x]) a = RR (l ++ [x]) b) : RR l a = RR l b := by
  have hl : (l ++ [x]).length = l.length + 1 := by simp
  have hel : ∀ {a k : Nat} {e : Int}, a < l.length → (mdAt l a).elems[k]? = some e → e.toNat < l.length := fun {a k e} ha h => by
    have := hg (mdAt l a) (by rw [mdAt_eq ha]; exact List.getElem_mem ha) e (List.mem_of_getElem? h)
    omega
  refine Bisim.RR (E := fun a b => a < l.length ∧ b < l.length ∧ RR (l ++ [x]) a = RR (l ++ [x]) b) ⟨fun a b h => ⟨h.1, h.2.1⟩, fun a b h => ?_, fun a b j h hu hj => ?_, fun a b j h hu hj => ?_, fun a b h hu => ?_, fun a b k e e' h hu h1 h2 => ?_⟩ ⟨ha, hb, h⟩
  · have := RR_first (by omega) (by omega) h.2.2
    rwa [mdAt_app h.1, mdAt_app h.2.1] at this
  · obtain ⟨j', h1, h2⟩ := RR_part hg' (by omega) (by omega) h.2.2 (by rw [mdAt_app h.1]; exact hu) ((part_old hg h.1).2 hj)
    have h1 := (part_old hg h.2.1).1 h1
    exact ⟨j', h1, hj.lt hg, h1.lt hg, h2⟩
  · obtain ⟨j', h1, h2⟩ := RR_part hg' (by omega) (by omega) h.2.2.symm (by rw [mdAt_app h.2.1]; exact hu) ((part_old hg h.2.1).2 hj)
    have h1 := (part_old hg h.1).1 h1
    exact ⟨j', h1, h1.lt hg, hj.lt hg, h2.symm⟩
  · have := (RR_elem hg' (by omega) (by omega) h.2.2 (by rw [mdAt_app h.1]; exact hu)).1
    rwa [mdAt_app h.1, mdAt_app h.2.1] at this
  · have := (RR_elem hg' (by omega) (by omega) h.2.2 (by rw [mdAt_app h.1]; exact hu)).2 k e e'
    rw [mdAt_app h.1, mdAt_app h.2.1] at this
    exact ⟨hel h.1 h1, hel h.2.1 h2, this h1 h2⟩
theorem RR_union (hc : checkI l = 0) (hg' : goodT (l ++ [unionOf zs])) (hz : ∀ z ∈ zs, z < l.length ∧ isU (mdAt l z) = false) {p : Nat} (hp : p < l.length) (hu : isU (mdAt l p) = true) (h1 : ∀ j, IsPart l p j → ∃ z ∈ zs, RR l j = RR l z) (h2 : ∀ z ∈ zs, ∃ j, IsPart l p j ∧ RR l j = RR l z) :
    RR (l ++ [unionOf zs]) l.length = RR (l ++ [unionOf zs]) p ∧ ∀ a b, a < l.length → b < l.length → RR l a = RR l b → RR (l ++ [unionOf zs]) a = RR (l ++ [unionOf zs]) b := by
  have hg := (okT_of hc).good
  have hl : (l ++ [unionOf zs]).length = l.length + 1 := by simp
  obtain ⟨φ, hφ⟩ : ∃ φ : Nat → Nat, ∀ a, φ a = if a = l.length then p else a := ⟨_, fun _ => rfl⟩
  have hφn : φ l.length = p := by rw [hφ, if_pos rfl]
  have hφo : ∀ a, a < l.length → φ a = a := fun a h => by rw [hφ, if_neg (by omega)]
  have hφl : ∀ a, a < l.length + 1 → φ a < l.length := fun a h => by
    rw [hφ]; split <;> omega
  have hcase : ∀ a, a < l.length + 1 → a = l.length ∨ a < l.length := fun a h => by omega
  have hpx : firstC (unionOf zs) (mdAt l p) = 0 := by
    have hone := (oneI_zero ((checkOk_iff.1 hc).one (mdAt l p) (by rw [mdAt_eq hp]; exact List.getElem_mem hp))).1
    have hk : (mdAt l p).kind = 12 := by simpa [isU] using hu
    have hsh : shaped (mdAt l p) := by
      unfold shapeI at hone
      split at hone
      · omega
      · split at hone
        · assumption
        · omega
    obtain ⟨_, _, s3, s4, s5, s6⟩ := hsh
    have e3 : (mdAt l p).names = [] := by
      simp [nNames, hk] at s3
      exact s3
    have e4 : (mdAt l p).dims = 0 := by simpa [dimsOk, hk] using s4
    have e5 : (mdAt l p).size = 0 := by simpa [sizeOk, hk] using s5
    have e6 : (mdAt l p).flex = false := by
      cases hf : (mdAt l p).flex
      · rfl
      · have := s6 hf; omega
    have hz0 : ∀ z : Int, cmpI z z = 0 := fun z => cmpI_zero.2 rfl
    simp [firstC, firstL, firstNZ_cons, unionOf, hk, e3, e4, e5, e6, lenC, hz0, lexC, firstNZ]
  have hfirst : ∀ a, a < l.length + 1 → firstC (mdAt (l ++ [unionOf zs]) a) (mdAt l (φ a)) = 0 := fun a ha => by
    rcases hcase a ha with rfl | h
    · rw [mdAt_last, hφn]; exact hpx
    · rw [mdAt_app h, hφo a h]; exact firstC_ord.self trivial
  have hto : ∀ a j, a < l.length + 1 → IsPart (l ++ [unionOf zs]) a j → j < l.length ∧ ∃ j', IsPart l (φ a) j' ∧ RR l j' = RR l j := fun a j ha hj => by
    rcases hcase a ha with rfl | h
    · have hjz := (part_new hz).1 hj
      rw [hφn]
      exact ⟨(hz j hjz).1, h2 j hjz⟩
    · have hj' := (part_old hg h).1 hj
      rw [hφo a h]
      exact ⟨hj'.lt hg, j, hj', rfl⟩
  have hfrom : ∀ a j, a < l.length + 1 → IsPart l (φ a) j → ∃ j', IsPart (l ++ [unionOf zs]) a j' ∧ j' < l.length ∧ RR l j = RR l j' := fun a j ha hj => by
    rcases hcase a ha with rfl | h
    · rw [hφn] at hj
      obtain ⟨z, hzz, he⟩ := h1 j hj
      exact ⟨z, (part_new hz).2 hzz, (hz z hzz).1, he⟩
    · rw [hφo a h] at hj
      exact ⟨j, (part_old hg h).2 hj, hj.lt hg, rfl⟩
  have hun : ∀ a, a < l.length + 1 → isU (mdAt (l ++ [unionOf zs]) a) = isU (mdAt l (φ a)) := fun a ha => by unfold isU; rw [firstC_kind (hfirst a ha)]
  have hold : ∀ a, a < l.length + 1 → isU (mdAt (l ++ [unionOf zs]) a) = false → a < l.length := fun a ha h => by
    rcases hcase a ha with rfl | h'
    · rw [mdAt_last] at h; simp [isU, unionOf] at h
    · exact h'
  have hB : Bisim (l ++ [unionOf zs]) (fun a b => a < l.length + 1 ∧ b < l.length + 1 ∧ RR l (φ a) = RR l (φ b)) := by
    refine ⟨fun a b h => ⟨by omega, by omega⟩, fun a b h => ?_, fun a b j h hu hj => ?_, fun a b j h hu hj => ?_, fun a b h hu => ?_, fun a b k e e' h hu g1 g2 => ?_⟩
    · have e1 := hfirst a h.1
      have e2 := RR_first (hφl a h.1) (hφl b h.2.1) h.2.2
      have e3 := (firstC_ord.zero trivial trivial).1 (hfirst b h.2.1)
      exact firstC_ord.zero_trans trivial trivial trivial (firstC_ord.zero_trans trivial trivial trivial e1 e2) e3
    · obtain ⟨hjl, j1, h3, h4⟩ := hto a j h.1 hj
      obtain ⟨j2, h5, h6⟩ := RR_part hg (hφl a h.1) (hφl b h.2.1) h.2.2 (by rw [← hun a h.1]; exact hu) h3
      obtain ⟨j3, h7, h8, h9⟩ := hfrom b j2 h.2.1 h5
      exact ⟨j3, h7, by omega, by omega, by rw [hφo j hjl, hφo j3 h8, ← h4, h6, h9]⟩
    · obtain ⟨hjl, j1, h3, h4⟩ := hto b j h.2.1 hj
      obtain ⟨j2, h5, h6⟩ := RR_part hg (hφl b h.2.1) (hφl a h.1) h.2.2.symm (by rw [← hun b h.2.1]; exact hu) h3
      obtain ⟨j3, h7, h8, h9⟩ := hfrom a j2 h.1 h5
      exact ⟨j3, h7, by omega, by omega, by rw [hφo j hjl, hφo j3 h8, ← h4, h6, h9]⟩
    · have ha' := hold a h.1 hu
      have hub : isU (mdAt (l ++ [unionOf zs]) b) = false := by
        rw [hun b h.2.1]
        rw [hun a h.1] at hu
        have := firstC_kind (RR_first (hφl a h.1) (hφl b h.2.1) h.2.2)
        unfold isU at hu ⊢
        rw [← this]; exact hu
      have hb' := hold b h.2.1 hub
      have hR := h.2.2
      rw [hφo a ha', hφo b hb'] at hR
      rw [mdAt_app ha'] at hu
      have := (RR_elem hg ha' hb' hR hu).1
      rwa [mdAt_app ha', mdAt_app hb']
    · have ha' := hold a h.1 hu
      have hub : isU (mdAt (l ++ [unionOf zs]) b) = false := by
        rw [hun b h.2.1]
        rw [hun a h.1] at hu
        have := firstC_kind (RR_first (hφl a h.1) (hφl b h.2.1) h.2.2)
        unfold isU at hu ⊢
        rw [← this]; exact hu
      have hb' := hold b h.2.1 hub
      have hR := h.2.2
      rw [hφo a ha', hφo b hb'] at hR
      rw [mdAt_app ha'] at hu g1
      rw [mdAt_app hb'] at g2
      have := (RR_elem hg ha' hb' hR hu).2 k e e' g1 g2
      have l1 := hg (mdAt l a) (by rw [mdAt_eq ha']; exact List.getElem_mem ha') e (List.mem_of_getElem? g1)
      have l2 := hg (mdAt l b) (by rw [mdAt_eq hb']; exact List.getElem_mem hb') e' (List.mem_of_getElem? g2)
      refine ⟨by omega, by omega, ?_⟩
      rw [hφo _ (by omega), hφo _ (by omega)]
      exact this
  refine ⟨hB.RR ⟨by omega, by omega, by rw [hφn, hφo p hp]⟩, fun a b ha hb h => hB.RR ⟨by omega, by omega, by rw [hφo a ha, hφo b hb]; exact h⟩⟩
open Classical in
theorem putI_union (hc : checkI l = 0) (hn : l.length < 512) (hz : ∀ z ∈ zs, z < l.length ∧ isU (mdAt l z) = false ∧ ¬ FlexP l z) (h2 : 2 ≤ zs.length) (h64 : zs.length ≤ 64) {p : Nat} (hp : p < l.length) (hu : isU (mdAt l p) = true) (hs : sameB l (basesOf l p) zs = true) : putI l (unionOf zs) = (l, leastI l p, 0) := by
  have ok := okT_of hc
  have hcc := check_union hc hn (fun z h => ⟨(hz z h).1, (hz z h).2.2⟩) h2 h64
  have hg' := (okT_of hcc).good
  unfold sameB at hs
  obtain ⟨hsl, hse⟩ := of_decide_eq_true hs
  have hA : ∀ j, IsPart l p j → ∃ z ∈ zs, RR l j = RR l z := fun j hj => by
    obtain ⟨w, hw, he⟩ := basesOf_cov ok.good hp (by unfold IsBase; rw [if_pos hu]; exact hj)
    obtain ⟨i, hi, rfl⟩ := List.mem_iff_getElem.1 hw
    have hi' : i < zs.length := by omega
    exact ⟨zs[i], List.getElem_mem hi', by rw [← he]; exact hse i _ _ (List.getElem?_eq_getElem hi) (List.getElem?_eq_getElem hi')⟩
  have hB : ∀ z ∈ zs, ∃ j, IsPart l p j ∧ RR l j = RR l z := fun z h => by
    obtain ⟨i, hi, rfl⟩ := List.mem_iff_getElem.1 h
    have hi' : i < (basesOf l p).length := by omega
    have hb := basesOf_sub ok.good hp (List.getElem_mem hi')
    unfold IsBase at hb
    rw [if_pos hu] at hb
    exact ⟨_, hb, hse i _ _ (List.getElem?_eq_getElem hi') (List.getElem?_eq_getElem hi)⟩
  obtain ⟨hR1, hR2⟩ := RR_union hc hg' (fun z h => ⟨(hz z h).1, (hz z h).2.1⟩) hp hu hA hB
  have hin : ∀ e ∈ (unionOf zs).elems, outB l.length e = false := fun e he => by
    obtain ⟨z, hz1, rfl⟩ := List.mem_map.1 he
    have := (hz z hz1).1
    simp [outB]; omega
  rcases fidx_first (p := fun i => RR l i == RR l p) l.length 0 with ⟨_, h3⟩ | ⟨j, _, hj, h3, h4, h5⟩
  · have := h3 p (by omega) (by omega)
    simp at this
  · have hjl : j < l.length := by omega
    have hf := findI_some hin hcc hjl (by rw [hR1]; exact hR2 j p hjl hp (by simpa using h4)) (fun i hi he => by
      rw [hR1] at he
      have h6 := RR_app ok.good hg' (by omega) hp he
      have := h5 i (by omega) hi
      simp [h6] at this)
    unfold putI
    rw [if_neg (by simp [hc]), hf]
    unfold leastI
    rw [h3]
end
end Go.Proofs.YtheadodblifklaaGreat

namespace Go.Proofs.YtheadodblifklaaGreat
open Go Ax Go.ChangeShapes Go.WideShapes Go.ChangeAt Go.RowKit
set_option maxRecDepth 100000
theorem base_nf {l : List Md} (hc : checkI l = 0) {x j : Nat} (hx : ¬ FlexP l x) (hj : IsBase l x j) : ¬ FlexP l j := by
  unfold IsBase at hj
  split at hj
  · exact part_nflex hc hj
  · subst hj; exact hx
end Go.Proofs.YtheadodblifklaaGreat

namespace Go.Proofs.YtheadodblifklaaGreat
open Go Ax
open Relation
set_option maxRecDepth 100000
theorem FlexP.congr {l : List Md} (hg : goodT l) {a : Nat} (h : FlexP l a) : ∀ {b}, a < l.length → b < l.length → RR l a = RR l b → FlexP l b := by
  induction h with
  | @flex a x h1 h2 h3 =>
    intro b ha hb he
    have hf := RR_first ha hb he
    have hx : mdAt l a = x := by rw [mdAt_eq ha]; rw [List.getElem?_eq_getElem ha] at h1; exact Option.some.inj h1
    rw [hx] at hf
    have hk := firstC_kind hf
    have hfl : x.flex = (mdAt l b).flex := by
      have hz : ∀ {x y : Int} {xs : List Int}, firstNZ (x :: xs) = 0 → x = 0 ∧ firstNZ xs = 0 := fun {x y xs} h => by
        rw [firstNZ_cons] at h
        split at h
        · omega
        · rename_i h0; exact ⟨by omega, h⟩
      unfold firstC firstL at hf
      have e1 := (hz (y := 0) hf).2
      have e2 := (hz (y := 0) e1).2
      have e3 := (hz (y := 0) e2).2
      have e4 := (hz (y := 0) e3).1
      have := cmpI_zero.1 e4
      cases hx1 : x.flex <;> cases hx2 : (mdAt l b).flex <;> simp [bi, hx1, hx2] at this ⊢
    refine .flex (x := mdAt l b) (by rw [mdAt_eq hb]; exact List.getElem?_eq_getElem hb) ?_ ?_
    · unfold rowStruct at h2 ⊢; rw [← hk]; exact h2
    · rw [← hfl]; exact h3
  | @step a c h1 _ ih =>
    intro b ha hb he
    obtain ⟨x, g1, g2, g3⟩ := h1
    have hx : mdAt l a = x := by rw [mdAt_eq ha]; rw [List.getElem?_eq_getElem ha] at g1; exact Option.some.inj g1
    have hf := RR_first ha hb he
    rw [hx] at hf
    have hk := firstC_kind hf
    have hua : isU (mdAt l a) = false := by
      rw [hx]
      unfold rowStruct at g2
      simp only [Bool.or_eq_true, beq_iff_eq] at g2
      simp [isU]
      omega
    obtain ⟨hl, hel⟩ := RR_elem hg ha hb he hua
    rw [hx] at hl hel
    obtain ⟨k, hk1, hk2⟩ := List.mem_iff_getElem.1 g3
    have hkb : k < (mdAt l b).elems.length := by omega
    have hcl : c < l.length := by have := hg x (List.mem_of_getElem? g1) _ g3; omega
    have hmem : (mdAt l b).elems[k] ∈ (mdAt l b).elems := List.getElem_mem hkb
    have hbm := hg (mdAt l b) (by rw [mdAt_eq hb]; exact List.getElem_mem hb) _ hmem
    have h5 := hel k _ _ (List.getElem?_eq_getElem hk1) (List.getElem?_eq_getElem hkb)
    rw [hk2, Int.toNat_natCast] at h5
    obtain ⟨d, hd⟩ : ∃ d : Nat, (mdAt l b).elems[k] = d := ⟨(mdAt l b).elems[k].toNat, by omega⟩
    rw [hd] at h5 hmem hbm
    rw [Int.toNat_natCast] at h5
    refine .step (k := d) ⟨mdAt l b, by rw [mdAt_eq hb]; exact List.getElem?_eq_getElem hb, ?_, hmem⟩ (ih hcl (by omega) h5)
    unfold rowStruct at g2 ⊢; rw [← hk]; exact g2
theorem asc_same {r : Nat → Nat} {xs ys : List Nat} (h1 : xs.Pairwise (fun a b => r a < r b)) (h2 : ys.Pairwise (fun a b => r a < r b)) (h3 : ∀ x ∈ xs, ∃ y ∈ ys, r x = r y) (h4 : ∀ y ∈ ys, ∃ x ∈ xs, r x = r y) : xs.map r = ys.map r := by
  have e : (xs.map fun x => (r x : Int)) = ys.map fun x => (r x : Int) := by
    refine pw_ext (List.Pairwise.map _ (fun a b h => by simpa using h) h1) (List.Pairwise.map _ (fun a b h => by simpa using h) h2) fun v => ?_
    rw [List.mem_map, List.mem_map]
    constructor
    · rintro ⟨x, hx, rfl⟩
      obtain ⟨y, hy, he⟩ := h3 x hx
      exact ⟨y, hy, by rw [he]⟩
    · rintro ⟨y, hy, rfl⟩
      obtain ⟨x, hx, he⟩ := h4 y hy
      exact ⟨x, hx, by rw [he]⟩
  have := congrArg (List.map Int.toNat) e
  rw [List.map_map, List.map_map] at this
  exact this
open Classical in
theorem sameB_of {l : List Md} {xs ys : List Nat} (h : xs.map (RR l) = ys.map (RR l)) : sameB l xs ys = true := by
  unfold sameB
  rw [decide_eq_true_iff]
  refine ⟨by have := congrArg List.length h; simpa using this, fun k y z h1 h2 => ?_⟩
  have := congrArg (·[k]?) h
  simpa [List.getElem?_map, h1, h2] using this
theorem bases_asc {l : List Md} (hg : goodT l) {x : Nat} (hx : x < l.length) : (basesOf l x).Pairwise (fun a b => RR l a < RR l b) := by
  cases hu : isU (mdAt l x)
  · rw [(basesEx hg hx).el hu]; simp
  · obtain ⟨O, _, h2⟩ := (basesEx hg hx).un hu
    exact h2.asc
theorem union_nflex {l : List Md} {u : Nat} (hu : u < l.length) (h : isU (mdAt l u) = true) : ¬ FlexP l u := fun hf => by
  have hr : rowStruct (mdAt l u) = true := by
    cases hf with
    | flex h1 h2 _ => rw [List.getElem?_eq_getElem hu] at h1; rw [mdAt_eq hu]; cases h1; exact h2
    | step h1 _ => obtain ⟨x, g1, g2, _⟩ := h1; rw [List.getElem?_eq_getElem hu] at g1; rw [mdAt_eq hu]; cases g1; exact g2
  simp [isU] at h
  simp [rowStruct, h] at hr
theorem joins_back {l : List Md} (hc : checkI l = 0) (hn : l.length < 512) {u : Nat} (hu : u < l.length) (huu : isU (mdAt l u) = true) {ns : List Nat} (h0 : ns ≠ []) (hns : ∀ x ∈ ns, x < l.length ∧ ¬ FlexP l x)
    (h1 : ∀ x ∈ ns, ∀ j, IsBase l x j → ∃ j', IsPart l u j' ∧ RR l j = RR l j') (h2 : ∀ j', IsPart l u j' → ∃ x ∈ ns, ∃ j, IsBase l x j ∧ RR l j = RR l j') (hb2 : 2 ≤ (basesOf l u).length) (h64 : (basesOf l u).length ≤ 64) :
    joinsI l (ns.map fun z : Nat => (z : Int)) = (l, leastI l u, 0) ∧ (allI l ns).length = (basesOf l u).length := by
  have ok := okT_of hc
  have hnl : ∀ x ∈ ns, x < l.length := fun x hx => (hns x hx).1
  have hall := allI_sorted l ns
  have hbase : ∀ {x j}, x < l.length → IsBase l x j → ∃ w ∈ basesOf l x, RR l w = RR l j := fun hx hj => basesOf_cov ok.good hx hj
  have hm : (basesOf l u).map (RR l) = (allI l ns).map (RR l) := by
    refine asc_same (bases_asc ok.good hu) hall.asc (fun x hx => ?_) fun y hy => ?_
    · have hx' := basesOf_sub ok.good hu hx
      unfold IsBase at hx'
      rw [if_pos huu] at hx'
      obtain ⟨w, hw, j, hj, he⟩ := h2 x hx'
      obtain ⟨z, hz, he2⟩ := hbase (hnl w hw) hj
      obtain ⟨y, hy, he3, _⟩ := hall.cov z (List.mem_flatMap.2 ⟨w, hw, hz⟩)
      exact ⟨y, hy, by omega⟩
    · obtain ⟨w, hw, hj⟩ := allI_sub ok.good hnl hy
      obtain ⟨j', hj', he⟩ := h1 w hw y hj
      obtain ⟨z, hz, he2⟩ := basesOf_cov ok.good hu (j := j') (by unfold IsBase; rw [if_pos huu]; exact hj')
      exact ⟨z, hz, by omega⟩
  have hlen : (allI l ns).length = (basesOf l u).length := by have := congrArg List.length hm; simpa using this.symm
  refine ⟨?_, hlen⟩
  have hr : rightI l (ns.map fun z : Nat => (z : Int)) = 0 := by
    unfold rightI
    rw [if_neg (by simp [hc]), if_neg]
    simp only [List.any_eq_true, not_exists, not_and]
    intro x hx
    obtain ⟨z, hz, rfl⟩ := List.mem_map.1 hx
    have := hnl z hz
    simp [outB]; omega
  unfold joinsI
  rw [if_neg (by simp [hr]), if_neg (by rw [List.length_map]; have := List.length_pos_iff.2 h0; omega), if_neg]
  · have : (List.map Int.toNat (ns.map fun z : Nat => (z : Int))) = ns := by
      rw [List.map_map]
      have : (Int.toNat ∘ fun z : Nat => (z : Int)) = id := rfl
      rw [this, List.map_id]
    rw [this]
    unfold ofI
    rw [if_neg (by omega)]
    exact putI_union hc hn (fun z hz => by
      obtain ⟨x, h3, h4⟩ := allI_sub ok.good hnl hz
      have h5 := h4.lt ok.good (hnl x h3)
      exact ⟨h5, base_nu h5 h4, base_nf hc (hns x h3).2 h4⟩) (by omega) (by omega) hu huu (sameB_of hm)
  · simp only [List.any_eq_true, not_exists, not_and]
    intro x hx
    obtain ⟨z, hz, rfl⟩ := List.mem_map.1 hx
    simpa using (hns z hz).2
theorem least_spec {l : List Md} {u : Nat} (hu : u < l.length) : ∃ j : Nat, leastI l u = j ∧ j < l.length ∧ RR l j = RR l u := by
  rcases fidx_first (p := fun i => RR l i == RR l u) l.length 0 with ⟨_, h3⟩ | ⟨j, _, hj, h3, h4, _⟩
  · have := h3 u (by omega) (by omega)
    simp at this
  · exact ⟨j, h3, by omega, by simpa using h4⟩
theorem RR_grow {l : List Md} {x : Md} (hg : goodT l) {a b : Nat} (ha : a < l.length) (hb : b < l.length) (h : RR l a = RR l b) : RR (l ++ [x]) a = RR (l ++ [x]) b := by
  have hl : (l ++ [x]).length = l.length + 1 := by simp
  have hel : ∀ {a k : Nat} {e : Int}, a < l.length → (mdAt l a).elems[k]? = some e → e.toNat < l.length := fun {a k e} ha h => by
    have := hg (mdAt l a) (by rw [mdAt_eq ha]; exact List.getElem_mem ha) e (List.mem_of_getElem? h)
    omega
  refine Bisim.RR (E := fun a b => a < l.length ∧ b < l.length ∧ RR l a = RR l b) ⟨fun a b h => ⟨by omega, by omega⟩, fun a b h => ?_, fun a b j h hu hj => ?_, fun a b j h hu hj => ?_, fun a b h hu => ?_, fun a b k e e' h hu h1 h2 => ?_⟩ ⟨ha, hb, h⟩
  · rw [mdAt_app h.1, mdAt_app h.2.1]; exact RR_first h.1 h.2.1 h.2.2
  · rw [mdAt_app h.1] at hu
    have hj' := (part_old hg h.1).1 hj
    obtain ⟨j', h1, h2⟩ := RR_part hg h.1 h.2.1 h.2.2 hu hj'
    exact ⟨j', (part_old hg h.2.1).2 h1, hj'.lt hg, h1.lt hg, h2⟩
  · rw [mdAt_app h.2.1] at hu
    have hj' := (part_old hg h.2.1).1 hj
    obtain ⟨j', h1, h2⟩ := RR_part hg h.2.1 h.1 h.2.2.symm hu hj'
    exact ⟨j', (part_old hg h.1).2 h1, h1.lt hg, hj'.lt hg, h2.symm⟩
  · rw [mdAt_app h.1] at hu
    rw [mdAt_app h.1, mdAt_app h.2.1]
    exact (RR_elem hg h.1 h.2.1 h.2.2 hu).1
  · rw [mdAt_app h.1] at hu h1
    rw [mdAt_app h.2.1] at h2
    exact ⟨hel h.1 h1, hel h.2.1 h2, (RR_elem hg h.1 h.2.1 h.2.2 hu).2 k e e' h1 h2⟩
structure Left (l : List Md) (u part : Nat) (k : List Md) (q : Nat) : Prop where
  ck : checkI k = 0
  len : k.length ≤ l.length + 1
  ge : l.length ≤ k.length
  ql : q < k.length
  rr : ∀ a b, a < l.length → b < l.length → (RR k a = RR k b ↔ RR l a = RR l b)
  md : ∀ a, a < l.length → mdAt k a = mdAt l a
  parts : ∀ a j, a < l.length → (IsPart k a j ↔ IsPart l a j)
  nf : ¬ FlexP k q
  nfp : ∀ a, a < l.length → FlexP k a → FlexP l a
  up : ∀ j, IsBase k q j → ∃ z ∈ leftI l u part, RR k j = RR k z
  dn : ∀ z ∈ leftI l u part, ∃ j, IsBase k q j ∧ RR k j = RR k z
theorem classes_le {r : Nat → Nat} {xs ys : List Nat} (h : xs.Pairwise (fun a b => r a < r b)) (hs : ∀ x ∈ xs, ∃ y ∈ ys, r y = r x) : xs.length ≤ ys.length := by
  have := sub_le (xs := xs.map r) (ys := ys.map r) (List.Pairwise.map _ (fun a b h => by omega) h) fun v hv => by
    obtain ⟨x, hx, rfl⟩ := List.mem_map.1 hv
    obtain ⟨y, hy, he⟩ := hs x hx
    exact List.mem_map.2 ⟨y, hy, he⟩
  simpa using this
theorem base_un {l : List Md} {x j : Nat} (hu : isU (mdAt l x) = true) : IsBase l x j ↔ IsPart l x j := by unfold IsBase; rw [if_pos hu]
theorem base_el {l : List Md} {x j : Nat} (hu : isU (mdAt l x) = false) : IsBase l x j ↔ j = x := by unfold IsBase; rw [if_neg (by rw [hu]; simp)]
open Classical in
theorem left_mem {l : List Md} {u v z : Nat} : z ∈ leftI l u v ↔ z ∈ basesOf l u ∧ ¬ hasRR l v z := by
  unfold leftI
  rw [List.mem_filter]
  simp
theorem left_of {l : List Md} (hc : checkI l = 0) (hn : l.length < 64) {u part : Nat} (hu : u < l.length) (huu : isU (mdAt l u) = true) (h0 : leftI l u part ≠ []) : ∃ (k : List Md) (q : Nat), ofI l (leftI l u part) = (k, (q : Int), 0) ∧ Left l u part k q := by
  have ok := okT_of hc
  have hz : ∀ z ∈ leftI l u part, z < l.length ∧ isU (mdAt l z) = false ∧ ¬ FlexP l z := fun z hz => by
    have h1 := basesOf_sub ok.good hu (left_mem.1 hz).1
    have h2 := h1.lt ok.good hu
    exact ⟨h2, base_nu h2 h1, part_nflex hc ((base_un huu).1 h1)⟩
  have hasc : (leftI l u part).Pairwise (fun a b => RR l a < RR l b) := by
    unfold leftI
    exact (bases_asc ok.good hu).filter _
  have hll : (leftI l u part).length ≤ l.length := by
    have := sub_le (ys := List.range l.length) (hasc.imp fun h => by intro e; subst e; omega) (fun z h => List.mem_range.2 (hz z h).1)
    simpa using this
  generalize hL : leftI l u part = zs at *
  by_cases h1 : zs.length = 1
  · obtain ⟨z, rfl⟩ : ∃ z, zs = [z] := by
      match zs, h1 with
      | [z], _ => exact ⟨z, rfl⟩
    obtain ⟨hz1, hz2, hz3⟩ := hz z (by simp)
    obtain ⟨j, hj1, hj2, hj3⟩ := least_spec hz1
    obtain ⟨a1, a2⟩ := putI_copy hc (by omega) hz1
    have hju : isU (mdAt l j) = false := by rw [RR_isU hj2 hz1 hj3]; exact hz2
    refine ⟨l, j, ?_, ⟨hc, by omega, Nat.le_refl _, hj2, fun _ _ _ _ => Iff.rfl, fun _ _ => rfl, fun _ _ _ => Iff.rfl, fun hf => hz3 (hf.congr ok.good hj2 hz1 hj3), fun _ _ h => h, fun x hx => ?_, fun x hx => ?_⟩⟩
    · unfold ofI
      rw [if_pos h1]
      show ((putI l (mdAt l z)).1, leastI l z, (putI l (mdAt l z)).2.2) = _
      rw [a1, a2, hj1]
    · rw [base_el hju] at hx
      subst hx
      exact ⟨z, by rw [hL]; simp, hj3⟩
    · rw [hL, List.mem_singleton] at hx
      subst hx
      exact ⟨j, (base_el hju).2 rfl, hj3⟩
  · have h2 : 2 ≤ zs.length := by have := List.length_pos_iff.2 h0; omega
    have hcc := check_union hc (by omega) (fun z h => ⟨(hz z h).1, (hz z h).2.2⟩) h2 (by omega)
    have hg' := (okT_of hcc).good
    have hzn : ∀ z ∈ zs, z < l.length ∧ isU (mdAt l z) = false := fun z h => ⟨(hz z h).1, (hz z h).2.1⟩
    have hin : ∀ e ∈ (unionOf zs).elems, outB l.length e = false := fun e he => by
      obtain ⟨z, hz1, rfl⟩ := List.mem_map.1 he
      have := (hz z hz1).1
      simp [outB]; omega
    have hO : ofI l zs = putI l (unionOf zs) := by unfold ofI; rw [if_neg h1]
    have hl : (l ++ [unionOf zs]).length = l.length + 1 := by simp
    have hun : isU (mdAt (l ++ [unionOf zs]) l.length) = true := by rw [mdAt_last]; rfl
    rw [hO]
    rcases fidx_first (p := fun i => RR (l ++ [unionOf zs]) i == RR (l ++ [unionOf zs]) l.length) (l.length + 1) 0 with ⟨_, h3⟩ | ⟨j, _, hj, _, h4, h5⟩
    · have := h3 l.length (by omega) (by omega)
      simp at this
    · have h4 : RR (l ++ [unionOf zs]) j = RR (l ++ [unionOf zs]) l.length := by simpa using h4
      by_cases hjl : j < l.length
      · have hf := findI_some hin hcc hjl h4 (fun i hi => by simpa using h5 i (by omega) hi)
        have hju' : isU (mdAt (l ++ [unionOf zs]) j) = true := by rw [RR_isU (by omega) (by omega) h4]; exact hun
        have hju : isU (mdAt l j) = true := by rwa [mdAt_app hjl] at hju'
        refine ⟨l, j, ?_, ⟨hc, by omega, Nat.le_refl _, hjl, fun _ _ _ _ => Iff.rfl, fun _ _ => rfl, fun _ _ _ => Iff.rfl, union_nflex hjl hju, fun _ _ h => h, fun x hx => ?_, fun z hzz => ?_⟩⟩
        · unfold putI
          rw [if_neg (by simp [hc]), hf]
        · have hx' := (base_un hju).1 hx
          obtain ⟨y, g1, g2⟩ := RR_part hg' (by omega) (by omega) h4 hju' ((part_old ok.good hjl).2 hx')
          have g3 := (part_new hzn).1 g1
          exact ⟨y, by rw [hL]; exact g3, RR_app ok.good hg' (hx'.lt ok.good) (hzn y g3).1 g2⟩
        · rw [hL] at hzz
          obtain ⟨y, g1, g2⟩ := RR_part hg' (by omega) (by omega) h4.symm hun ((part_new hzn).2 hzz)
          have g3 := (part_old ok.good hjl).1 g1
          exact ⟨y, (base_un hju).2 g3, RR_app ok.good hg' (g3.lt ok.good) (hzn z hzz).1 g2.symm⟩
      · have hf := findI_last hin hcc (fun i hi => by simpa using h5 i (by omega) (by omega))
        refine ⟨l ++ [unionOf zs], l.length, ?_, ⟨hcc, by omega, by omega, by omega, fun a b ha hb => ⟨RR_app ok.good hg' ha hb, RR_grow ok.good ha hb⟩, fun a ha => mdAt_app ha, fun a j ha => part_old ok.good ha, union_nflex (by omega) hun, fun a ha h => flex_app ok.good ha h, fun x hx => ?_, fun z hzz => ?_⟩⟩
        · unfold putI
          rw [if_neg (by simp [hc]), hf]
          simp [hcc]
        · exact ⟨x, by rw [hL]; exact (part_new hzn).1 ((base_un hun).1 hx), rfl⟩
        · rw [hL] at hzz
          exact ⟨z, (base_un hun).2 ((part_new hzn).2 hzz), rfl⟩
section
variable {l : List Md} {u part : Nat}
theorem has_part (hc : checkI l = 0) (hu : u < l.length) (hp : part < l.length) (h : hasB l u part = true) : isU (mdAt l u) = true ∧ isU (mdAt l part) = false ∧ ¬ FlexP l part ∧ ∃ j, IsPart l u j ∧ RR l j = RR l part := by
  have ok := okT_of hc
  unfold hasB at h
  rw [Bool.and_eq_true, decide_eq_true_iff, atI_basesOf ok.good hu] at h
  obtain ⟨huu, j, hj, he⟩ := h
  have hj := (base_un huu).1 hj
  have hjl := hj.lt ok.good
  have hjn := hj.2 _ (List.getElem?_eq_getElem hjl)
  refine ⟨huu, ?_, fun hf => part_nflex hc hj (hf.congr ok.good hp hjl he.symm), j, hj, he⟩
  rw [← RR_isU hjl hp he, mdAt_eq hjl]
  exact hjn
theorem join_part (hc : checkI l = 0) (hn : l.length < 64) (hu : u < l.length) (hp : part < l.length) (h : hasB l u part = true) (h2 : 2 ≤ (basesOf l u).length) :
    joinsI l [(u : Int), (part : Int)] = (l, leastI l u, 0) ∧ (allI l [u, part]).length = (basesOf l u).length := by
  have ok := okT_of hc
  obtain ⟨huu, hpu, hpf, j, hj, he⟩ := has_part hc hu hp h
  refine joins_back hc (by omega) hu huu (ns := [u, part]) (by simp) (fun x hx => ?_) (fun x hx y hy => ?_) (fun y hy => ⟨u, by simp, y, (base_un huu).2 hy, rfl⟩) h2 (by have := (basesEx ok.good hu).length ok.good hu; omega)
  · simp at hx
    rcases hx with rfl | rfl
    · exact ⟨hu, union_nflex hu huu⟩
    · exact ⟨hp, hpf⟩
  · simp at hx
    rcases hx with rfl | rfl
    · exact ⟨y, (base_un huu).1 hy, rfl⟩
    · rw [base_el hpu] at hy
      subst hy
      exact ⟨j, hj, he.symm⟩
theorem left_ne (hc : checkI l = 0) (hu : u < l.length) (hp : part < l.length) (h : hasB l u part = true) {z : Nat} (hz : z < l.length) : hasRR l part z ↔ RR l z = RR l part := by
  obtain ⟨_, hpu, _, _⟩ := has_part hc hu hp h
  constructor
  · rintro ⟨j, h1, h2⟩
    rw [base_el hpu] at h1
    subst h1
    exact h2.symm
  · intro h
    exact ⟨part, (base_el hpu).2 rfl, h.symm⟩
theorem left_law (hc : checkI l = 0) (hn : l.length < 60) (hu : u < l.length) (hp : part < l.length) (h : hasB l u part = true) (h2 : 2 ≤ (basesOf l u).length) {k : List Md} {q : Nat} (hL : Left l u part k q) :
    hasB k q part = false ∧ RR k q ≠ RR k part ∧ joinsI k [(q : Int), (part : Int)] = (k, leastI k u, 0) ∧ (allI k [q, part]).length = (basesOf l u).length := by
  have ok := okT_of hc
  have okk := okT_of hL.ck
  obtain ⟨huu, hpu, hpf, j0, hj0, he0⟩ := has_part hc hu hp h
  have hkl := hL.len
  have hkg := hL.ge
  have hneq : ∀ y, IsBase k q y → RR k y ≠ RR k part := fun y hy e => by
    obtain ⟨z, g1, g2⟩ := hL.up y hy
    obtain ⟨g3, g4⟩ := left_mem.1 g1
    have hzl := (basesOf_sub ok.good hu g3).lt ok.good hu
    rw [left_ne hc hu hp h hzl] at g4
    exact g4 ((hL.rr z part hzl hp).1 (by omega))
  have hpk : isU (mdAt k part) = false := by rw [hL.md _ hp]; exact hpu
  have huk : isU (mdAt k u) = true := by rw [hL.md _ hu]; exact huu
  have huk' : u < k.length := by omega
  have hlen : (basesOf k u).length = (basesOf l u).length := by
    refine Nat.le_antisymm (classes_le (bases_asc okk.good huk') fun x hx => ?_) (classes_le (bases_asc ok.good hu) fun x hx => ?_)
    · have h3 := (hL.parts u x hu).1 ((base_un huk).1 (basesOf_sub okk.good huk' hx))
      obtain ⟨w, hw, he⟩ := basesOf_cov ok.good hu ((base_un huu).2 h3)
      have hwl := (basesOf_sub ok.good hu hw).lt ok.good hu
      exact ⟨w, hw, (hL.rr w x hwl (h3.lt ok.good)).2 he⟩
    · have h3 := (base_un huu).1 (basesOf_sub ok.good hu hx)
      obtain ⟨w, hw, he⟩ := basesOf_cov okk.good huk' ((base_un huk).2 ((hL.parts u x hu).2 h3))
      have hwl := ((hL.parts u w hu).1 ((base_un huk).1 (basesOf_sub okk.good huk' hw))).lt ok.good
      exact ⟨w, hw, (hL.rr w x hwl (h3.lt ok.good)).1 he⟩
  have hble := (basesEx ok.good hu).length ok.good hu
  refine ⟨?_, fun e => ?_, ?_⟩
  · rw [Bool.eq_false_iff]
    intro hb
    unfold hasB at hb
    rw [Bool.and_eq_true, decide_eq_true_iff, atI_basesOf okk.good hL.ql] at hb
    obtain ⟨_, j, hj, he⟩ := hb
    exact hneq j hj he
  · have hqu : isU (mdAt k q) = false := by rw [RR_isU hL.ql (by omega) e]; exact hpk
    exact hneq q ((base_el hqu).2 rfl) e
  · rw [← hlen]
    refine joins_back hL.ck (by omega) huk' huk (ns := [q, part]) (by simp) (fun x hx => ?_) (fun x hx y hy => ?_) (fun y hy => ?_) (by omega) (by omega)
    · simp at hx
      rcases hx with rfl | rfl
      · exact ⟨hL.ql, hL.nf⟩
      · exact ⟨by omega, fun hf => hpf (hL.nfp _ hp hf)⟩
    · simp at hx
      rcases hx with rfl | rfl
      · obtain ⟨z, g1, g2⟩ := hL.up y hy
        have g3 := basesOf_sub ok.good hu (left_mem.1 g1).1
        exact ⟨z, (hL.parts u z hu).2 ((base_un huu).1 g3), g2⟩
      · rw [base_el hpk] at hy
        subst hy
        exact ⟨j0, (hL.parts u j0 hu).2 hj0, (hL.rr _ _ hp (hj0.lt ok.good)).2 he0.symm⟩
    · have hy' := (hL.parts u y hu).1 hy
      obtain ⟨z, hz, he⟩ := basesOf_cov ok.good hu ((base_un huu).2 hy')
      have hzl := (basesOf_sub ok.good hu hz).lt ok.good hu
      have hyl := hy'.lt ok.good
      by_cases hzp : RR l z = RR l part
      · exact ⟨part, by simp, part, (base_el hpk).2 rfl, (hL.rr _ _ hp hyl).2 (by omega)⟩
      · obtain ⟨j, g1, g2⟩ := hL.dn z (left_mem.2 ⟨hz, by rw [left_ne hc hu hp h hzl]; exact hzp⟩)
        exact ⟨q, by simp, j, g1, by rw [g2]; exact (hL.rr _ _ hzl hyl).2 he⟩
end
end Go.Proofs.YtheadodblifklaaGreat

namespace Go.Proofs.YtheadodblifklaaGreat
open Go Ax
set_option maxRecDepth 100000
theorem k19 (s : AVal) (l : List Md) (a b : Nat) (m : AMem) (hs : RTab m s l) (hsz : ∀ x ∈ l, smallN x) (hn : T13 l) (hc : checkI l = 0) (ha : a < l.length) (hb : b < l.length) :
    ACalls Tryz.prog 19 [s, .int .i64 a, .int .i64 b] m fun v m' => v = .tuple [.bool (decide (RR l a = RR l b)), .int .i64 0] ∧ m <+: m' := by
  refine w19 ?_
  have h60 := hn.len
  have ok := okT_of hc
  simp [fillA, setN]
  have hA := two_ints m a b
  have hm1 : m <+: m ++ [.own [.int .i64 (a : Int), .int .i64 (b : Int)] 3 none] := List.prefix_append _ _
  generalize AVal.slice m.length 0 2 2 none = t1 at *
  generalize m ++ [.own [.int .i64 (a : Int), .int .i64 (b : Int)] 3 none] = m1 at *
  refine C_of (k51 s t1 l [(a : Int), (b : Int)] m1 (hs.mono hm1) hA.ints hsz (by omega) (by simp)) ?_
  rintro _ m2 ⟨rfl, hm2⟩
  rw [rightI_two hc ha hb]
  simp
  refine C_of (k52 s l m2 (hs.mono (hm1.trans hm2)) ok.good hn.t60 hsz ok.h64) ?_
  rintro v3 m3 ⟨hm3, ds, kd, hX, hD⟩
  have hXi := ints_of_nat hX
  obtain ⟨ba, oa, hpa, hla⟩ := ranksAt hXi (x := a) (by rw [hD.len]; exact ha)
  obtain ⟨bb, ob, hpb, hlb⟩ := ranksAt hXi (x := b) (by rw [hD.len]; exact hb)
  have hla := hla m3 (List.prefix_refl _)
  have hlb := hlb m3 (List.prefix_refl _)
  have heq := hD.sameOrd.eq ha hb
  generalize ds.getD a 0 = x at *
  generalize ds.getD b 0 = y at *
  have hxy : ((x : Int) == (y : Int)) = decide (RR l a = RR l b) := by
    rw [Bool.eq_iff_iff, decide_eq_true_iff, ← heq]
    simp
    omega
  simp
  refine W_drawPR (by simp [maxDst]) rfl rfl ?_
  simp [hpa, hla, hpb, hlb, hxy]
  intro m4 hm4
  exact ((hm1.trans hm2).trans hm3).trans hm4
end Go.Proofs.YtheadodblifklaaGreat

namespace Go.Proofs.YtheadodblifklaaGreat
open Go Ax Go.ChangeShapes Go.WideShapes Go.ChangeAt Go.RowKit
set_option maxRecDepth 100000
set_option maxHeartbeats 2000000 in
theorem k27 (s : AVal) (l : List Md) (x : Nat) (m : AMem) (hs : RTab m s l) (hsz : ∀ x ∈ l, smallN x) (hn : T13 l) (hc : checkI l = 0) (hx : x < l.length) (hu : isU (mdAt l x) = true) :
    ACalls Tryz.prog 27 [s, .int .i64 x] m fun v m' => m <+: m' ∧ ∃ t, v = .tuple [t, .int .i64 0] ∧ OwL natI m.length m' 3 t (basesOf l x) := by
  have ok := okT_of hc
  have h60 := hn.len
  refine w27 ?_
  simp [fillA, setN]
  have hA := OwL.new (f := AVal.int .i64) m 3 [(x : Int)]
  have hm1 : m <+: m ++ [.own [.int .i64 x] 3 none] := List.prefix_append _ _
  simp at hA
  generalize AVal.slice m.length 0 1 1 none = t1 at *
  generalize m ++ [.own [.int .i64 (x : Int)] 3 none] = m1 at *
  refine C_of (k51 s t1 l [(x : Int)] m1 (hs.mono hm1) hA.ints hsz (by omega) (by simp)) ?_
  rintro _ m2 ⟨rfl, hm2⟩
  have hr : rightI l [(x : Int)] = 0 := by
    unfold rightI
    rw [if_neg (by simp [hc]), if_neg]
    simp [outB]
    omega
  have hm02 := hm1.trans hm2
  obtain ⟨bx', ox, ex, gx1, gx2, _⟩ := hs.elems hx
  have gk := (gx2 m2 hm02).1
  have hk : l[x].kind = 12 := by rw [mdAt_eq hx] at hu; simpa [isU] using hu
  simp [hr, gx1, gk, hk]
  refine C_of (k52 s l m2 (hs.mono hm02) ok.good hn.t60 hsz ok.h64) ?_
  rintro ro m3 ⟨hm3, ds, k, hX, hD⟩
  have hm03 := hm02.trans hm3
  simp
  refine C_of (k61 s ro l ds x hx (by rw [← mdAt_eq hx]; exact hu) m3 (hs.mono hm03) (ints_of_nat hX) hD.len ok.good hn hsz) ?_
  rintro v m4 ⟨hm4, O, zs, ⟨_, hOm⟩, hZ, hsb⟩
  obtain rfl := once_eq ok.good (dense_same hD) hx hu (fun j => by rw [hOm, base_un hu]) hsb
  simp
  exact ⟨hm03.trans hm4, hZ.lo' (by have := hm03.length_le; omega)⟩
theorem putI_mem {l : List Md} {x y : Md} (h : y ∈ (putI l x).1) : y ∈ l ∨ y = x := by
  unfold putI at h
  split at h
  · cases h
  · split at h
    · exact .inl h
    · split at h
      · cases h
      · rcases List.mem_append.1 h with h | h
        · exact .inl h
        · exact .inr (by simpa using h)
theorem ofI_40 {l : List Md} {zs : List Nat} (h40 : ∀ y ∈ l, y.elems.length < 2 ^ 40 ∧ y.names.length < 2 ^ 40) (hz : ∀ z ∈ zs, z < l.length) (hn : zs.length < 2 ^ 30) : ∀ y ∈ (ofI l zs).1, y.elems.length < 2 ^ 40 ∧ y.names.length < 2 ^ 40 := fun y hy => by
  unfold ofI at hy
  split at hy
  · rename_i h1
    rcases putI_mem hy with h | rfl
    · exact h40 y h
    · have hz0 : zs.getD 0 0 < l.length := by
        have : zs.getD 0 0 = zs[0] := by simp [List.getD, h1]
        rw [this]; exact hz _ (List.getElem_mem _)
      rw [mdAt_eq hz0]
      exact h40 _ (List.getElem_mem hz0)
  · rcases putI_mem hy with h | rfl
    · exact h40 y h
    · exact ⟨by simp [unionOf]; omega, by simp [unionOf]⟩
set_option maxHeartbeats 8000000 in
theorem k7 : LawTII 7 := by
  intro m s l u v hs _ hb
  refine w7 ?_
  simp
  refine C_of (k10 m) ?_
  rintro _ m1 ⟨rfl, hm1⟩
  simp
  refine C_of (k11 s l 12 m1 (hs.mono hm1) (by omega)) ?_
  rintro _ m2 ⟨rfl, hm2⟩
  have hm02 := hm1.trans hm2
  cases hsm : (decide ((l.length : Int) ≤ 12) && l.all fun x => decide (x.elems.length ≤ 6) && decide (x.names.length ≤ 6))
  · simp
  have hf := fits_of hb hsm
  have hn12 := hf.n12
  have hn := T13.of hf.n
  simp [fillA, setN]
  have hA := two_ints m2 u v
  have hm3 : m2 <+: m2 ++ [.own [.int .i64 u, .int .i64 v] 3 none] := List.prefix_append _ _
  generalize AVal.slice m2.length 0 2 2 none = t1 at *
  generalize m2 ++ [.own [.int .i64 u, .int .i64 v] 3 none] = m3 at *
  have hm03 := hm02.trans hm3
  refine C_of (k18 s t1 l [u, v] m3 (hs.mono hm03) hA.ints hf.sm (by omega) (by simp)) ?_
  rintro _ m4 ⟨rfl, hm4⟩
  have hm04 := hm03.trans hm4
  clear hm1 hm2 hm3 hA hm02
  by_cases hr : rightI l [u, v] = 0
  rotate_left
  · simp [hr]
  obtain ⟨hc, a, b, rfl, rfl, ha, hb'⟩ := right2 hr
  have ok := okT_of hc
  have hg := ok.good
  simp [hr]
  refine C_of (k12 s l a b m4 (hs.mono hm04) hf.sm (fun x hx => (hf.h40 x hx).2) hn) ?_
  rintro _ m5 ⟨rfl, hm5⟩
  have hm05 := hm04.trans hm5
  have hV : ∀ (k : List Md) (x y : Nat), rightI k [(x : Int), (y : Int)] = 0 → hasV k x y = .tuple [.bool (hasB k x y), .int .i64 0] := fun k x y h => by
    unfold hasV
    rw [h]
    simp
  rw [hV l a b hr]
  cases hB : hasB l a b
  · simp
  obtain ⟨huu, hpu, hpf, j0, hj0, he0⟩ := has_part hc ha hb' hB
  simp
  refine C_of (k27 s l a m5 (hs.mono hm05) hf.sm hn hc ha huu) ?_
  rintro _ m6 ⟨hm6, t6, rfl, hP⟩
  have hm06 := hm05.trans hm6
  have hPl := hP.len
  simp [hPl]
  refine bbind_intro (fun h2 => ?_) fun h2 => ?_
  · simp
  have h2 : 2 ≤ (basesOf l a).length := by simp at h2; omega
  simp [fillA, setN]
  have hbl := hn.bases hg ha
  obtain ⟨hj1, hj2⟩ := join_part hc (by omega) ha hb' hB h2
  have hA := two_ints m6 a b
  have hm7 : m6 <+: m6 ++ [.own [.int .i64 (a : Int), .int .i64 (b : Int)] 3 none] := List.prefix_append _ _
  generalize AVal.slice m6.length 0 2 2 none = t7 at *
  generalize m6 ++ [.own [.int .i64 (a : Int), .int .i64 (b : Int)] 3 none] = m7 at *
  have hm07 := hm06.trans hm7
  have hallb : ∀ (k : List Md) (x y : Nat), (allI k [x, y]).length ≤ 12 → checkI k = 0 → ∀ ns : List Nat, [(x : Int), (y : Int)] = ns.map (fun z : Nat => (z : Int)) → (∀ z ∈ ns, z < k.length) → (allI k ns).length ≤ 12 := fun k x y h _ ns e _ => by
    match ns, e with
    | [p, q], e =>
      simp at e
      obtain ⟨e1, e2⟩ := e
      have e1 : x = p := by omega
      have e2 : y = q := by omega
      subst e1 e2
      exact h
  refine C_of (k28 s t7 l [(a : Int), (b : Int)] m7 (hs.mono hm07) hA.ints hf.sm hf.h40 hn (by omega) (hallb l a b (by omega)) (by simp)) ?_
  rintro _ m8 ⟨hm8, t8, rfl, hT8⟩
  have hm08 := hm07.trans hm8
  rw [hj1] at hT8 ⊢
  obtain ⟨j, hlj, hjl, hje⟩ := least_spec ha
  rw [hlj]
  simp
  refine C_of (k19 t8 l a j m8 hT8 hf.sm hn hc ha hjl) ?_
  rintro _ m9 ⟨rfl, hm9⟩
  have hm09 := hm08.trans hm9
  simp [hje]
  refine C_of (k24 s l a b m9 (hs.mono hm09) hf.sm hf.h40 hn (by omega)) ?_
  rintro _ m10 ⟨hm10, t10, rfl, hT10⟩
  have hW : withoutI l a b = if (leftI l a b).length = 0 then ([], 0, 12) else ofI l (leftI l a b) := by
    unfold withoutI
    rw [if_neg (by simp [hr]), if_neg (by simp [huu])]
    simp only [Int.toNat_natCast]
  by_cases h0 : (leftI l a b).length = 0
  · rw [if_pos h0] at hW
    rw [hW]
    simp
  rw [if_neg h0] at hW
  obtain ⟨k, q, hO, hL⟩ := left_of hc (by omega) ha huu (part := b) (fun e => h0 (by rw [e]; rfl))
  obtain ⟨hl1, hl2, hl3, hl4⟩ := left_law hc (by omega) ha hb' hB h2 hL
  have hsm10 := (without_small (by omega) hf.sm (a : Int) (b : Int)).1
  rw [hW, hO] at hT10 hsm10 ⊢
  have hk14 := hL.len
  have hkg := hL.ge
  have hnk : T13 k := T13.of (by omega)
  have hk40 : ∀ y ∈ k, y.elems.length < 2 ^ 40 ∧ y.names.length < 2 ^ 40 := by
    have := ofI_40 (l := l) (zs := leftI l a b) hf.h40 (fun z hz => (basesOf_sub hg ha (left_mem.1 hz).1).lt hg ha) (by
      have h1 : (leftI l a b).length ≤ (basesOf l a).length := by unfold leftI; exact List.length_filter_le _ _
      omega)
    rw [hO] at this
    exact this
  have hrk : rightI k [(q : Int), (b : Int)] = 0 := by
    unfold rightI
    rw [if_neg (by simp [hL.ck]), if_neg]
    have := hL.ql
    simp [outB]
    omega
  simp
  refine C_of (k12 t10 k q b m10 hT10 hsm10 (fun x hx => (hk40 x hx).2) hnk) ?_
  rintro _ m11 ⟨rfl, hm11⟩
  rw [hV k q b hrk, hl1]
  simp
  refine C_of (k19 t10 k q b m11 (hT10.mono hm11) hsm10 hnk hL.ck hL.ql (by omega)) ?_
  rintro _ m12 ⟨rfl, hm12⟩
  have hmT := hm11.trans hm12
  simp [hl2, fillA, setN]
  have hA := two_ints m12 q b
  have hm13 : m12 <+: m12 ++ [.own [.int .i64 (q : Int), .int .i64 (b : Int)] 3 none] := List.prefix_append _ _
  generalize AVal.slice m12.length 0 2 2 none = t13 at *
  generalize m12 ++ [.own [.int .i64 (q : Int), .int .i64 (b : Int)] 3 none] = m13 at *
  refine C_of (k28 t10 t13 k [(q : Int), (b : Int)] m13 (hT10.mono (hmT.trans hm13)) hA.ints hsm10 hk40 hnk (by omega) (hallb k q b (by omega)) (by simp)) ?_
  rintro _ m14 ⟨hm14, t14, rfl, hT14⟩
  rw [hl3] at hT14 ⊢
  obtain ⟨j', hlj', hjl', hje'⟩ := least_spec (l := k) (u := a) (by omega)
  rw [hlj']
  have hw0 : IntKind.i64.wrap (0 : Int) = 0 := by decide
  simp [hw0]
  refine C_of (k19 t14 k j' a m14 hT14 hsm10 hnk hL.ck hjl' (by omega)) ?_
  rintro _ m15 ⟨rfl, hm15⟩
  simp [hje']
noncomputable def fn7 : Func := (Tryz.checked.prog.funcs[7]?).get (by kernel_rfl)
theorem func7 : Tryz.checked.prog.funcs[7]? = some fn7 := by kernel_rfl
theorem unionsTaken_holds : Rows.UnionsTakenSaid :=
  OpenClaim.holds_of_wide 7 fn7 rfl rfl rfl rfl rfl rfl rfl ⟨rfl, rfl, rfl, rfl, rfl⟩ rfl rfl rfl rfl rfl (by kernel_rfl) func7 (by kernel_rfl)
    (of_decide_eq_true (by kernel_rfl)) (by unfold Func.isWrapper; rw [if_neg (of_decide_eq_false (by kernel_rfl))]; exact ⟨rfl, rfl⟩)
    (fun os started H enc _ => lifted3 (s := Rows.unionsTakenSpec) (conds := Rows.unionsTakenRow.domain) started (by kernel_rfl) func7 (by kernel_rfl) (by kernel_rfl) rfl (fun _ _ _ => rfl)
      (ChangeSpec.witness6 (enc := enc) (C := Tryz.checked) false ⟨#[], #[.slice none 0 0, .int .i64 0, .int .i64 0], []⟩ 8 (by kernel_rfl) (by kernel_rfl) (by kernel_rfl) (by kernel_rfl)) k7)
end Go.Proofs.YtheadodblifklaaGreat

