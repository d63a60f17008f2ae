/- environlaw11.UnionsJoins returns true for every table of modes and any list of numbers, and leaves its arguments as they were.  Conditions: none beyond those stated. -/
import Derived.Test.YtheadodblifklaaGreatJ4
import Derived.ProofKit
import Derived.SizedLaws
import Derived.SliceStrings
import Derived.Deep.Slices
import Derived.DataElems
namespace Go.Proofs.YtheadodblifklaaGreat
open Go Ax
set_option maxRecDepth 100000
theorem SortedBy.isKey {l : List Md} {r : Nat → Nat} {a : Nat} {O zs : List Nat} (hu : isU (mdAt l a) = true) (hO : ∀ j, j ∈ O ↔ IsPart l a j) (h : SortedBy r O zs) : IsKey l r a (zs.map fun z => (r z : Int)) := by
  refine ⟨fun _ => ⟨?_, fun v => ?_⟩, fun h' => by rw [hu] at h'; cases h'⟩
  · rw [List.pairwise_map]
    exact h.asc.imp fun hab => by omega
  · rw [List.mem_map]
    constructor
    · rintro ⟨z, hz, rfl⟩
      exact ⟨z, (hO z).1 (h.sub z hz), rfl⟩
    · rintro ⟨j, hj, rfl⟩
      obtain ⟨z, hz, h1, _⟩ := h.cov j ((hO j).2 hj)
      exact ⟨z, hz, by rw [h1]⟩
theorem lexC_len {xs ys : List Int} (h : xs = [] ∨ ys = []) : lexC cmpI xs ys = cmpI xs.length ys.length := by
  rcases h with rfl | rfl
  · cases ys with
    | nil => rfl
    | cons y ys => simp only [lexC, cmpI, List.length_cons, List.length_nil]; rw [if_pos (by omega)]
  · cases xs with
    | nil => rfl
    | cons x xs => simp only [lexC, cmpI, List.length_cons, List.length_nil]; rw [if_neg (by omega), if_pos (by omega)]
set_option maxHeartbeats 4000000 in
theorem k73 (s rs : AVal) (l : List Md) (rk : List Nat) (a b : Nat) (m : AMem) (hs : RTab m s l) (hr : RInts m rs (rk.map fun z : Nat => (z : Int))) (hrl : rk.length = l.length) (hrn : ∀ x, x < l.length → rk.getD x 0 < l.length) (hg : goodT l) (hn : l.length ≤ 512) (h64 : ∀ x ∈ l, x.elems.length ≤ 64) (ha : a < l.length) (hb : b < l.length) (huu : isU (mdAt l a) = isU (mdAt l b)) :
    ACalls Tryz.prog 73 [s, rs, .int .i64 a, .int .i64 b] m fun v m' => v = .int .i64 (lexC cmpI (keyOf l (fun x => rk.getD x 0) a) (keyOf l (fun x => rk.getD x 0) b)) ∧ m <+: m' := by
  obtain ⟨r, hre⟩ : ∃ r : Nat → Nat, r = fun a => rk.getD a 0 := ⟨_, rfl⟩
  have hrx : ∀ x, rk.getD x 0 = r x := fun x => by rw [hre]
  simp only [hrx] at hrn
  rw [← hre]
  have hkey : ∀ X Y, IsKey l r a X → IsKey l r b Y → lexC cmpI (keyOf l r a) (keyOf l r b) = lexC cmpI X Y := fun X Y hX hY => IsKey.cmp hg (SameOrd.refl _ r) ha hb (keyOf_isKey hg hrn a) hX (keyOf_isKey hg hrn b) hY
  generalize lexC cmpI (keyOf l r a) (keyOf l r b) = L at *
  refine w73 ?_
  obtain ⟨ba, oa, ea, h1, h2, hea⟩ := hs.elems ha
  obtain ⟨bb, ob, eb, h3, h4, heb⟩ := hs.elems hb
  have hmda := mdAt_eq ha
  have hmdb := mdAt_eq hb
  have hga := hg _ (List.getElem_mem ha)
  have hgb := hg _ (List.getElem_mem hb)
  have h64a := h64 _ (List.getElem_mem ha)
  have h64b := h64 _ (List.getElem_mem hb)
  simp
  refine W_drawPR (by simp [maxDst]) rfl rfl ?_
  simp [h1, (h2 m (List.prefix_refl _)).2, h3, (h4 m (List.prefix_refl _)).2]
  intro m1 hm1
  simp [h1, (h2 m1 hm1).1]
  refine bbind_J (fun a' m' => ∃ (tx ty : AVal) (X Y : List Nat), a'.forget [1, 9, 10] = mat 74 [(1, rs), (9, tx), (10, ty)] ∧ m <+: m' ∧ RInts m' tx (X.map fun z : Nat => (z : Int)) ∧ RInts m' ty (Y.map fun z : Nat => (z : Int)) ∧ (∀ z ∈ X, z < l.length) ∧ (∀ z ∈ Y, z < l.length) ∧ X.length < 2 ^ 61 ∧ Y.length < 2 ^ 61 ∧ IsKey l r a (X.map fun z => (r z : Int)) ∧ IsKey l r b (Y.map fun z => (r z : Int))) ?_ ?_
  · by_cases hu : isU l[a] = true
    · have hk : l[a].kind = 12 := by simpa [isU] using hu
      have hua : isU (mdAt l a) = true := by rw [hmda]; exact hu
      have hub : isU (mdAt l b) = true := by rw [← huu]; exact hua
      have hub' : isU l[b] = true := by rw [← hmdb]; exact hub
      simp [hk]
      refine C_of (k115 s l a ha hu m1 (hs.mono hm1) hg hn h64) ?_
      rintro v2 m2 ⟨hm2, O, hO, hOn, hOm⟩
      have hOl := nodup_le l.length O hOn fun x hx => ((hOm x).1 hx).lt hg
      simp
      refine C_of (k114 v2 rs O rk m2 (ints_of_nat hO) (hr.mono (hm1.trans hm2)) (fun x hx => by rw [hrl]; exact ((hOm x).1 hx).lt hg) (by omega)) ?_
      rintro v3 m3 ⟨hm3, zs, hzs, hsb⟩
      rw [← hre] at hsb
      simp
      have hm13 := (hm1.trans hm2).trans hm3
      refine C_of (k115 s l b hb hub' m3 (hs.mono hm13) hg hn h64) ?_
      rintro v4 m4 ⟨hm4, O', hO', hOn', hOm'⟩
      have hOl' := nodup_le l.length O' hOn' fun x hx => ((hOm' x).1 hx).lt hg
      simp
      refine C_of (k114 v4 rs O' rk m4 (ints_of_nat hO') (hr.mono (hm13.trans hm4)) (fun x hx => by rw [hrl]; exact ((hOm' x).1 hx).lt hg) (by omega)) ?_
      rintro v5 m5 ⟨hm5, zs', hzs', hsb'⟩
      rw [← hre] at hsb'
      simp
      have hzl : zs.length ≤ l.length := nodup_le l.length zs (hsb.asc.imp fun hab => by intro e; subst e; omega) fun z hz => ((hOm z).1 (hsb.sub z hz)).lt hg
      have hzl' : zs'.length ≤ l.length := nodup_le l.length zs' (hsb'.asc.imp fun hab => by intro e; subst e; omega) fun z hz => ((hOm' z).1 (hsb'.sub z hz)).lt hg
      exact ⟨v3, v5, rfl, (hm13.trans hm4).trans hm5, zs, (ints_of_nat hzs).mono (hm4.trans hm5), zs', ints_of_nat hzs', fun z hz => ((hOm z).1 (hsb.sub z hz)).lt hg, fun z hz => ((hOm' z).1 (hsb'.sub z hz)).lt hg, by omega, by omega, hsb.isKey hua hOm, hsb'.isKey hub hOm'⟩
    · have hu' : isU l[a] = false := by simpa using hu
      have hk : ¬ l[a].kind = 12 := by simpa [isU] using hu'
      have hua : isU (mdAt l a) = false := by rw [hmda]; exact hu'
      have hub : isU (mdAt l b) = false := by rw [← huu]; exact hua
      simp [beqF hk]
      have conv : ∀ xs : List Int, (∀ e ∈ xs, 0 ≤ e ∧ e < (l.length : Int)) → ((xs.map Int.toNat).map fun z : Nat => (z : Int)) = xs := fun xs hx => by
        rw [List.map_map]
        conv => rhs; rw [← List.map_id xs]
        refine List.map_congr_left fun e he => ?_
        have := hx e he
        simp only [Function.comp, id]
        omega
      refine ⟨ea, eb, rfl, hm1, l[a].elems.map Int.toNat, by rw [conv _ hga]; exact hea.mono hm1, l[b].elems.map Int.toNat, by rw [conv _ hgb]; exact heb.mono hm1, fun z hz => ?_, fun z hz => ?_, by simp; omega, by simp; omega, ⟨fun h => (by rw [hua] at h; cases h), fun _ => by rw [hmda, List.map_map]; rfl⟩, ⟨fun h => (by rw [hub] at h; cases h), fun _ => by rw [hmdb, List.map_map]; rfl⟩⟩
      · obtain ⟨e, he, rfl⟩ := List.mem_map.1 hz
        have := hga e he; omega
      · obtain ⟨e, he, rfl⟩ := List.mem_map.1 hz
        have := hgb e he; omega
  rintro a' m2 ⟨tx, ty, X, Y, hfr, hm2, hX, hY, hXl, hYl, hX61, hY61, hKX, hKY⟩
  have hL := hkey _ _ hKX hKY
  simp [hfr]
  clear h1 h2 h3 h4 hm1
  obtain ⟨I, hI⟩ : ∃ I : Nat → AFrame → AMem → Prop, ∀ n a m', I n a m' ↔ (∃ (k : Nat), k + n = X.length ∧ k ≤ Y.length ∧ a = h73_0 rs tx ty (.int .i64 k) ∧ m2 <+: m' ∧ L = lexC cmpI ((X.drop k).map fun z => (r z : Int)) ((Y.drop k).map fun z => (r z : Int))) := ⟨_, fun _ _ _ => Iff.rfl⟩
  refine W_loop I X.length ((hI _ _ _).2 ⟨0, by simp, by omega, rfl, List.prefix_refl _, hL⟩) ?_
  rintro n a m3 hIn
  obtain ⟨k, hk, hkY, rfl, hm3, hLk⟩ := (hI _ _ _).1 hIn
  clear hIn
  have hxl := (hX.mono hm3).len
  have hyl := (hY.mono hm3).len
  simp at hxl hyl
  by_cases hkx : k < X.length
  · by_cases hky : k < Y.length
    · have hw := step64 hkx (by omega)
      obtain ⟨n, rfl⟩ : ∃ n', n = n' + 1 := ⟨n - 1, by omega⟩
      obtain ⟨b1, o1, h1, h2⟩ := (hX.mono hm3).at (i := k) (by simpa using hkx)
      obtain ⟨b2, o2, h3, h4⟩ := (hY.mono hm3).at (i := k) (by simpa using hky)
      simp at h2 h4
      rw [List.drop_eq_getElem_cons hkx, List.drop_eq_getElem_cons hky, List.map_cons, List.map_cons] at hLk
      simp only [lexC] at hLk
      have hXk := hXl _ (List.getElem_mem hkx)
      have hYk := hYl _ (List.getElem_mem hky)
      generalize X[k] = x at *
      generalize Y[k] = y at *
      obtain ⟨b3, o3, h5, h6⟩ := (hr.mono (hm2.trans hm3)).at (i := x) (by simp; omega)
      obtain ⟨b4, o4, h7, h8⟩ := (hr.mono (hm2.trans hm3)).at (i := y) (by simp; omega)
      have h6' : loadE m3 1 false (.ptr b3 o3) = some (.int .i64 (r x : Nat)) := by rw [h6, ← hrx]; simp [List.getD, show x < rk.length by omega]
      have h8' : loadE m3 1 false (.ptr b4 o4) = some (.int .i64 (r y : Nat)) := by rw [h8, ← hrx]; simp [List.getD, show y < rk.length by omega]
      simp [hxl, hyl, hkx, hky]
      refine W_draw (fun _ _ _ => True) (by simp [maxDst]) ?_
      refine D_pc 0 14 [14, 15] ?_
      simp [h1, h2, h5, h6', h3, h4, h7, h8']
      intro fs' _
      refine D_X rfl rfl fun m4 hm4 _ => ?_
      simp
      refine C_of (k71 _ _ m4) ?_
      rintro _ _ ⟨rfl, rfl⟩
      refine ⟨by simp [lateOf], ?_⟩
      refine D_pc 15 1 [] ?_
      simp
      intro fs2 _
      refine D_end fun m5 hm5 _ => ?_
      have hm35 := hm4.trans hm5
      by_cases hc : cmpI (r x) (r y) = 0
      · simp [hc] at hLk
        simp [hc, hw]
        exact ⟨n, by omega, (hI _ _ _).2 ⟨k + 1, by omega, by omega, by simp, hm3.trans hm35, by simpa using hLk⟩⟩
      · simp [hc] at hLk
        simp [bneT hc, hLk]
        exact (hm2.trans hm3).trans hm35
    · have hkY' : k = Y.length := by omega
      rw [hkY', List.drop_length, List.map_nil, lexC_len (.inr rfl)] at hLk
      simp [hxl, hyl, hkx, hky]
      refine C_of (k71 _ _ m3) ?_
      rintro _ _ ⟨rfl, rfl⟩
      simp [hm2.trans hm3]
      rw [hLk]
      simp [cmpI]
      have e1 : ¬ X.length < Y.length := by omega
      have e2 : Y.length < X.length := by omega
      simp [e1, e2, show ¬ (((X.length - Y.length : Nat) : Int) < 0) by omega, show ((0 : Int) < ((X.length - Y.length : Nat) : Int)) by omega]
      try omega
  · have hkX' : k = X.length := by omega
    rw [hkX', List.drop_length, List.map_nil, lexC_len (.inl rfl)] at hLk
    simp [hxl, hyl, hkx]
    refine C_of (k71 _ _ m3) ?_
    rintro _ _ ⟨rfl, rfl⟩
    simp [hm2.trans hm3]
    rw [hLk]
    have e1 : ¬ Y.length < X.length := by omega
    by_cases e2 : X.length < Y.length
    · simp [cmpI, e2]; omega
    · simp [cmpI, e1, e2]; omega
end Go.Proofs.YtheadodblifklaaGreat

namespace Go.Proofs.YtheadodblifklaaGreat
open Go Ax
set_option maxRecDepth 100000
theorem firstNZ_at : ∀ {xs : List Int} {k : Nat} {c : Int}, xs[k]? = some c → (∀ j, j < k → xs[j]? = some 0) → c ≠ 0 → firstNZ xs = c
  | [], k, c, h, _, _ => by simp at h
  | x :: xs, 0, c, h, _, hc => by simp at h; subst h; rw [firstNZ_cons, if_pos hc]
  | x :: xs, k + 1, c, h, h0, hc => by
    have h1 := h0 0 (by omega)
    simp at h1
    rw [firstNZ_cons, if_neg (by simp [h1])]
    exact firstNZ_at (k := k) (by simpa using h) (fun j hj => by have := h0 (j + 1) (by omega); simpa using this) hc
def fiveOf (x : Md) : List Int := [x.kind, x.size, x.dims, bi x.flex, x.elems.length]
set_option maxHeartbeats 8000000 in
theorem k72 (cx cy : List AVal) (x y : Md) (m : AMem) (hx : RMode m cx x) (hy : RMode m cy y) (hsx : smallN x) (hsy : smallN y) (hnm : x.kind = y.kind → (¬ x.kind = 12 → x.elems.length = y.elems.length) → x.names.length = y.names.length) : ACalls Tryz.prog 72 [.agg cx, .agg cy] m fun v m' => v = .int .i64 (firstC x y) ∧ m <+: m' := by
  obtain ⟨ex, nx, rfl, hex, hnx⟩ := hx
  obtain ⟨ey, ny, rfl, hey, hny⟩ := hy
  refine w72 ?_
  have h1 := Sl.one hex
  have h2 := Sl.one hnx
  have h3 := Sl.one hey
  have h4 := Sl.one hny
  simp [h1, h2, h3, h4]
  have hb1 := readB_new m [.int .i64 x.kind, .int .i64 x.size, ex, nx, .int .i64 x.dims, .bool x.flex] 49 none
  have hm1 : m <+: m ++ [.own [.int .i64 x.kind, .int .i64 x.size, ex, nx, .int .i64 x.dims, .bool x.flex] 49 none] := List.prefix_append _ _
  have hlen : (m ++ [ABlk.own [.int .i64 x.kind, .int .i64 x.size, ex, nx, .int .i64 x.dims, .bool x.flex] 49 none]).length = m.length + 1 := by simp
  have hb2 := readB_new (m ++ [.own [.int .i64 x.kind, .int .i64 x.size, ex, nx, .int .i64 x.dims, .bool x.flex] 49 none]) [.int .i64 y.kind, .int .i64 y.size, ey, ny, .int .i64 y.dims, .bool y.flex] 49 none
  have hm2 : m ++ [.own [.int .i64 x.kind, .int .i64 x.size, ex, nx, .int .i64 x.dims, .bool x.flex] 49 none] <+: m ++ [.own [.int .i64 x.kind, .int .i64 x.size, ex, nx, .int .i64 x.dims, .bool x.flex] 49 none] ++ [.own [.int .i64 y.kind, .int .i64 y.size, ey, ny, .int .i64 y.dims, .bool y.flex] 49 none] := List.prefix_append _ _
  replace hb1 := readB_mono hm2 hb1
  replace hm1 := hm1.trans hm2
  rw [hlen] at hb2
  simp only [List.append_assoc, List.singleton_append] at hb1 hb2 hm1
  generalize m ++ [.own [.int .i64 x.kind, .int .i64 x.size, ex, nx, .int .i64 x.dims, .bool x.flex] 49 none, .own [.int .i64 y.kind, .int .i64 y.size, ey, ny, .int .i64 y.dims, .bool y.flex] 49 none] = m1 at hb1 hb2 hm1 ⊢
  clear hlen hm2
  replace hex := RInts.mono hex hm1
  replace hey := RInts.mono hey hm1
  replace hnx := RStrs.mono hnx hm1
  replace hny := RStrs.mono hny hm1
  generalize m.length = b1 at *
  generalize b1 + 1 = b2 at *
  refine W_draw (fun i v _ => v = .int .i64 (if x.flex then 1 else 0)) (by simp [maxDst]) ?_
  have : ∀ (j : Nat) (m' : AMem), noFacts j m' := fun _ _ => trivial
  refine D_pre 0 8 [8, 9, 10, 11, 12, 13] (by simp only [List.drop_zero, List.drop_succ_cons, List.take_succ_cons, List.take_zero]; rfl) rfl rfl ‹_› ?_
  simp [bx hb1]
  intro _ _
  refine D_Cv (.int .i64 (if x.flex then 1 else 0)) rfl trivial rfl rfl (fun m' hm' _ => (k113 _ m').mono fun v m'' h => ⟨by rw [h.2]; exact List.prefix_refl _, h.1⟩) ?_
  have := upd_triv 8 ‹∀ (j : Nat) (m' : AMem), _›
  refine D_pre 9 3 [12, 13] (by simp only [List.drop_zero, List.drop_succ_cons, List.take_succ_cons, List.take_zero]; rfl) rfl rfl ‹_› ?_
  simp [bx hb1, hex.len]
  intro _ _
  refine D_A rfl trivial ?_
  simp [fillA, setN]
  intro a1
  refine D_P rfl trivial ?_
  simp
  refine D_end fun m2 hm2 hf => ?_
  have h12 := hf 12
  simp [upd] at h12
  have hA : RInts m2 (.slice a1 0 5 5 none) (fiveOf x) := .inr ⟨a1, 0, 5, none, rfl, ⟨by simp [fiveOf], .inl rfl⟩, .inr ⟨by simp [fiveOf], _, by simp [readB, h12, ABlk.cells]; rfl, by simp [fiveOf, readN, bi]⟩⟩
  clear h12 hf
  replace hb1 := readB_mono hm2 hb1
  replace hb2 := readB_mono hm2 hb2
  replace hm1 := hm1.trans hm2
  replace hex := RInts.mono hex hm2
  replace hey := RInts.mono hey hm2
  replace hnx := RStrs.mono hnx hm2
  replace hny := RStrs.mono hny hm2
  clear hm2
  simp
  refine W_draw (fun i v _ => v = .int .i64 (if y.flex then 1 else 0)) (by simp [maxDst]) ?_
  have : ∀ (j : Nat) (m' : AMem), noFacts j m' := fun _ _ => trivial
  refine D_pre 0 8 [8, 9, 10, 11, 12, 13] (by simp only [List.drop_zero, List.drop_succ_cons, List.take_succ_cons, List.take_zero]; rfl) rfl rfl ‹_› ?_
  simp [bx hb2]
  intro _ _
  refine D_Cv (.int .i64 (if y.flex then 1 else 0)) rfl trivial rfl rfl (fun m' hm' _ => (k113 _ m').mono fun v m'' h => ⟨by rw [h.2]; exact List.prefix_refl _, h.1⟩) ?_
  have := upd_triv 8 ‹∀ (j : Nat) (m' : AMem), _›
  refine D_pre 9 3 [12, 13] (by simp only [List.drop_zero, List.drop_succ_cons, List.take_succ_cons, List.take_zero]; rfl) rfl rfl ‹_› ?_
  simp [bx hb2, hey.len]
  intro _ _
  refine D_A rfl trivial ?_
  simp [fillA, setN]
  intro a2
  refine D_P rfl trivial ?_
  simp
  refine D_end fun m3 hm3 hf => ?_
  have h12 := hf 12
  simp [upd] at h12
  have hB : RInts m3 (.slice a2 0 5 5 none) (fiveOf y) := .inr ⟨a2, 0, 5, none, rfl, ⟨by simp [fiveOf], .inl rfl⟩, .inr ⟨by simp [fiveOf], _, by simp [readB, h12, ABlk.cells]; rfl, by simp [fiveOf, readN, bi]⟩⟩
  clear h12 hf
  replace hA := RInts.mono hA hm3
  replace hb1 := readB_mono hm3 hb1
  replace hb2 := readB_mono hm3 hb2
  replace hm1 := hm1.trans hm3
  replace hnx := RStrs.mono hnx hm3
  replace hny := RStrs.mono hny hm3
  clear hm3 hex hey
  have hAl := hA.len
  have hlA : (fiveOf x).length = 5 := rfl
  have hlB : (fiveOf y).length = 5 := rfl
  rw [hlA] at hAl
  generalize hta : AVal.slice a1 0 5 5 none = ta at *
  generalize htb : AVal.slice a2 0 5 5 none = tb at *
  generalize hF : firstC x y = F
  have hcom : ∀ (k : Nat) a b, k < 4 → (fiveOf x)[k]? = some a → (fiveOf y)[k]? = some b → (firstL x y)[k]? = some (cmpI a b) := fun k a b hk h1 h2 => by
    match k, hk with
    | 0, _ => simp [fiveOf] at h1 h2; subst h1 h2; rfl
    | 1, _ => simp [fiveOf] at h1 h2; subst h1 h2; rfl
    | 2, _ => simp [fiveOf] at h1 h2; subst h1 h2; rfl
    | 3, _ => simp [fiveOf] at h1 h2; subst h1 h2; rfl
  have hcom4 : ∀ a b, ¬ x.kind = 12 → (fiveOf x)[4]? = some a → (fiveOf y)[4]? = some b → (firstL x y)[4]? = some (cmpI a b) := fun a b hk h1 h2 => by
    simp [fiveOf] at h1 h2
    subst h1 h2
    simp [firstL, lenC, hk]
  simp
  refine W_JB (fun a m' => a.forget [2, 3] = mat 100 [(2, .ptr b1 0), (3, .ptr b2 0)] ∧ m3 <+: m' ∧ ∀ j, j < 5 → (firstL x y)[j]? = some 0) ?_ ?_
  · obtain ⟨I, hI⟩ : ∃ I : Nat → AFrame → AMem → Prop, ∀ n a m', I n a m' ↔ (∃ (k : Nat), k + n = 5 ∧ a = h72_0 (.ptr b1 0) (.ptr b2 0) ta tb (.int .i64 k) ∧ m3 <+: m' ∧ ∀ j, j < k → (firstL x y)[j]? = some 0) := ⟨_, fun _ _ _ => Iff.rfl⟩
    refine W_loop I 5 ((hI _ _ _).2 ⟨0, by simp, rfl, List.prefix_refl _, fun _ h => by omega⟩) ?_
    rintro n a m4 hIn
    obtain ⟨k, hk, rfl, hm4, hz⟩ := (hI _ _ _).1 hIn
    clear hIn
    have hb14 := readB_mono hm4 hb1
    simp [hAl]
    refine bbind_dec (fun hk5 => ?_) fun hk5 => ?_
    · have hk5 : k < 5 := by omega
      have hw := step64 hk5 (by omega)
      obtain ⟨n, rfl⟩ : ∃ n', n = n' + 1 := ⟨n - 1, by omega⟩
      obtain ⟨o1, p1, h5, h6⟩ := (hA.mono hm4).at (i := k) (by omega)
      obtain ⟨o2, p2, h7, h8⟩ := (hB.mono hm4).at (i := k) (by omega)
      have hx5 : (fiveOf x)[k]? = some ((fiveOf x)[k]'(by omega)) := List.getElem?_eq_getElem _
      have hy5 : (fiveOf y)[k]? = some ((fiveOf y)[k]'(by omega)) := List.getElem?_eq_getElem _
      generalize (fiveOf x)[k]'(by omega) = xa at *
      generalize (fiveOf y)[k]'(by omega) = ya at *
      by_cases hbr : k = 4 ∧ x.kind = 12
      · obtain ⟨rfl, h12⟩ := hbr
        simp [bx hb14, h12]
        refine ⟨hm4, fun j hj => ?_⟩
        by_cases hj4 : j = 4
        · subst hj4; simp [firstL, lenC, h12]
        · exact hz j (by omega)
      have hval : (firstL x y)[k]? = some (cmpI xa ya) := by
        by_cases hk4 : k = 4
        · subst hk4; exact hcom4 xa ya (fun h => hbr ⟨rfl, h⟩) hx5 hy5
        · exact hcom k xa ya (by omega) hx5 hy5
      have hpass : ∀ j, j < k + 1 → cmpI xa ya = 0 → (firstL x y)[j]? = some 0 := fun j hj hc => by
        by_cases hjk : j = k
        · subst hjk; rw [hval, hc]
        · exact hz j (by omega)
      have hret : cmpI xa ya ≠ 0 → F = cmpI xa ya := fun hc => by
        rw [← hF]; exact firstNZ_at hval hz hc
      by_cases hk4 : k = 4
      · have h12 : ¬ x.kind = 12 := fun h => hbr ⟨hk4, h⟩
        have hk4' : (k : Int) = 4 := by omega
        simp only [hk4'] at h5 h7 hw ⊢
        simp [bx hb14, beqF h12]
        refine W_draw (fun _ _ _ => True) (by simp [maxDst]) ?_
        refine D_pc 0 8 [8, 9] ?_
        simp [h5, h6, h7, h8]
        intro fs' _
        refine D_X rfl rfl fun m5 hm5 _ => ?_
        simp
        refine C_of (k71 _ _ m5) ?_
        rintro _ _ ⟨rfl, rfl⟩
        refine ⟨by simp [lateOf], ?_⟩
        refine D_pc 9 1 [] ?_
        simp
        intro fs2 _
        refine D_end fun m6 hm6 _ => ?_
        by_cases hc : cmpI xa ya = 0
        · simp [hc, hw]
          refine ⟨n, by omega, (hI _ _ _).2 ⟨k + 1, by omega, by simp [hk4', wrap64 (x := 5)], (hm4.trans hm5).trans hm6, fun j hj => hpass j hj hc⟩⟩
        · simp [bneT hc, hret hc]
          exact ((hm1.trans hm4).trans hm5).trans hm6
      · have hk4' : ¬ (k : Int) = 4 := by omega
        simp [beqF hk4']
        refine W_draw (fun _ _ _ => True) (by simp [maxDst]) ?_
        refine D_pc 0 8 [8, 9] ?_
        simp [h5, h6, h7, h8]
        intro fs' _
        refine D_X rfl rfl fun m5 hm5 _ => ?_
        simp
        refine C_of (k71 _ _ m5) ?_
        rintro _ _ ⟨rfl, rfl⟩
        refine ⟨by simp [lateOf], ?_⟩
        refine D_pc 9 1 [] ?_
        simp
        intro fs2 _
        refine D_end fun m6 hm6 _ => ?_
        by_cases hc : cmpI xa ya = 0
        · simp [hc, hw]
          refine ⟨n, by omega, (hI _ _ _).2 ⟨k + 1, by omega, by simp, (hm4.trans hm5).trans hm6, fun j hj => hpass j hj hc⟩⟩
        · simp [bneT hc, hret hc]
          exact ((hm1.trans hm4).trans hm5).trans hm6
    · simp
      exact ⟨hm4, fun j hj => hz j (by omega)⟩
  rintro a m4 ⟨ha, hm4, hz⟩
  clear hA hB hAl hcom hcom4
  have hkind : x.kind = y.kind := by have := hz 0 (by omega); simp [firstL] at this; exact cmpI_zero.1 this
  have hlens : ¬ x.kind = 12 → x.elems.length = y.elems.length := fun h => by
    have := hz 4 (by omega); simp [firstL, lenC, h] at this; have := cmpI_zero.1 this; omega
  have hnl := hnm hkind hlens
  have hFn : F = lexC cmpS x.names y.names := by
    rw [← hF]
    have e0 := hz 0 (by omega); have e1 := hz 1 (by omega); have e2 := hz 2 (by omega); have e3 := hz 3 (by omega); have e4 := hz 4 (by omega)
    simp [firstL] at e0 e1 e2 e3 e4
    unfold firstC firstL
    have h0 : firstNZ [] = 0 := rfl
    simp only [firstNZ_cons, e0, e1, e2, e3, e4, h0]
    by_cases h6 : lexC cmpS x.names y.names = 0 <;> simp [h6]
  simp [ha]
  obtain ⟨I, hI⟩ : ∃ I : Nat → AFrame → AMem → Prop, ∀ n a m', I n a m' ↔ (∃ (k : Nat), k + n = x.names.length ∧ a = h72_1 (.ptr b1 0) (.ptr b2 0) (.int .i64 k) ∧ m4 <+: m' ∧ F = lexC cmpS (x.names.drop k) (y.names.drop k)) := ⟨_, fun _ _ _ => Iff.rfl⟩
  refine W_loop I x.names.length ((hI _ _ _).2 ⟨0, by simp, rfl, List.prefix_refl _, by simpa using hFn⟩) ?_
  rintro n a m5 hIn
  obtain ⟨k, hk, rfl, hm5, hFk⟩ := (hI _ _ _).1 hIn
  clear hIn
  have hm35 := hm4.trans hm5
  have hb15 := readB_mono hm35 hb1
  have hb25 := readB_mono hm35 hb2
  by_cases hkx : k < x.names.length
  · have hky : k < y.names.length := by omega
    have hw := step64 hkx hsx.2.1
    obtain ⟨n, rfl⟩ : ∃ n', n = n' + 1 := ⟨n - 1, by omega⟩
    obtain ⟨o1, p1, h5, h6⟩ := (hnx.mono hm35).at hkx
    obtain ⟨o2, p2, h7, h8⟩ := (hny.mono hm35).at hky
    rw [List.drop_eq_getElem_cons hkx, List.drop_eq_getElem_cons hky] at hFk
    simp only [lexC] at hFk
    generalize x.names[k] = xa at *
    generalize y.names[k] = ya at *
    simp [bx hb15, bx hb25, (hnx.mono hm35).len, (hny.mono hm35).len, hkx, hky]
    refine W_drawPR (by simp [maxDst]) rfl rfl ?_
    simp [bx hb15, bx hb25, h5, h6, h7, h8, binStr]
    intro m6 hm6
    have hb16 := readB_mono hm6 hb15
    have hb26 := readB_mono hm6 hb25
    by_cases he : xa.toList = ya.toList
    · have hc : cmpS xa ya = 0 := by
        have hb : Op.bytesLess ya.toList ya.toList = false := by
          have := (bytes_lex ya.toList ya.toList).1
          have h0 := (bytes_lex ya.toList ya.toList).2.1 rfl
          rw [← Bool.not_eq_true, this, h0]; omega
        simp [cmpS, he, hb]
      simp [hc] at hFk
      simp [he, hw]
      exact ⟨n, by omega, (hI _ _ _).2 ⟨k + 1, by omega, by simp, hm5.trans hm6, hFk⟩⟩
    · have hne : (xa.toList == ya.toList) = false := by simpa using he
      have hbl := bytes_lex xa.toList ya.toList
      have hc : cmpS xa ya ≠ 0 := by
        rw [cmpS_eq]; exact fun h => he (hbl.2.2 h)
      rw [if_pos hc] at hFk
      simp [hne]
      refine W_draw (fun _ _ _ => True) (by simp [maxDst]) ?_
      refine D_pc 0 11 [11, 12, 13, 14] ?_
      simp [bx hb16, bx hb26, h5, h7, loadE_mono hm6 h6, loadE_mono hm6 h8, binStr]
      intro fs' _
      refine D_X rfl rfl fun m7 hm7 _ => ?_
      simp
      refine C_of (k113 _ m7) ?_
      rintro _ _ ⟨rfl, rfl⟩
      refine ⟨by simp [lateOf], ?_⟩
      have hmm : ∀ m8, m6 <+: m8 → m <+: m8 := fun m8 h => (((hm1.trans hm4).trans hm5).trans hm6).trans h
      cases hbb : Op.bytesLess xa.toList ya.toList
      · have hv : cmpS xa ya = 1 := by simp [cmpS, hbb, hne]
        refine D_pc 12 3 [] ?_
        simp [hbb, hne, wrap64 (x := 2), wrap64 (x := 1)]
        intro fs2 _
        refine D_end fun m8 hm8 _ => ?_
        simp [hFk, hv, hmm m8 (hm7.trans hm8)]
      · have hv : cmpS xa ya = -1 := by simp [cmpS, hbb]
        refine D_pc 12 3 [] ?_
        simp [hbb, wrap64 (x := 0), wrap64 (x := -1)]
        intro fs2 _
        refine D_end fun m8 hm8 _ => ?_
        simp [hFk, hv, hmm m8 (hm7.trans hm8)]
  · have hd : F = 0 := by
      rw [hFk, List.drop_eq_nil_of_le (by omega), List.drop_eq_nil_of_le (by omega)]; rfl
    simp [bx hb15, bx hb25, (hnx.mono hm35).len, (hny.mono hm35).len, hkx]
    exact ⟨hd.symm, (hm1.trans hm4).trans hm5⟩
end Go.Proofs.YtheadodblifklaaGreat

namespace Go.Proofs.YtheadodblifklaaGreat
open Go Ax
set_option maxRecDepth 100000
def namesOk (l : List Md) : Prop := ∀ x ∈ l, ∀ y ∈ l, x.kind = y.kind → (¬ x.kind = 12 → x.elems.length = y.elems.length) → x.names.length = y.names.length
noncomputable def Rl (l : List Md) (d : Nat) : List Nat := (List.range l.length).map (R l d)
theorem Rl_get (l : List Md) (d : Nat) {x : Nat} (hx : x < l.length) : (Rl l d)[x]? = some (R l d x) := by simp [Rl, hx]
theorem Rl_getD (l : List Md) (d : Nat) {x : Nat} (hx : x < l.length) : (Rl l d).getD x 0 = R l d x := by simp [List.getD, Rl_get l d hx]
theorem Rl_length (l : List Md) (d : Nat) : (Rl l d).length = l.length := by simp [Rl]
theorem R_zero_cmp {l : List Md} {d a b : Nat} (ha : a < l.length) (hb : b < l.length) (h : R l (d + 1) a = R l (d + 1) b) : cmpR l (R l d) d a b = 0 := by
  have h1 := R_lt l d (a := a) (b := b) ha
  have h2 := R_lt l d (a := b) (b := a) hb
  have h3 := (cmpR_ord l (R l d) d).anti b a trivial trivial
  omega
theorem R_kind {l : List Md} : ∀ (d : Nat) {a b : Nat}, a < l.length → b < l.length → d ≠ 0 → R l d a = R l d b → (mdAt l a).kind = (mdAt l b).kind
  | 0, _, _, _, _, h, _ => absurd rfl h
  | d + 1, a, b, ha, hb, _, h => by
    have h0 := R_zero_cmp ha hb h
    unfold cmpR thenC at h0
    simp only at h0
    by_cases hc : cmpI (R l d a) (R l d b) = 0
    · by_cases hd : d = 0
      · simp only [hc, hd] at h0
        simp at h0
        rw [firstC_eq] at h0
        unfold thenC pullC at h0
        simp only at h0
        by_cases hk : cmpI (mdAt l a).kind (mdAt l b).kind = 0
        · exact cmpI_zero.1 hk
        · rw [if_pos hk] at h0; exact absurd h0 hk
      · exact R_kind d ha hb hd (by have := cmpI_zero.1 hc; omega)
    · rw [if_pos hc] at h0; exact absurd h0 hc
set_option maxHeartbeats 8000000 in
theorem k39 (s : AVal) (l : List Md) (m : AMem) (hs : RTab m s l) (hg : goodT l) (hn : l.length ≤ 512) (hsz : ∀ x ∈ l, smallN x) (h64 : ∀ x ∈ l, x.elems.length ≤ 64) (hnm : namesOk l) :
    ACalls Tryz.prog 39 [s] m fun v m' => m <+: m' ∧ OwL natI m.length m' 3 v (Rl l (l.length + 1)) := by
  refine w39 ?_
  have hc1 : 8 * (l.length : Int) ≤ 281474976710656 := by omega
  have hc2 : (l.length : Int) ≤ 9223372036854775807 := by omega
  have hwn : IntKind.i64.wrap ((l.length : Int) + 1) = l.length + 1 := wrap64 (by omega) (by omega)
  simp [hs.len, hc1, hc2]
  have hX0 : OwL natI m.length (m ++ [.own (List.replicate l.length (.int .i64 0)) 3 none]) 3 (.slice m.length 0 l.length l.length none) (Rl l 0) := by
    have := OwL.rep (f := natI) m 3 l.length 0
    have he : Rl l 0 = List.replicate l.length 0 := by
      refine List.ext_getElem? fun j => ?_
      by_cases hj : j < l.length
      · rw [Rl_get l 0 hj, List.getElem?_replicate, if_pos hj]; rfl
      · rw [List.getElem?_eq_none (by rw [Rl_length]; omega), List.getElem?_eq_none (by simp; omega)]
    rw [he]; exact this
  have hm1 : m <+: m ++ [.own (List.replicate l.length (.int .i64 0)) 3 none] := List.prefix_append _ _
  generalize AVal.slice m.length 0 l.length l.length none = t3 at *
  generalize m ++ [.own (List.replicate l.length (.int .i64 0)) 3 none] = m1 at *
  obtain ⟨J0, hJ0⟩ : ∃ J : AFrame → AMem → Prop, ∀ a m', J a m' ↔ ∃ t, a.forget [3] = mat 93 [(3, t)] ∧ m <+: m' ∧ OwL natI m.length m' 3 t (Rl l (l.length + 1)) := ⟨_, fun _ _ => Iff.rfl⟩
  refine W_JB J0 ?_ (fun a m' h => by
    obtain ⟨t, ha, h1, h2⟩ := (hJ0 _ _).1 h
    simp [ha, h1, h2])
  obtain ⟨I, hI⟩ : ∃ I : Nat → AFrame → AMem → Prop, ∀ q a m', I q a m' ↔ (∃ (d : Nat) (t3 : AVal), d + q = l.length + 1 ∧ a = h39_0 s t3 (.int .i64 (d + 1 : Nat)) ∧ m <+: m' ∧ OwL natI m.length m' 3 t3 (Rl l d)) := ⟨_, fun _ _ _ => Iff.rfl⟩
  refine W_loop I (l.length + 1) ((hI _ _ _).2 ⟨0, t3, by omega, rfl, hm1, hX0⟩) ?_
  clear hX0 hm1
  rintro q a m2 hIn
  obtain ⟨d, t3, hdq, rfl, hm2, hR⟩ := (hI _ _ _).1 hIn
  clear hIn
  simp [hs.len, hwn]
  refine bbind_dec (fun hdl => ?_) fun hdl => ?_
  rotate_left
  · have hd : d = l.length + 1 := by omega
    subst hd
    simp
    exact (hJ0 _ _).2 ⟨t3, by simp, hm2, hR⟩
  have hdl : d ≤ l.length := by omega
  obtain ⟨q, rfl⟩ : ∃ q', q = q' + 1 := ⟨q - 1, by omega⟩
  have hwd : IntKind.i64.wrap ((d : Int) + 1 + 1) = (d : Int) + 1 + 1 := wrap64 (by omega) (by omega)
  have hc1' := hc1
  simp [hs.len, hc1, hc2]
  have hN0 : OwL natI m2.length (m2 ++ [.own (List.replicate l.length (.int .i64 0)) 3 none]) 3 (.slice m2.length 0 l.length l.length none) (List.replicate l.length 0) := OwL.rep (f := natI) m2 3 l.length 0
  have hm3 : m2 <+: m2 ++ [.own (List.replicate l.length (.int .i64 0)) 3 none] := List.prefix_append _ _
  have hap : Ap t3 (.slice m2.length 0 l.length l.length none) := fun b hb hbb => by have := (hR.blk_lo hb).2; simp [AVal.blk] at hbb; omega
  generalize AVal.slice m2.length 0 l.length l.length none = t5 at *
  generalize m2 ++ [.own (List.replicate l.length (.int .i64 0)) 3 none] = m3 at *
  replace hN0 := hN0.lo' hm2.length_le
  replace hR := hR.mono hm3
  replace hm3 := hm2.trans hm3
  -- the comparison
  have hcmp := cmpR_ord l (R l d) d
  obtain ⟨J, hJ⟩ : ∃ I : Nat → AFrame → AMem → Prop, ∀ q a m', I q a m' ↔ (∃ (i : Nat) (N : List Nat) (same : Bool), i + q = l.length ∧ a = h39_1 s t3 (.int .i64 (d + 1 : Nat)) t5 (.bool same) (.int .i64 i) ∧ m <+: m' ∧ OwL natI m.length m' 3 t3 (Rl l d) ∧ OwL natI m.length m' 3 t5 N ∧ N.length = l.length ∧ (∀ (j : Nat), j < i → N[j]? = some (R l (d + 1) j)) ∧ (∀ (j : Nat), i ≤ j → j < l.length → N[j]? = some 0) ∧ (same = true ↔ ∀ j, j < i → R l (d + 1) j = R l d j)) := ⟨_, fun _ _ _ => Iff.rfl⟩
  obtain ⟨J1, hJ1⟩ : ∃ J : AFrame → AMem → Prop, ∀ a m', J a m' ↔ ∃ same : Bool, a.forget [0, 4, 5, 6] = mat 93 [(0, s), (4, .int .i64 (d + 1 : Nat)), (5, t5), (6, .bool same)] ∧ m <+: m' ∧ OwL natI m.length m' 3 t5 (Rl l (d + 1)) ∧ (same = true ↔ ∀ j, j < l.length → R l (d + 1) j = R l d j) := ⟨_, fun _ _ => Iff.rfl⟩
  refine W_JB J1 ?_ ?_
  rotate_left
  · intro a m4 h1
    obtain ⟨same, ha, hm4, hR', hsame⟩ := (hJ1 _ _).1 h1
    clear h1
    simp [ha]
    cases same
    · simp [hwd]
      exact ⟨q, by omega, (hI _ _ _).2 ⟨d + 1, t5, by omega, by simp, hm4, hR'⟩⟩
    · by_cases hd1 : (1 : Int) < (d : Int) + 1
      · simp [hd1]
        have hs1 := hsame.1 rfl
        have hd0 : d ≠ 0 := by omega
        have hst := R_stable hg hd0 (fun a b ha hb => by rw [hs1 a ha, hs1 b hb])
        have : Rl l (l.length + 1) = Rl l (d + 1) := by
          unfold Rl
          refine List.map_congr_left fun j hj => ?_
          have hj := List.mem_range.1 hj
          have h1 := hst (l.length + 1 - d) j hj
          rw [show d + (l.length + 1 - d) = l.length + 1 by omega] at h1
          rw [h1, hs1 j hj]
        rw [← this] at hR'
        exact (hJ0 _ _).2 ⟨t5, by simp, hm4, hR'⟩
      · have hd0 : d = 0 := by omega
        subst hd0
        simp [wrap64 (x := 2)]
        exact ⟨q, by omega, (hI _ _ _).2 ⟨1, t5, by omega, by simp, hm4, hR'⟩⟩
  refine W_loop J l.length ((hJ _ _ _).2 ⟨0, _, true, by simp, by simp, hm3, hR, hN0, by simp, fun j hj => by omega, fun j _ hj => by rw [List.getElem?_replicate, if_pos hj], by simp⟩) ?_
  clear hN0 hm3 hR
  rintro q2 a m3 hIn
  obtain ⟨i, N, same, hiq, rfl, hm3, hR, hN, hNl, hNd, hN0, hsame⟩ := (hJ _ _ _).1 hIn
  clear hIn
  simp [hs.len]
  refine bbind_dec (fun hil => ?_) fun hil => ?_
  rotate_left
  · have hil : i = l.length := by omega
    subst hil
    have hNR : N = Rl l (d + 1) := by
      refine List.ext_getElem? fun j => ?_
      by_cases hj : j < l.length
      · rw [hNd j hj, Rl_get l _ hj]
      · rw [List.getElem?_eq_none (by omega), List.getElem?_eq_none (by rw [Rl_length]; omega)]
    subst hNR
    simp
    exact (hJ1 _ _).2 ⟨same, by simp, hm3, hN, hsame⟩
  have hwi := step64 hil (by omega)
  obtain ⟨q2, rfl⟩ : ∃ q', q2 = q' + 1 := ⟨q2 - 1, by omega⟩
  simp
  obtain ⟨K, hK⟩ : ∃ I : Nat → AFrame → AMem → Prop, ∀ q a m', I q a m' ↔ (∃ (j : Nat) (N : List Nat), j + q = l.length ∧ a = h39_2 s t3 (.int .i64 (d + 1 : Nat)) t5 (.bool same) (.int .i64 i) (.int .i64 j) ∧ m <+: m' ∧ OwL natI m.length m' 3 t3 (Rl l d) ∧ OwL natI m.length m' 3 t5 N ∧ N.length = l.length ∧ (∀ (j : Nat), j < i → N[j]? = some (R l (d + 1) j)) ∧ (∀ (j : Nat), i + 1 ≤ j → j < l.length → N[j]? = some 0) ∧ N[i]? = some ((List.range j).countP fun z => decide (cmpR l (R l d) d z i < 0))) := ⟨_, fun _ _ _ => Iff.rfl⟩
  refine W_loop K l.length ((hK _ _ _).2 ⟨0, N, by simp, by simp, hm3, hR, hN, hNl, hNd, fun j h1 h2 => hN0 j (by omega) h2, by simpa using hN0 i (Nat.le_refl _) hil⟩) ?_
  clear hN hNl hNd hN0 hR hm3
  rintro q3 a m3 hIn
  obtain ⟨j, N, hjq, rfl, hm3, hR, hN, hNl, hNd, hN0, hNi⟩ := (hK _ _ _).1 hIn
  clear hIn
  simp [hs.len]
  refine bbind_dec (fun hjl => ?_) fun hjl => ?_
  · have hwj := step64 hjl (by omega)
    obtain ⟨q3, rfl⟩ : ∃ q', q3 = q' + 1 := ⟨q3 - 1, by omega⟩
    obtain ⟨b1, o1, _, h1, h2, _⟩ := hR.at (i := j) (by rw [Rl_length]; omega)
    obtain ⟨b2, o2, _, h3, h4, _⟩ := hR.at (i := i) (by rw [Rl_length]; omega)
    have e1 : (Rl l d)[j]'(by rw [Rl_length]; omega) = R l d j := by simp [Rl]
    have e2 : (Rl l d)[i]'(by rw [Rl_length]; omega) = R l d i := by simp [Rl]
    rw [e1] at h2
    rw [e2] at h4
    simp only [natI] at h2 h4
    simp
    -- behind the comparison
    obtain ⟨J2, hJ2⟩ : ∃ J : AFrame → AMem → Prop, ∀ a m', J a m' ↔ (a.forget [0, 3, 4, 5, 6, 7, 8, 9] = mat 93 [(0, s), (3, t3), (4, .int .i64 (d + 1 : Nat)), (5, t5), (6, .bool same), (7, .int .i64 i), (8, .int .i64 j), (9, .int .i64 (cmpR l (R l d) d j i))] ∧ m3 <+: m') := ⟨_, fun _ _ => Iff.rfl⟩
    refine W_draw (fun _ _ _ => True) (by simp [maxDst]) ?_
    refine D_pc 0 8 [8, 9] ?_
    simp [h1, h2, h3, h4]
    intro fs' _
    refine D_X rfl rfl fun m4 hm4 _ => ?_
    simp
    refine C_of (k71 _ _ m4) ?_
    rintro _ _ ⟨rfl, rfl⟩
    refine ⟨by simp [lateOf], ?_⟩
    refine D_pc 9 1 [] ?_
    simp
    intro fs2 _
    refine D_end fun m5 hm5 _ => ?_
    have hm35 := hm4.trans hm5
    have hm05 := hm3.trans hm35
    rw [then_normal, W_kill, W_seq]
    refine W_J J2 ?_ ?_
    · have hdone : ∀ a m6, m5 <+: m6 → a.forget [0, 3, 4, 5, 6, 7, 8, 9] = mat 93 [(0, s), (3, t3), (4, .int .i64 (d + 1 : Nat)), (5, t5), (6, .bool same), (7, .int .i64 i), (8, .int .i64 j), (9, .int .i64 (cmpR l (R l d) d j i))] → J2 a m6 := fun a m6 h1 h2 => (hJ2 _ _).2 ⟨h2, hm35.trans h1⟩
      by_cases hc : cmpI (R l d j) (R l d i) = 0
      · by_cases hd0 : d = 0
        · subst hd0
          have hv : cmpR l (R l 0) 0 j i = firstC l[j] l[i] := by
            unfold cmpR thenC
            simp only [hc]
            simp [mdAt_eq hjl, mdAt_eq hil]
          simp [hc]
          obtain ⟨ba, oa, ca, g1, g2, _, _, g3⟩ := hs.atC hjl
          obtain ⟨bb, ob, cb, g4, g5, _, _, g6⟩ := hs.atC hil
          refine W_draw (fun _ _ _ => True) (by simp [maxDst]) ?_
          refine D_pc 0 8 [8, 9] ?_
          simp [g1, loadE_mono hm05 g2, g4, loadE_mono hm05 g5]
          intro fs3 _
          refine D_X rfl rfl fun m6 hm6 _ => ?_
          simp
          refine C_of (k72 ca cb _ _ m6 (g3.mono (hm05.trans hm6)) (g6.mono (hm05.trans hm6)) (hsz _ (List.getElem_mem hjl)) (hsz _ (List.getElem_mem hil)) (hnm _ (List.getElem_mem hjl) _ (List.getElem_mem hil))) ?_
          rintro _ m7 ⟨rfl, hm7⟩
          refine ⟨by simp [lateOf], ?_⟩
          refine D_pc 9 1 [] ?_
          simp
          intro fs4 _
          refine D_end fun m8 hm8 _ => ?_
          exact hdone _ m8 ((hm6.trans hm7).trans hm8) (by simp [hv])
        · have hd1 : ¬ ((d : Int) + 1 = 1) := by omega
          have heq : R l d j = R l d i := by have := cmpI_zero.1 hc; omega
          have huu : isU (mdAt l j) = isU (mdAt l i) := by unfold isU; rw [R_kind d hjl hil hd0 heq]
          have hso : SameOrd l.length (fun x => (Rl l d).getD x 0) (R l d) := fun a b ha hb => by simp only [Rl_getD l d ha, Rl_getD l d hb]
          have hb1 : ∀ a, a < l.length → (Rl l d).getD a 0 < l.length := fun a ha => by rw [Rl_getD l d ha]; exact R_bound l d ha
          have hv : cmpR l (R l d) d j i = lexC cmpI (keyOf l (fun x => (Rl l d).getD x 0) j) (keyOf l (fun x => (Rl l d).getD x 0) i) := by
            rw [IsKey.cmp hg hso hjl hil (keyOf_isKey hg hb1 j) (keyOf_isKey hg (fun _ h => R_bound l d h) j) (keyOf_isKey hg hb1 i) (keyOf_isKey hg (fun _ h => R_bound l d h) i)]
            unfold cmpR thenC
            simp only [hc, if_neg hd0]
            simp
          simp [hc, beqF hd1]
          refine C_of (k73 s t3 l (Rl l d) j i m5 (hs.mono hm05) ((ints_of_nat hR).mono hm35) (Rl_length l d) hb1 hg hn h64 hjl hil huu) ?_
          rintro _ m6 ⟨rfl, hm6⟩
          simp
          exact hdone _ m6 hm6 (by simp [hv])
      · have hv : cmpR l (R l d) d j i = cmpI (R l d j) (R l d i) := by
          unfold cmpR thenC
          simp only
          rw [if_pos hc]
        simp [beqF hc]
        exact hdone _ m5 (List.prefix_refl _) (by simp [hv])
    intro a m6 h0
    obtain ⟨ha, hm36⟩ := (hJ2 _ _).1 h0
    clear h0 hJ2 J2
    replace hR := hR.mono hm36
    replace hN := hN.mono hm36
    replace hm3 := hm3.trans hm36
    have hrange : (List.range (j + 1)).countP (fun z => decide (cmpR l (R l d) d z i < 0)) = (List.range j).countP (fun z => decide (cmpR l (R l d) d z i < 0)) + (if cmpR l (R l d) d j i < 0 then 1 else 0) := by
      rw [List.range_succ, List.countP_append, List.countP_singleton]
      simp
    have hcl : (List.range j).countP (fun z => decide (cmpR l (R l d) d z i < 0)) ≤ j := by
      have := List.countP_le_length (p := fun z => decide (cmpR l (R l d) d z i < 0)) (l := List.range j)
      simpa using this
    generalize (List.range j).countP (fun z => decide (cmpR l (R l d) d z i < 0)) = cnt at *
    generalize cmpR l (R l d) d j i = cv at *
    simp [ha]
    refine bbind_dec (fun hlt => ?_) fun hlt => ?_
    · obtain ⟨b5, o5, hb5, h5, h6, hst5⟩ := hN.at (i := i) (by omega)
      have hNi' : N[i]'(by omega) = cnt := by rw [List.getElem?_eq_getElem (by omega)] at hNi; simpa using hNi
      rw [hNi'] at h6
      obtain ⟨m7, hst, hch, hN7⟩ := hst5 (cnt + 1)
      simp only [natI] at h6 hst
      have hwc : IntKind.i64.wrap ((cnt : Int) + 1) = (cnt : Int) + 1 := wrap64 (by omega) (by omega)
      simp only [Int.natCast_add, Int.cast_ofNat_Int] at hst
      simp [h5, h6, hwc, hst, hwj]
      refine ⟨q3, by omega, (hK _ _ _).2 ⟨j + 1, N.set i (cnt + 1), by omega, by simp, hch.pre hm3 fun b hb => by have := (hN.blk_lo hb5).1; omega, hR.ch hch fun b hb hbb => hap b hb (by rw [hb5, hbb]), hN7, by simpa using hNl, fun z hz => by rw [List.getElem?_set_ne (by omega)]; exact hNd z hz, fun z h1 h2 => by rw [List.getElem?_set_ne (by omega)]; exact hN0 z h1 h2, by rw [List.getElem?_set_self (by omega), hrange, if_pos hlt]⟩⟩
    · simp [hwj]
      exact ⟨q3, by omega, (hK _ _ _).2 ⟨j + 1, N, by omega, by simp, hm3, hR, hN, hNl, hNd, hN0, by rw [hNi, hrange, if_neg hlt]; rfl⟩⟩
  · have hjl : j = l.length := by omega
    subst hjl
    have hNi' : N[i]? = some (R l (d + 1) i) := hNi
    obtain ⟨b5, o5, _, h5, h6, _⟩ := hN.at (i := i) (by omega)
    obtain ⟨b2, o2, _, h3, h4, _⟩ := hR.at (i := i) (by rw [Rl_length]; omega)
    have e1 : N[i]'(by omega) = R l (d + 1) i := by rw [List.getElem?_eq_getElem (by omega)] at hNi'; simpa using hNi'
    have e2 : (Rl l d)[i]'(by rw [Rl_length]; omega) = R l d i := by simp [Rl]
    rw [e1] at h6
    rw [e2] at h4
    simp only [natI] at h6 h4
    have next : ∀ (same' : Bool) m4, m3 <+: m4 → (same' = true ↔ ∀ j, j < i + 1 → R l (d + 1) j = R l d j) → J q2 (h39_1 s t3 (.int .i64 (d + 1 : Nat)) t5 (.bool same') (.int .i64 (i + 1 : Nat))) m4 := fun same' m4 hm4 hs' => (hJ _ _ _).2 ⟨i + 1, N, same', by omega, rfl, hm3.trans hm4, hR.mono hm4, hN.mono hm4, hNl, fun z hz => by
      by_cases hzi : z = i
      · subst hzi; exact hNi'
      · exact hNd z (by omega), fun z h1 h2 => hN0 z h1 h2, hs'⟩
    simp
    refine W_drawPR (by simp [maxDst]) rfl rfl ?_
    cases same
    · simp
      intro m4 hm4
      simp [hwi]
      have := next false m4 hm4 ⟨fun h => (by cases h), fun h => hsame.2 fun z hz => h z (by omega)⟩
      exact ⟨q2, by omega, by simpa using this⟩
    · simp [h5, h6, h3, h4]
      intro m4 hm4
      simp [hwi]
      refine ⟨q2, by omega, ?_⟩
      have hs1 := hsame.1 rfl
      have := next ((R l (d + 1) i : Int) == (R l d i : Int)) m4 hm4 (by
        rw [beq_iff_eq]
        constructor
        · intro h z hz
          by_cases hzi : z = i
          · subst hzi; omega
          · exact hs1 z (by omega)
        · intro h
          rw [h i (by omega)])
      simpa using this
end Go.Proofs.YtheadodblifklaaGreat

namespace Go.Proofs.YtheadodblifklaaGreat
open Go Ax
set_option maxRecDepth 100000
structure OkT (l : List Md) : Prop where
  good : goodT l
  len : l.length ≤ 512
  h64 : ∀ x ∈ l, x.elems.length ≤ 64
  names : namesOk l
  acy : acyc l
theorem okT_of {l : List Md} (h : checkI l = 0) : OkT l := by
  unfold checkI at h
  split at h
  · omega
  · rename_i h1
    split at h
    · rename_i h2; exact absurd h h2
    · rename_i h2
      have h2 : firstI (l.map (oneI · l.length)) = 0 := by simpa using h2
      split at h
      · omega
      · split at h
        · omega
        · rename_i h4
          have hsh : ∀ x ∈ l, shaped x := fun x hx => (shapeI_zero (oneI_zero (one_of h2 hx)).1).2.2.1
          refine ⟨goodT_of h2, by omega, fun x hx => (shapeI_zero (oneI_zero (one_of h2 hx)).1).2.2.2, fun x hx y hy hk hl => ?_, acyc_of h4⟩
          have e1 := (hsh x hx).2.2.1
          have e2 := (hsh y hy).2.2.1
          unfold nNames at e1 e2
          rw [← hk] at e2
          by_cases h11 : x.kind = 11
          · rw [if_pos h11] at e1 e2
            have := hl (by omega)
            omega
          · rw [if_neg h11] at e1 e2
            omega
noncomputable def rightI (l : List Md) (ms : List Int) : Int := if checkI l ≠ 0 then checkI l else if ms.any (outB l.length) then 11 else 0
theorem k147 (s : AVal) (l : List Md) (i : Int) (m : AMem) (hs : RTab m s l) : ACalls Tryz.prog 147 [s, .int .i64 i] m fun v m' => v = .bool (decide (0 ≤ i) && decide (i < l.length)) ∧ m' = m := by
  refine w147 ?_
  by_cases h : 0 ≤ i <;> simp [h, hs.len]
set_option maxHeartbeats 2000000 in
theorem k37 (s t : AVal) (l : List Md) (ms : List Int) (m : AMem) (hs : RTab m s l) (ht : RInts m t ms) (hsz : ∀ x ∈ l, smallN x) (hl : l.length < 2 ^ 62) (hm : ms.length < 2 ^ 62) : ACalls Tryz.prog 37 [s, t] m fun v m' => v = .int .i64 (rightI l ms) ∧ m <+: m' := by
  refine w37 ?_
  simp
  refine C_of (k70 s l m hs hsz hl) ?_
  rintro _ m1 ⟨rfl, hm1⟩
  simp
  generalize hE : rightI l ms = E
  unfold rightI at hE
  refine bbind_intro (fun h => ?_) fun h => ?_
  · have h : checkI l ≠ 0 := by simpa using h
    rw [if_pos h] at hE
    simp [hE, hm1]
  have h : checkI l = 0 := by simpa using h
  rw [if_neg (by simp [h])] at hE
  simp
  obtain ⟨I, hI⟩ : ∃ I : Nat → AFrame → AMem → Prop, ∀ q a m', I q a m' ↔ (∃ (k : Nat), k + q = ms.length ∧ a = h37_0 s t (.int .i64 k) ∧ m1 <+: m' ∧ ∀ j (hj : j < ms.length), j < k → outB l.length ms[j] = false) := ⟨_, fun _ _ _ => Iff.rfl⟩
  refine W_loop I ms.length ((hI _ _ _).2 ⟨0, by simp, rfl, List.prefix_refl _, fun _ _ h => by omega⟩) ?_
  rintro q a m2 hIn
  obtain ⟨k, hk, rfl, hm2, hz⟩ := (hI _ _ _).1 hIn
  clear hIn
  have hm02 := hm1.trans hm2
  simp [(ht.mono hm02).len]
  refine bbind_dec (fun hkl => ?_) fun hkl => ?_
  · have hw := step64 hkl hm
    obtain ⟨q, rfl⟩ : ∃ q', q = q' + 1 := ⟨q - 1, by omega⟩
    obtain ⟨b, o, h1, h2⟩ := (ht.mono hm02).at hkl
    have stop : outB l.length ms[k] = true → E = 11 := fun h => by rw [if_pos (any_true hkl h)] at hE; exact hE.symm
    have next : outB l.length ms[k] = false → I q (h37_0 s t (.int .i64 (k + 1 : Nat))) m2 := fun h => (hI _ _ _).2 ⟨k + 1, by omega, rfl, hm2, fun j hj hjk => by
      by_cases hjk' : j = k
      · subst hjk'; exact h
      · exact hz j hj (by omega)⟩
    by_cases c1 : ms[k] < 0
    · simp [h1, h2, c1]
      exact ⟨(stop (by simp [outB]; omega)).symm, hm02⟩
    · by_cases c2 : (l.length : Int) ≤ ms[k]
      · simp [h1, h2, c1, c2, hs.len]
        exact ⟨(stop (by simp [outB]; omega)).symm, hm02⟩
      · simp [h1, h2, c1, c2, hs.len, hw]
        exact ⟨q, by omega, by simpa using next (by simp [outB]; omega)⟩
  · rw [any_false fun j hj => hz j hj (by omega)] at hE
    simp at hE
    simp [← hE, hm02]
set_option maxHeartbeats 2000000 in
theorem k116 (s t : AVal) (l : List Md) (ms : List Int) (m : AMem) (hs : RTab m s l) (ht : RInts m t ms) (hsz : ∀ x ∈ l, smallN x) (hl : l.length < 2 ^ 62) (hm : ms.length < 2 ^ 62) : ACalls Tryz.prog 116 [s, t] m fun v m' => v = .int .i64 (rightI l ms) ∧ m <+: m' := by
  refine w116 ?_
  simp
  refine C_of (k70 s l m hs hsz hl) ?_
  rintro _ m1 ⟨rfl, hm1⟩
  simp
  generalize hE : rightI l ms = E
  unfold rightI at hE
  refine bbind_intro (fun h => ?_) fun h => ?_
  · have h : checkI l ≠ 0 := by simpa using h
    rw [if_pos h] at hE
    simp [hE, hm1]
  have h : checkI l = 0 := by simpa using h
  rw [if_neg (by simp [h])] at hE
  simp
  obtain ⟨I, hI⟩ : ∃ I : Nat → AFrame → AMem → Prop, ∀ q a m', I q a m' ↔ (∃ (k : Nat), k + q = ms.length ∧ a = h116_0 s t (.int .i64 k) ∧ m1 <+: m' ∧ ∀ j (hj : j < ms.length), j < k → outB l.length ms[j] = false) := ⟨_, fun _ _ _ => Iff.rfl⟩
  refine W_loop I ms.length ((hI _ _ _).2 ⟨0, by simp, rfl, List.prefix_refl _, fun _ _ h => by omega⟩) ?_
  rintro q a m2 hIn
  obtain ⟨k, hk, rfl, hm2, hz⟩ := (hI _ _ _).1 hIn
  clear hIn
  have hm02 := hm1.trans hm2
  simp [(ht.mono hm02).len]
  refine bbind_dec (fun hkl => ?_) fun hkl => ?_
  · have hw := step64 hkl hm
    obtain ⟨q, rfl⟩ : ∃ q', q = q' + 1 := ⟨q - 1, by omega⟩
    obtain ⟨b, o, h1, h2⟩ := (ht.mono hm02).at hkl
    have stop : outB l.length ms[k] = true → E = 11 := fun h => by rw [if_pos (any_true hkl h)] at hE; exact hE.symm
    have next : outB l.length ms[k] = false → I q (h116_0 s t (.int .i64 (k + 1 : Nat))) m2 := fun h => (hI _ _ _).2 ⟨k + 1, by omega, rfl, hm2, fun j hj hjk => by
      by_cases hjk' : j = k
      · subst hjk'; exact h
      · exact hz j hj (by omega)⟩
    simp [h1, h2]
    refine C_of (k147 s l ms[k] m2 (hs.mono hm02)) ?_
    rintro _ _ ⟨rfl, rfl⟩
    have ho : (!(decide (0 ≤ ms[k]) && decide (ms[k] < l.length))) = outB l.length ms[k] := rfl
    cases hob : outB l.length ms[k]
    · rw [hob] at ho
      have ho' : (decide (0 ≤ ms[k]) && decide (ms[k] < l.length)) = true := by simpa using ho
      rw [ho']
      simp [hw]
      exact ⟨q, by omega, by simpa using next hob⟩
    · rw [hob] at ho
      have ho' : (decide (0 ≤ ms[k]) && decide (ms[k] < l.length)) = false := by simp at ho ⊢; omega
      rw [ho']
      simp
      exact ⟨(stop hob).symm, hm02⟩
  · rw [any_false fun j hj => hz j hj (by omega)] at hE
    simp at hE
    simp [← hE, hm02]
def atI (r : Nat → Nat) (zs : List Nat) (x : Nat) : Int := fidx (fun i => (zs[i]?).any fun z => r z == r x) 0 zs.length
theorem k38 (rs t : AVal) (rk zs : List Nat) (x : Nat) (m : AMem) (hr : RInts m rs (rk.map fun z : Nat => (z : Int))) (ht : RInts m t (zs.map fun z : Nat => (z : Int))) (hb : ∀ z ∈ zs, z < rk.length) (hx : x < rk.length) (hn : zs.length < 2 ^ 62) : ACalls Tryz.prog 38 [rs, t, .int .i64 x] m fun v m' => v = .int .i64 (atI (fun a => rk.getD a 0) zs x) ∧ m <+: m' := by
  refine w38 ?_
  simp
  generalize hF : atI (fun a => rk.getD a 0) zs x = F
  unfold atI at hF
  have hrat : ∀ x, x < rk.length → ∃ b o, (∀ k, iaddrE 1 rs (.int k (x : Nat)) = some (.ptr b o)) ∧ ∀ m', m <+: m' → loadE m' 1 false (.ptr b o) = some (.int .i64 (rk.getD x 0 : Nat)) := fun x hx => by
    obtain ⟨b, o, h1, h2⟩ := hr.at (i := x) (by simpa using hx)
    exact ⟨b, o, h1, fun m' hm' => by rw [loadE_mono hm' h2]; simp [List.getD, hx]⟩
  obtain ⟨bx', ox, hpx, hlx⟩ := hrat x hx
  obtain ⟨I, hI⟩ : ∃ I : Nat → AFrame → AMem → Prop, ∀ q a m', I q a m' ↔ (∃ (k : Nat), k + q = zs.length ∧ a = h38_0 rs t (.int .i64 x) (.int .i64 k) ∧ m <+: m' ∧ fidx (fun i => (zs[i]?).any fun z => rk.getD z 0 == rk.getD x 0) k q = F) := ⟨_, fun _ _ _ => Iff.rfl⟩
  refine W_loop I zs.length ((hI _ _ _).2 ⟨0, by simp, rfl, List.prefix_refl _, hF⟩) ?_
  rintro q a m1 hIn
  obtain ⟨k, hk, rfl, hm1, hi⟩ := (hI _ _ _).1 hIn
  clear hIn
  have htl := (ht.mono hm1).len
  simp at htl
  simp [htl]
  refine bbind_dec (fun hkl => ?_) fun hkl => ?_
  · have hw := step64 hkl hn
    obtain ⟨q, rfl⟩ : ∃ q', q = q' + 1 := ⟨q - 1, by omega⟩
    obtain ⟨b, o, h1, h2⟩ := (ht.mono hm1).at (i := k) (by simpa using hkl)
    simp at h2
    have hzb := hb _ (List.getElem_mem hkl)
    simp only [fidx, List.getElem?_eq_getElem hkl, Option.any_some] at hi
    generalize zs[k] = z at *
    obtain ⟨bz, oz, hpz, hlz⟩ := hrat z hzb
    simp
    refine W_drawPR (by simp [maxDst]) rfl rfl ?_
    have hlz1 := hlz m1 hm1
    have hlx1 := hlx m1 hm1
    generalize rk.getD z 0 = rz at *
    generalize rk.getD x 0 = rx at *
    simp [h1, h2, hpz, hlz1, hpx, hlx1]
    intro m2 hm2
    by_cases he : rz = rx
    · simp [he] at hi
      simp [he, hi]
      exact hm1.trans hm2
    · have hne : (rz == rx) = false := by simpa using he
      rw [hne] at hi
      simp at hi
      have hne' : ¬ (rz : Int) = rx := by omega
      simp [beqF hne', hw]
      exact ⟨q, by omega, (hI _ _ _).2 ⟨k + 1, by omega, by simp, hm1.trans hm2, hi⟩⟩
  · obtain rfl : q = 0 := by omega
    simp only [fidx] at hi
    simp [← hi, hm1]
end Go.Proofs.YtheadodblifklaaGreat

namespace Go.Proofs.YtheadodblifklaaGreat
open Go Ax
set_option maxRecDepth 100000
structure BasesOk (l : List Md) (x : Nat) (zs : List Nat) : Prop where
  un : isU (mdAt l x) = true → ∃ O, (∀ j, j ∈ O ↔ IsPart l x j) ∧ SortedBy (RR l) O zs
  el : isU (mdAt l x) = false → zs = [x]
theorem SortedBy.congr {r r' : Nat → Nat} {ms zs : List Nat} {n : Nat} (hn : ∀ x ∈ ms, x < n) (hr : ∀ x, x < n → r x = r' x) (h : SortedBy r ms zs) : SortedBy r' ms zs := by
  have hz : ∀ z ∈ zs, r z = r' z := fun z hz => hr z (hn z (h.sub z hz))
  refine ⟨?_, h.sub, fun y hy => ?_⟩
  · exact List.Pairwise.imp_of_mem (fun {a b} ha hb hab => by rw [← hz a ha, ← hz b hb]; exact hab) h.asc
  · obtain ⟨z, h1, h2, h3⟩ := h.cov y hy
    exact ⟨z, h1, by rw [← hz z h1, h2, hr y (hn y hy)], h3⟩
theorem BasesOk.lt {l : List Md} (hg : goodT l) {x : Nat} (hx : x < l.length) {zs : List Nat} (h : BasesOk l x zs) : ∀ z ∈ zs, z < l.length := by
  intro z hz
  cases hu : isU (mdAt l x)
  · rw [h.el hu, List.mem_singleton] at hz; omega
  · obtain ⟨O, h1, h2⟩ := h.un hu
    exact ((h1 z).1 (h2.sub z hz)).lt hg
theorem BasesOk.length {l : List Md} (hg : goodT l) {x : Nat} (hx : x < l.length) {zs : List Nat} (h : BasesOk l x zs) : zs.length ≤ l.length := by
  refine nodup_le _ _ ?_ (h.lt hg hx)
  cases hu : isU (mdAt l x)
  · rw [h.el hu]; simp
  · obtain ⟨O, h1, h2⟩ := h.un hu
    exact h2.asc.imp fun hab => by intro e; subst e; omega
theorem k74 (s : AVal) (l : List Md) (x : Nat) (m : AMem) (hs : RTab m s l) (hsz : ∀ x ∈ l, smallN x) (hc : checkI l = 0) (hx : x < l.length) (hu : isU (mdAt l x) = true) :
    ACalls Tryz.prog 74 [s, .int .i64 x] m fun v m' => m <+: m' ∧ ∃ t zs, v = .tuple [t, .int .i64 0] ∧ OwL natI m.length m' 3 t zs ∧ BasesOk l x zs := by
  have ok := okT_of hc
  have hu' : isU l[x] = true := by rw [← mdAt_eq hx]; exact hu
  have hk : l[x].kind = 12 := by simpa [isU] using hu'
  refine w74 ?_
  simp [fillA, setN]
  have hA := OwL.new (f := natI) m 3 [x]
  have hm1 : m <+: m ++ [.own [.int .i64 (x : Int)] 3 none] := List.prefix_append _ _
  simp at hA
  generalize AVal.slice m.length 0 1 1 none = t1 at *
  generalize m ++ [.own [.int .i64 (x : Int)] 3 none] = m1 at *
  refine C_of (k116 s t1 l [(x : Int)] m1 (hs.mono hm1) (ints_of_nat hA) hsz (by have := ok.len; omega) (by simp)) ?_
  rintro _ m2 ⟨rfl, hm2⟩
  have hr : rightI l [(x : Int)] = 0 := by simp [rightI, hc, outB, hx]
  rw [hr]
  replace hm2 := hm1.trans hm2
  obtain ⟨b, o, e, h1, h2, _⟩ := hs.elems hx
  simp [h1, (h2 m2 hm2).1, hk]
  refine C_of (k115 s l x hx hu' m2 (hs.mono hm2) ok.good ok.len ok.h64) ?_
  rintro v3 m3 ⟨hm3, O, hO, hOn, hOm⟩
  simp
  refine C_of (k39 s l m3 (hs.mono (hm2.trans hm3)) ok.good ok.len hsz ok.h64 ok.names) ?_
  rintro v4 m4 ⟨hm4, hR⟩
  simp
  have hOl := nodup_le l.length O hOn fun x hx => ((hOm x).1 hx).lt ok.good
  refine C_of (k114 v3 v4 O (Rl l (l.length + 1)) m4 ((ints_of_nat hO).mono hm4) (ints_of_nat hR) (fun x hx => by rw [Rl_length]; exact ((hOm x).1 hx).lt ok.good) (by have := ok.len; omega)) ?_
  rintro v5 m5 ⟨hm5, zs, hzs, hsb⟩
  simp
  have hm05 := ((hm2.trans hm3).trans hm4).trans hm5
  refine ⟨hm05, zs, hzs.lo' ((hm2.trans hm3).trans hm4).length_le, ⟨fun _ => ⟨O, hOm, hsb.congr (n := l.length) (fun x hx => ((hOm x).1 hx).lt ok.good) fun x hx => by rw [Rl_getD l _ hx]; rfl⟩, fun h => by rw [hu] at h; cases h⟩⟩
theorem k40 (s : AVal) (l : List Md) (x : Nat) (m : AMem) (hs : RTab m s l) (hsz : ∀ x ∈ l, smallN x) (hc : checkI l = 0) (hx : x < l.length) :
    ACalls Tryz.prog 40 [s, .int .i64 x] m fun v m' => m <+: m' ∧ ∃ zs, OwL natI m.length m' 3 v zs ∧ BasesOk l x zs := by
  refine w40 ?_
  obtain ⟨b, o, e, h1, h2, _⟩ := hs.elems hx
  cases hu : isU (mdAt l x)
  · have hk : ¬ l[x].kind = 12 := by rw [mdAt_eq hx] at hu; simpa [isU] using hu
    simp [h1, (h2 m (List.prefix_refl _)).1, bneT hk, fillA, setN]
    have hA := OwL.new (f := natI) m 3 [x]
    exact ⟨[x], hA, fun h => (by rw [hu] at h; cases h), fun _ => rfl⟩
  · have hk : l[x].kind = 12 := by rw [mdAt_eq hx] at hu; simpa [isU] using hu
    simp [h1, (h2 m (List.prefix_refl _)).1, hk]
    refine C_of (k74 s l x m hs hsz hc hx hu) ?_
    rintro _ m1 ⟨hm1, t, zs, rfl, h3, h4⟩
    simp
    exact ⟨hm1, zs, h3, h4⟩
theorem atI_nonneg {r : Nat → Nat} {zs : List Nat} {x : Nat} : 0 ≤ atI r zs x ↔ ∃ z ∈ zs, r z = r x := by
  have h := fidx_any zs (fun z => r z == r x)
  have h2 : (0 ≤ atI r zs x) ↔ zs.any (fun z => r z == r x) = true := by
    rw [← h]; simp [atI]
  rw [h2]; simp [List.any_eq_true]
end Go.Proofs.YtheadodblifklaaGreat

namespace Go.Proofs.YtheadodblifklaaGreat
open Go Ax
theorem SortedBy.mem {r : Nat → Nat} {ms zs : List Nat} (h : SortedBy r ms zs) (z : Nat) : z ∈ zs ↔ z ∈ ms ∧ ∀ y ∈ ms, r y = r z → z ≤ y := by
  have hinj : ∀ a ∈ zs, ∀ b ∈ zs, r a = r b → a = b := by
    intro a ha b hb hab
    obtain ⟨i, hi, rfl⟩ := List.mem_iff_getElem.1 ha
    obtain ⟨j, hj, rfl⟩ := List.mem_iff_getElem.1 hb
    have h0 := List.pairwise_iff_getElem.1 h.asc
    rcases Nat.lt_trichotomy i j with hij | hij | hij
    · have := h0 i j hi hj hij; omega
    · subst hij; rfl
    · have := h0 j i hj hi hij; omega
  constructor
  · intro hz
    refine ⟨h.sub z hz, fun y hy he => ?_⟩
    obtain ⟨w, h1, h2, h3⟩ := h.cov y hy
    rw [hinj z hz w h1 (by omega)]
    exact h3
  · rintro ⟨hz, hm⟩
    obtain ⟨w, h1, h2, h3⟩ := h.cov z hz
    have := hm w (h.sub w h1) h2
    rw [show z = w by omega]
    exact h1
theorem pwr_ext {r : Nat → Nat} : ∀ {xs ys : List Nat}, xs.Pairwise (fun a b => r a < r b) → ys.Pairwise (fun a b => r a < r b) → (∀ v, v ∈ xs ↔ v ∈ ys) → xs = ys
  | [], [], _, _, _ => rfl
  | [], y :: ys, _, _, h => by have := (h y).2 List.mem_cons_self; cases this
  | x :: xs, [], _, _, h => by have := (h x).1 List.mem_cons_self; cases this
  | x :: xs, y :: ys, hx, hy, h => by
    rw [List.pairwise_cons] at hx hy
    have hxy : x = y := by
      have h1 := (h x).1 List.mem_cons_self
      have h2 := (h y).2 List.mem_cons_self
      rcases List.mem_cons.1 h1 with h1 | h1
      · exact h1
      · rcases List.mem_cons.1 h2 with h2 | h2
        · exact h2.symm
        · have := hy.1 x h1
          have := hx.1 y h2
          omega
    subst hxy
    rw [pwr_ext hx.2 hy.2 fun v => ?_]
    constructor
    · intro hv
      rcases List.mem_cons.1 ((h v).1 (List.mem_cons_of_mem _ hv)) with rfl | h1
      · have := hx.1 v hv; omega
      · exact h1
    · intro hv
      rcases List.mem_cons.1 ((h v).2 (List.mem_cons_of_mem _ hv)) with rfl | h1
      · have := hy.1 v hv; omega
      · exact h1
theorem SortedBy.unique {r : Nat → Nat} {ms ms' zs zs' : List Nat} (h : SortedBy r ms zs) (h' : SortedBy r ms' zs') (hm : ∀ v, v ∈ ms ↔ v ∈ ms') : zs = zs' := by
  refine pwr_ext h.asc h'.asc fun v => ?_
  rw [h.mem, h'.mem, hm]
  constructor
  · rintro ⟨h1, h2⟩; exact ⟨h1, fun y hy => h2 y ((hm y).2 hy)⟩
  · rintro ⟨h1, h2⟩; exact ⟨h1, fun y hy => h2 y ((hm y).1 hy)⟩
theorem BasesOk.unique {l : List Md} {x : Nat} {zs zs' : List Nat} (h : BasesOk l x zs) (h' : BasesOk l x zs') : zs = zs' := by
  cases hu : isU (mdAt l x)
  · rw [h.el hu, h'.el hu]
  · obtain ⟨O, h1, h2⟩ := h.un hu
    obtain ⟨O', h3, h4⟩ := h'.un hu
    exact h2.unique h4 fun v => by rw [h1, h3]
open Classical in
noncomputable def basesOf (l : List Md) (x : Nat) : List Nat := if h : ∃ zs, BasesOk l x zs then h.choose else []
theorem BasesOk.eq {l : List Md} {x : Nat} {zs : List Nat} (h : BasesOk l x zs) : zs = basesOf l x := by
  unfold basesOf
  rw [dif_pos ⟨zs, h⟩]
  exact h.unique (Exists.choose_spec (⟨zs, h⟩ : ∃ zs, BasesOk l x zs))
theorem BasesOk.ok {l : List Md} {x : Nat} {zs : List Nat} (h : BasesOk l x zs) : BasesOk l x (basesOf l x) := h.eq ▸ h
noncomputable def hasB (l : List Md) (u v : Nat) : Bool := isU (mdAt l u) && decide (0 ≤ atI (RR l) (basesOf l u) v)
noncomputable def hasV (l : List Md) (u v : Int) : AVal := .tuple [.bool (decide (rightI l [u, v] = 0) && hasB l u.toNat v.toNat), .int .i64 (rightI l [u, v])]
noncomputable def idxV (l : List Md) (u v : Int) : AVal :=
  if rightI l [u, v] ≠ 0 then .tuple [.int .i64 0, .int .i64 (rightI l [u, v])]
  else if isU (mdAt l u.toNat) = false then .tuple [.int .i64 0, .int .i64 13]
  else if atI (RR l) (basesOf l u.toNat) v.toNat < 0 then .tuple [.int .i64 0, .int .i64 7]
  else .tuple [.int .i64 (atI (RR l) (basesOf l u.toNat) v.toNat), .int .i64 0]
theorem atI_congr {r r' : Nat → Nat} {zs : List Nat} {x n : Nat} (h : ∀ a, a < n → r a = r' a) (hz : ∀ z ∈ zs, z < n) (hx : x < n) : atI r zs x = atI r' zs x := by
  unfold atI
  refine fidx_congr _ _ fun j _ hj => ?_
  cases hjz : zs[j]? with
  | none => rfl
  | some z => simp only [Option.any_some]; rw [h z (hz z (List.mem_of_getElem? hjz)), h x hx]
theorem atI_Rl {l : List Md} {zs : List Nat} {x : Nat} (hz : ∀ z ∈ zs, z < l.length) (hx : x < l.length) : atI (fun a => (Rl l (l.length + 1)).getD a 0) zs x = atI (RR l) zs x :=
  atI_congr (n := l.length) (fun a ha => Rl_getD l _ ha) hz hx
theorem right2 {l : List Md} {u v : Int} (h : rightI l [u, v] = 0) : checkI l = 0 ∧ ∃ a b : Nat, u = a ∧ v = b ∧ a < l.length ∧ b < l.length := by
  unfold rightI at h
  split at h
  · omega
  · rename_i h1
    split at h
    · omega
    · rename_i h2
      simp [outB] at h2
      exact ⟨by omega, u.toNat, v.toNat, by omega, by omega, by omega, by omega⟩
end Go.Proofs.YtheadodblifklaaGreat

namespace Go.Proofs.YtheadodblifklaaGreat
open Go Ax
set_option maxRecDepth 100000
theorem two_ints (m : AMem) (u v : Int) : OwL (AVal.int .i64) m.length (m ++ [.own [.int .i64 u, .int .i64 v] 3 none]) 3 (.slice m.length 0 2 2 none) [u, v] := OwL.new (f := AVal.int .i64) m 3 [u, v]
end Go.Proofs.YtheadodblifklaaGreat

namespace Go.Proofs.YtheadodblifklaaGreat
open Go Ax
set_option maxRecDepth 100000
theorem k41 (s ro : AVal) (l : List Md) (x : Nat) (m : AMem) (hs : RTab m s l) (hro : ro.one = true ∧ ro.cells = [ro]) (hx : x < l.length) :
    ACalls Tryz.prog 41 [.agg [s, ro], .int .i64 x] m fun v m' => v = .bool (isU (mdAt l x)) ∧ m <+: m' := by
  refine w41 ?_
  obtain ⟨hsl, hsc⟩ := hs.self
  simp [hsl, hsc, hro.1, hro.2]
  have hb := readB_new m [s, ro] 53 none
  have hm1 : m <+: m ++ [.own [s, ro] 53 none] := List.prefix_append _ _
  generalize m ++ [.own [s, ro] 53 none] = m1 at *
  generalize m.length = b at *
  obtain ⟨bb, o, e, h1, h2, _⟩ := hs.elems hx
  simp [bx hb, h1, (h2 m1 hm1).1, hm1, isU, mdAt_eq hx]
theorem ranksAt {m : AMem} {ro : AVal} {rk : List Nat} (h : RInts m ro (rk.map fun z : Nat => (z : Int))) {x : Nat} (hx : x < rk.length) : ∃ b o, (∀ k, iaddrE 1 ro (.int k (x : Nat)) = some (.ptr b o)) ∧ ∀ m', m <+: m' → loadE m' 1 false (.ptr b o) = some (.int .i64 (rk.getD x 0 : Nat)) := by
  obtain ⟨b, o, h1, h2⟩ := h.at (i := x) (by simpa using hx)
  exact ⟨b, o, h1, fun m' hm' => by rw [loadE_mono hm' h2]; simp [List.getD, hx]⟩
theorem k81 (s ro : AVal) (rk : List Nat) (x z b1 b2 : Nat) (m : AMem) (hro : RInts m ro (rk.map fun z : Nat => (z : Int))) (hx : x < rk.length) (hz : z < rk.length) (h1 : readB m b1 = some [s, ro]) (h2 : readB m b2 = some [.int .i64 x]) :
    ACalls Tryz.prog 81 [.int .i64 z, .ptr b1 0, .ptr b2 0] m fun v m' => v = .bool (rk.getD z 0 == rk.getD x 0) ∧ m <+: m' := by
  refine w81 ?_
  obtain ⟨bx', ox, hpx, hlx⟩ := ranksAt hro hx
  obtain ⟨bz, oz, hpz, hlz⟩ := ranksAt hro hz
  have hlx := hlx m (List.prefix_refl _)
  have hlz := hlz m (List.prefix_refl _)
  generalize rk.getD x 0 = rx at *
  generalize rk.getD z 0 = rz at *
  simp
  refine W_drawPR (by simp [maxDst]) rfl rfl ?_
  simp [bx h1, bx h2, hpx, hlx, hpz, hlz]
  intro m2 hm2
  simp [hm2, Bool.beq_eq_decide_eq]
  omega
theorem k45 (s ro : AVal) (rk : List Nat) (x z b1 b2 : Nat) (m : AMem) (hro : RInts m ro (rk.map fun z : Nat => (z : Int))) (hx : x < rk.length) (hz : z < rk.length) (h1 : readB m b1 = some [s, ro]) (h2 : readB m b2 = some [.int .i64 x]) :
    ACalls Tryz.prog 45 [.int .i64 z, .ptr b1 0, .ptr b2 0] m fun v m' => v = .bool (rk.getD z 0 == rk.getD x 0) ∧ m <+: m' := by
  refine w45 ?_
  obtain ⟨bx', ox, hpx, hlx⟩ := ranksAt hro hx
  obtain ⟨bz, oz, hpz, hlz⟩ := ranksAt hro hz
  have hlx := hlx m (List.prefix_refl _)
  have hlz := hlz m (List.prefix_refl _)
  generalize rk.getD x 0 = rx at *
  generalize rk.getD z 0 = rz at *
  simp
  refine W_drawPR (by simp [maxDst]) rfl rfl ?_
  simp [bx h1, bx h2, hpx, hlx, hpz, hlz]
  intro m2 hm2
  simp [hm2, Bool.beq_eq_decide_eq]
  omega
theorem k80 (s ro : AVal) (rk : List Nat) (x z b1 : Nat) (m : AMem) (hro : RInts m ro (rk.map fun z : Nat => (z : Int))) (hx : x < rk.length) (hz : z < rk.length) (h1 : readB m b1 = some [s, ro]) :
    ACalls Tryz.prog 80 [.int .i64 z, .int .i64 x, .ptr b1 0] m fun v m' => v = .bool (rk.getD z 0 == rk.getD x 0) ∧ m <+: m' := by
  refine w80 ?_
  obtain ⟨bx', ox, hpx, hlx⟩ := ranksAt hro hx
  obtain ⟨bz, oz, hpz, hlz⟩ := ranksAt hro hz
  have hlx := hlx m (List.prefix_refl _)
  have hlz := hlz m (List.prefix_refl _)
  generalize rk.getD x 0 = rx at *
  generalize rk.getD z 0 = rz at *
  simp
  refine W_drawPR (by simp [maxDst]) rfl rfl ?_
  simp [bx h1, hpx, hlx, hpz, hlz]
  intro m2 hm2
  simp [hm2, Bool.beq_eq_decide_eq]
  omega
theorem k103 (ro : AVal) (rk : List Nat) (x z b1 : Nat) (m : AMem) (hro : RInts m ro (rk.map fun z : Nat => (z : Int))) (hx : x < rk.length) (hz : z < rk.length) (h1 : readB m b1 = some [ro]) :
    ACalls Tryz.prog 103 [.int .i64 z, .int .i64 x, .ptr b1 0] m fun v m' => v = .bool (rk.getD z 0 == rk.getD x 0) ∧ m <+: m' := by
  refine w103 ?_
  obtain ⟨bx', ox, hpx, hlx⟩ := ranksAt hro hx
  obtain ⟨bz, oz, hpz, hlz⟩ := ranksAt hro hz
  have hlx := hlx m (List.prefix_refl _)
  have hlz := hlz m (List.prefix_refl _)
  generalize rk.getD x 0 = rx at *
  generalize rk.getD z 0 = rz at *
  simp
  refine W_drawPR (by simp [maxDst]) rfl rfl ?_
  simp [bx h1, hpx, hlx, hpz, hlz]
  intro m2 hm2
  simp [hm2, Bool.beq_eq_decide_eq]
  omega
def cmpRI (rk : List Nat) (a b : Int) : Int := firstNZ [cmpI (rk.getD a.toNat 0) (rk.getD b.toNat 0), cmpI a b]
set_option maxHeartbeats 2000000 in
theorem k76 (s ro : AVal) (rk : List Nat) (a b b1 : Nat) (m : AMem) (hro : RInts m ro (rk.map fun z : Nat => (z : Int))) (ha : a < rk.length) (hb : b < rk.length) (h1 : readB m b1 = some [s, ro]) :
    ACalls Tryz.prog 76 [.int .i64 a, .int .i64 b, .ptr b1 0] m fun v m' => v = .int .i64 (cmpRI rk a b) ∧ m <+: m' := by
  refine w76 ?_
  obtain ⟨ba, oa, hpa, hla⟩ := ranksAt hro ha
  obtain ⟨bb, ob, hpb, hlb⟩ := ranksAt hro hb
  have hla := hla m (List.prefix_refl _)
  have hlb := hlb m (List.prefix_refl _)
  unfold cmpRI
  simp only [Int.toNat_natCast]
  generalize rk.getD a 0 = x at *
  generalize rk.getD b 0 = y at *
  simp
  refine W_draw (fun _ _ _ => True) (by simp [maxDst]) ?_
  have : ∀ (j : Nat) (m' : AMem), noFacts j m' := fun _ _ => trivial
  refine D_pre 0 10 [11, 12, 10, 13, 14, 15, 16] (by simp only [List.drop_zero, List.drop_succ_cons, List.take_succ_cons, List.take_zero]; rfl) rfl rfl ‹_› ?_
  simp [bx h1, hpa, hla, hpb, hlb]
  intro _ _
  refine D_pre 11 2 [10, 13, 14, 15, 16] (by simp only [List.drop_zero, List.drop_succ_cons, List.take_succ_cons, List.take_zero]; rfl) rfl rfl ‹_› ?_
  simp
  intro _ _
  refine D_X rfl rfl fun m5 hm5 _ => ?_
  simp
  refine C_of (k78 _ _ m5) ?_
  rintro _ _ ⟨rfl, rfl⟩
  refine ⟨by simp [lateOf], ?_⟩
  refine D_X rfl rfl fun m6 hm6 _ => ?_
  simp
  refine C_of (k78 _ _ m6) ?_
  rintro _ _ ⟨rfl, rfl⟩
  refine ⟨by simp [lateOf], ?_⟩
  refine D_A rfl trivial ?_
  simp [fillA, setN]
  intro b'
  refine D_X rfl rfl fun m7 hm7 hp => ?_
  have h18 := hp 14
  simp [upd] at h18
  simp
  refine C_of (k77 (.slice b' 0 2 2 none) [cmpI x y, cmpI a b] m7 ?_ (by simp)) ?_
  · refine .inr ⟨b', 0, 2, none, rfl, ⟨by simp, .inl rfl⟩, .inr ⟨by simp, _, by simp [readB, h18, ABlk.cells]; rfl, by simp [readN]⟩⟩
  rintro _ _ ⟨rfl, rfl⟩
  refine ⟨by simp [lateOf], ?_⟩
  refine D_P rfl trivial ?_
  simp
  refine D_end fun m2 hm2 _ => ?_
  simp
  exact ((hm5.trans hm6).trans hm7).trans hm2
set_option maxHeartbeats 2000000 in
theorem k102 (ro : AVal) (rk : List Nat) (a b b1 : Nat) (m : AMem) (hro : RInts m ro (rk.map fun z : Nat => (z : Int))) (ha : a < rk.length) (hb : b < rk.length) (h1 : readB m b1 = some [ro]) :
    ACalls Tryz.prog 102 [.int .i64 a, .int .i64 b, .ptr b1 0] m fun v m' => v = .int .i64 (cmpRI rk a b) ∧ m <+: m' := by
  refine w102 ?_
  obtain ⟨ba, oa, hpa, hla⟩ := ranksAt hro ha
  obtain ⟨bb, ob, hpb, hlb⟩ := ranksAt hro hb
  have hla := hla m (List.prefix_refl _)
  have hlb := hlb m (List.prefix_refl _)
  unfold cmpRI
  simp only [Int.toNat_natCast]
  generalize rk.getD a 0 = x at *
  generalize rk.getD b 0 = y at *
  simp
  refine W_draw (fun _ _ _ => True) (by simp [maxDst]) ?_
  have : ∀ (j : Nat) (m' : AMem), noFacts j m' := fun _ _ => trivial
  refine D_pre 0 8 [9, 10, 8, 11, 12, 13, 14] (by simp only [List.drop_zero, List.drop_succ_cons, List.take_succ_cons, List.take_zero]; rfl) rfl rfl ‹_› ?_
  simp [bx h1, hpa, hla, hpb, hlb]
  intro _ _
  refine D_pre 9 2 [8, 11, 12, 13, 14] (by simp only [List.drop_zero, List.drop_succ_cons, List.take_succ_cons, List.take_zero]; rfl) rfl rfl ‹_› ?_
  simp
  intro _ _
  refine D_X rfl rfl fun m5 hm5 _ => ?_
  simp
  refine C_of (k78 _ _ m5) ?_
  rintro _ _ ⟨rfl, rfl⟩
  refine ⟨by simp [lateOf], ?_⟩
  refine D_X rfl rfl fun m6 hm6 _ => ?_
  simp
  refine C_of (k78 _ _ m6) ?_
  rintro _ _ ⟨rfl, rfl⟩
  refine ⟨by simp [lateOf], ?_⟩
  refine D_A rfl trivial ?_
  simp [fillA, setN]
  intro b'
  refine D_X rfl rfl fun m7 hm7 hp => ?_
  have h18 := hp 12
  simp [upd] at h18
  simp
  refine C_of (k77 (.slice b' 0 2 2 none) [cmpI x y, cmpI a b] m7 ?_ (by simp)) ?_
  · refine .inr ⟨b', 0, 2, none, rfl, ⟨by simp, .inl rfl⟩, .inr ⟨by simp, _, by simp [readB, h18, ABlk.cells]; rfl, by simp [readN]⟩⟩
  rintro _ _ ⟨rfl, rfl⟩
  refine ⟨by simp [lateOf], ?_⟩
  refine D_P rfl trivial ?_
  simp
  refine D_end fun m2 hm2 _ => ?_
  simp
  exact ((hm5.trans hm6).trans hm7).trans hm2
theorem two_box (m : AMem) (z w : List AVal) (ty ty' : TypeId) : readB (m ++ [.own z ty none, .own w ty' none]) m.length = some z ∧ readB (m ++ [.own z ty none, .own w ty' none]) (m.length + 1) = some w ∧ m <+: m ++ [.own z ty none, .own w ty' none] := by
  refine ⟨?_, ?_, List.prefix_append _ _⟩
  · simp [readB, ABlk.cells]
  · simp [readB, ABlk.cells, List.getElem?_append_right]
theorem k46 (s ro t : AVal) (rk zs : List Nat) (x : Nat) (m : AMem) (hss : s.one = true ∧ s.cells = [s]) (hro : RInts m ro (rk.map fun z : Nat => (z : Int))) (ht : RInts m t (zs.map fun z : Nat => (z : Int))) (hz : ∀ z ∈ zs, z < rk.length) (hx : x < rk.length) (hn : zs.length < 2 ^ 62) :
    ACalls Tryz.prog 46 [.agg [s, ro], t, .int .i64 x] m fun v m' => v = .bool (zs.any fun z => rk.getD z 0 == rk.getD x 0) ∧ m <+: m' := by
  refine w46 ?_
  obtain ⟨hr1, hr2⟩ := Sl.self hro
  simp [hss.1, hss.2, hr1, hr2]
  obtain ⟨hb1, hb2, hm02⟩ := two_box m [s, ro] [.int .i64 x] 53 3
  generalize m ++ [.own [s, ro] 53 none, .own [.int .i64 (x : Int)] 3 none] = m2 at *
  generalize m.length = b1 at *
  refine C_of (k47 t (zs.map fun z : Nat => (z : Int)) (fun z => rk.getD z.toNat 0 == rk.getD x 0) m2 (ht.mono hm02) (by simpa using hn) 81 [] [.ptr b1 0, .ptr (b1 + 1) 0] ?_) ?_
  · intro z hz' m' hm'
    obtain ⟨z, hzz, rfl⟩ := List.mem_map.1 hz'
    exact k81 s ro rk x z b1 (b1 + 1) m' (hro.mono (hm02.trans hm')) hx (hz z hzz) (readB_mono hm' hb1) (readB_mono hm' hb2)
  rintro _ m' ⟨rfl, hm'⟩
  simp [List.any_map, Function.comp_def]
  exact hm02.trans hm'
end Go.Proofs.YtheadodblifklaaGreat

namespace Go.Proofs.YtheadodblifklaaGreat
open Go Ax
open Relation
set_option maxRecDepth 100000
theorem Ax.Ch.andThen {S T : Nat → Prop} {m m1 m2 : AMem} (h : Ch S m m1) (h' : Ch T m1 m2) (hT : ∀ b, b < m.length → T b → S b) : Ch S m m2 :=
  ⟨Nat.le_trans h.len h'.len, fun b blk k1 k2 => h'.keep b blk (h.keep b blk k1 k2) fun k => k2 (hT b (List.getElem?_eq_some_iff.1 k1).1 k)⟩
def IsBase (l : List Md) (x j : Nat) : Prop := if isU (mdAt l x) = true then IsPart l x j else j = x
theorem tg_head {r : Nat → Nat → Prop} {a b : Nat} (h : TransGen r a b) : ∃ c, r a c := by
  induction h with
  | single h => exact ⟨_, h⟩
  | tail _ _ ih => exact ih
theorem done_base {l : List Md} {x : Nat} {S : List Bool} {O : List Nat} (hx : x < l.length) (hinv : PInv l x S []) (hOk : OutOk l S O) (j : Nat) : j ∈ O ↔ IsBase l x j := by
  rw [hOk.2, hinv.done]
  have hlx : l[x]? = some l[x] := List.getElem?_eq_getElem hx
  unfold IsBase
  split
  · rename_i hu
    rw [mdAt_eq hx] at hu
    constructor
    · rintro ⟨rfl | h1, h2⟩
      · have := h2 _ hlx; rw [hu] at this; cases this
      · exact ⟨h1, h2⟩
    · rintro ⟨h1, h2⟩; exact ⟨.inr h1, h2⟩
  · rename_i hu
    rw [mdAt_eq hx] at hu
    have hu : isU l[x] = false := by simpa using hu
    constructor
    · rintro ⟨rfl | h1, h2⟩
      · rfl
      · exfalso
        obtain ⟨y, h3⟩ := tg_head h1
        obtain ⟨z, h4, h5, _⟩ := h3
        rw [hlx] at h4; cases h4
        rw [hu] at h5; cases h5
    · rintro rfl
      exact ⟨.inl rfl, fun y hy => by rw [hlx] at hy; cases hy; exact hu⟩
set_option maxHeartbeats 4000000 in
theorem k44 (s ro out : AVal) (l : List Md) (O0 : List Nat) (lo x : Nat) (hx : x < l.length) (mb m : AMem) (hs : RTab mb s l) (hmm : mb <+: m) (hml : mb.length ≤ lo) (hro : ro.one = true ∧ ro.cells = [ro]) (hlo : lo ≤ m.length) (hX : OwL natI lo m 3 out O0) (hg : goodT l) (hn : l.length ≤ 512) (h64 : ∀ x ∈ l, x.elems.length ≤ 64) (hO0 : O0.length ≤ 2 ^ 30) :
    ACalls Tryz.prog 44 [.agg [s, ro], .int .i64 x, out] m fun v m' => Ch (fun b => out.blk = some b) m m' ∧ ∃ O, OwL natI lo m' 3 v (O0 ++ O) ∧ O.Nodup ∧ (∀ j, j ∈ O ↔ IsBase l x j) ∧ ∀ b, v.blk = some b → out.blk = some b ∨ m.length ≤ b := by
  refine w44 ?_
  obtain ⟨hsl, hsc⟩ := hs.self
  have hsL := (hs.mono hmm).len
  have hc1 : (l.length : Int) ≤ 281474976710656 := by omega
  have hc2 : (l.length : Int) ≤ 9223372036854775807 := by omega
  have hb0 := readB_new m [s, ro] 53 none
  have hmb : m <+: m ++ [.own [s, ro] 53 none] := List.prefix_append _ _
  have hlb : (m ++ [ABlk.own [s, ro] 53 none]).length = m.length + 1 := by simp
  simp [hsl, hsc, hro.1, hro.2, hsL, hc1, hc2]
  rw [show m ++ [ABlk.own [s, ro] 53 none, ABlk.own (List.replicate l.length (AVal.bool false)) 4 none] = (m ++ [ABlk.own [s, ro] 53 none]) ++ [ABlk.own (List.replicate l.length (AVal.bool false)) 4 none] by simp]
  generalize m ++ [.own [s, ro] 53 none] = m0 at *
  have hS0 := OwL.rep (f := AVal.bool) m0 4 l.length false
  have hm1 : m0 <+: m0 ++ [.own (List.replicate l.length (.bool false)) 4 none] := List.prefix_append _ _
  generalize hbb : m.length = bb at *
  rw [hlb] at hS0
  have ha : (AVal.slice (bb + 1) 0 l.length l.length none).blk = some (bb + 1) := rfl
  have hl1 : (m0 ++ [ABlk.own (List.replicate l.length (.bool false)) 4 none]).length = m0.length + 1 := by simp
  generalize AVal.slice (bb + 1) 0 l.length l.length none = t7 at *
  generalize m0 ++ [.own (List.replicate l.length (.bool false)) 4 none] = m1 at *
  have hQ0 := OwL.new (f := natI) m1 3 [x]
  simp [setN, fillA] at hQ0 ⊢
  have hm01 := hmb.trans hm1
  have hw0 : wtS l (List.replicate l.length false) ≤ 64 * l.length := wtS_le h64
  have hout : ∀ b, out.blk = some b → b < bb := fun b hb => by rw [← hbb]; exact (hX.blk_lo hb).2
  obtain ⟨I, hI⟩ : ∃ I : Nat → AFrame → AMem → Prop, ∀ n a m', I n a m' ↔ (∃ S Q O t7 t8 t2, Q.length + wtS l S = n ∧ a = h44_0 t2 (.ptr bb 0) t7 t8 ∧ Ch (fun b => out.blk = some b) m0 m' ∧ OwL AVal.bool (bb + 1) m' 4 t7 S ∧ OwL natI (bb + 1) m' 3 t8 Q ∧ OwL natI lo m' 3 t2 (O0 ++ O) ∧ Ap t7 t8 ∧ Ap t7 t2 ∧ Ap t8 t2 ∧ (∀ b, t2.blk = some b → out.blk = some b ∨ (bb + 1) ≤ b) ∧ PInv l x S Q ∧ OutOk l S O ∧ O.length + cntF S ≤ l.length ∧ Q.length + wtS l S ≤ 64 * l.length + 1) := ⟨_, fun _ _ _ => Iff.rfl⟩
  refine W_loop I (1 + wtS l (List.replicate l.length false)) ((hI _ _ _).2 ⟨List.replicate l.length false, [x], [], t7, _, out, by simp, rfl, .of_prefix (hm1.trans (List.prefix_append _ _)), hS0.mono (List.prefix_append _ _), OwL.lo' hQ0 (by omega), by simpa using (hX.mono hmb).mono (hm1.trans (List.prefix_append _ _)), ?_, ?_, ?_, fun b hb => .inl hb, PInv.init hx, ⟨List.nodup_nil, fun j => ?_⟩, ?_, by simp; omega⟩) ?_
  · intro b hb
    rw [ha] at hb
    cases hb
    simp [AVal.blk, hl1]; omega
  · intro b hb hbb
    have := hout b hbb
    rw [ha] at hb
    cases hb
    omega
  · intro b hb hbb
    have := hout b hbb
    simp [AVal.blk] at hb
    omega
  · rw [List.getElem?_replicate]
    split <;> simp
  · simp [cntF]
  have hol : ∀ b, out.blk = some b → lo ≤ b := fun b hb => (hX.blk_lo hb).1
  rintro n a m2 hIn
  obtain ⟨S, Q, O, t7, t8, t2, hcnt, rfl, hch, hS, hQ, hO, hap1, hap2, hap3, hbl2, hinv, hOk, hOl, hQw⟩ := (hI _ _ _).1 hIn
  clear hIn
  simp [hQ.len]
  refine bbind_dec (fun h => ?_) fun h => ?_
  · have hql : 0 < Q.length := h
    obtain ⟨z, Q', rfl⟩ : ∃ z Q', Q = z :: Q' := by
      cases Q with
      | nil => simp at hql
      | cons z Q' => exact ⟨z, Q', rfl⟩
    have hz := hinv.q z List.mem_cons_self
    obtain ⟨b8, o8, hb8, h2, h3, _⟩ := hQ.at hql
    simp only [natI, List.getElem_cons_zero] at h3
    simp at h2
    have hbx : readB m2 bb = some [s, ro] := hch.read (fun h => by have := hout _ h; omega) hb0
    have hs2 : mb <+: m2 := hch.pre (hmm.trans hmb) fun b hb h => by have := hol b h; omega
    obtain ⟨t8', h7, h8, h9⟩ := hQ.drop (i := 1) (by simp)
    simp at h7 h8
    have hlz : l[z]? = some l[z] := List.getElem?_eq_getElem hz.1
    have hzm : l[z] ∈ l := List.getElem_mem hz.1
    have hmd : mdAt l z = l[z] := mdAt_eq hz.1
    have hzS : z < S.length := by rw [hinv.len]; exact hz.1
    obtain ⟨b6, o6, hb6, h4, h5, hst6⟩ := hS.at hzS
    have hqc : (z :: Q').length = Q'.length + 1 := rfl
    simp [h2, h3, h4, h5]
    by_cases hsx : S[z] = true
    · obtain ⟨m3, hst, hch3, hS3⟩ := hst6 true
      have hset : S.set z true = S := by
        refine List.ext_getElem? fun y => ?_
        rw [List.getElem?_set]
        split
        · rename_i hz'; subst hz'; rw [List.getElem?_eq_getElem hzS, hsx]
        · rfl
      rw [hset] at hS3
      simp [hsx, h4, hst, h7]
      refine ⟨n - 1, by omega, (hI _ _ _).2 ⟨S, Q', O, t7, t8', t2, by omega, rfl, hch.andThen hch3 fun b hb h => ?_, hS3, OwL.ch h8 hch3 fun b hb hbb => ?_, hO.ch hch3 fun b hb hbb => ?_, fun b hb hbb => hap1 b hb (by rw [← h9]; exact hbb), hap2, fun b hb hbb => hap3 b (by rw [← h9]; exact hb) hbb, hbl2, hinv.skip (by rw [List.getElem?_eq_getElem hzS, hsx]), hOk, hOl, by omega⟩⟩
      · have := (hS.blk_lo hb6).1; omega
      · exact hap1 b6 hb6 (by rw [← h9, ← hbb]; exact hb)
      · exact hap2 b6 hb6 (by rw [← hbb]; exact hb)
    have hsf : S[z] = false := by simpa using hsx
    have hsf' : S[z]? = some false := by rw [List.getElem?_eq_getElem hzS, hsf]
    have hcf := cntF_set hsf'
    have hwt := wtS_set (l := l) hsf' hz.1
    rw [hmd] at hwt
    have hOmem : ∀ y, (S.set z true)[y]? = some true ↔ y = z ∨ S[y]? = some true := fun y => by
      constructor
      · exact of_set
      · rintro (rfl | h)
        · rw [List.getElem?_set_self hzS]
        · exact set_true h
    simp [hsf, bxW hbx, readN]
    refine C_of (k41 s ro l z m2 (hs.mono hs2) hro hz.1) ?_
    rintro _ m3 ⟨rfl, hm3⟩
    replace hs2 := hs2.trans hm3
    replace hch := hch.andThen (.of_prefix (S := fun _ => False) hm3) fun b hb h => h.elim
    replace hS := hS.mono hm3
    replace hQ := hQ.mono hm3
    replace h8 := OwL.mono h8 hm3
    replace hO := hO.mono hm3
    replace hbx := readB_mono hm3 hbx
    have hl3 := hch.len
    have h3l : bb + 1 ≤ m3.length := by omega
    clear h5 hst6 h2 h3
    rw [hmd]
    -- the mark, and the rest of the queue
    have mark : ∀ m6 Q8 O t8 t2, Ch (fun b => out.blk = some b) m0 m6 → OwL AVal.bool (bb + 1) m6 4 t7 S → OwL natI (bb + 1) m6 3 t8 (z :: Q8) → OwL natI lo m6 3 t2 (O0 ++ O) → Ap t7 t8 → Ap t7 t2 → Ap t8 t2 → (∀ b, t2.blk = some b → out.blk = some b ∨ bb + 1 ≤ b) → PInv l x (S.set z true) Q8 → OutOk l (S.set z true) O → O.length + cntF (S.set z true) ≤ l.length → Q8.length + wtS l (S.set z true) + 1 ≤ n →
        ∃ m7 t8', storeE m6 1 (.ptr b6 o6) (.bool true) = some (.undef, m7) ∧ sliceE 1 t8 (some (.int .i64 1)) none = some t8' ∧ ∃ n', n' < n ∧ I n' (h44_0 t2 (.ptr bb 0) t7 t8') m7 := by
      intro m6 Q8 O t8 t2 g1 g2 g3 g4 g5 g6 g7 g8 g9 g10 g11 g12
      obtain ⟨b6', o6', hb6', h4', _, hst'⟩ := g2.at hzS
      obtain ⟨rfl, rfl⟩ : b6' = b6 ∧ o6' = o6 := by have := (h4' .i64).symm.trans (h4 .i64); simpa using this
      obtain ⟨m7, hst, hch7, hS7⟩ := hst' true
      obtain ⟨t8', k1, k2, k3⟩ := g3.drop (i := 1) (by simp)
      simp at k2
      refine ⟨m7, t8', hst, by simpa using k1 .i64, Q8.length + wtS l (S.set z true), by omega, (hI _ _ _).2 ⟨S.set z true, Q8, O, t7, t8', t2, rfl, rfl, g1.andThen hch7 fun b hb h => ?_, hS7, OwL.ch k2 hch7 fun b hb hbb => ?_, g4.ch hch7 fun b hb hbb => ?_, fun b hb hbb => g5 b hb (by rw [← k3]; exact hbb), g6, fun b hb hbb => g7 b (by rw [← k3]; exact hb) hbb, g8, g9, g10, g11, by omega⟩⟩
      · have := (g2.blk_lo hb6').1; omega
      · exact g5 b6' hb6' (by rw [← k3, ← hbb]; exact hb)
      · exact g6 b6' hb6' (by rw [← hbb]; exact hb)
    obtain ⟨bj, oj, e, h10, h11, he⟩ := hs.elems hz.1
    obtain ⟨h11a, h11b⟩ := h11 m3 hs2
    by_cases hzu : isU l[z] = true
    · have hgz := hg _ hzm
      have hsc' := ints_append (he.mono hs2)
      rw [toNat_map hgz] at hsc'
      have h64z := h64 _ hzm
      obtain ⟨t8'', m4, happ, hch4, hQ4, hbl⟩ := hQ.append (by omega) (by_ := 8) (by decide) (l[z].elems.map Int.toNat) (by simp; omega)
      simp only [List.length_map] at happ
      rw [List.map_map] at happ hsc'
      obtain ⟨m7, t8f, e1, e2, e3⟩ := mark m4 (Q' ++ l[z].elems.map Int.toNat) O t8'' t2 (hch.andThen hch4 fun b hb hbb => by have := (hQ.blk_lo hbb).1; omega) (hS.ch hch4 fun b hb hbb => hap1 b hb hbb) hQ4 (hO.ch hch4 fun b hb hbb => hap3 b hbb hb) (fun b hb hbb => (hbl b hbb).elim (fun h1 => hap1 b hb h1) fun h1 => by have := (hS.blk_lo hb).2; omega) hap2 (fun b hb hbb => (hbl b hb).elim (fun h1 => hap3 b h1 hbb) fun h1 => by have := (hO.blk_lo hbb).2; omega) hbl2 (hinv.mark hg hlz (fun _ => rfl) fun h => by rw [hzu] at h; cases h) ⟨hOk.1, fun y => by
        rw [hOk.2, hOmem]
        constructor
        · rintro ⟨h1, h2⟩; exact ⟨.inr h1, h2⟩
        · rintro ⟨rfl | h1, h2⟩
          · have := h2 _ hlz; rw [hzu] at this; cases this
          · exact ⟨h1, h2⟩⟩ (by omega) (by rw [List.length_append, List.length_map]; omega)
      simp [hzu, bx hbx, h10, h11b, hsc', happ, h4, e1, e2]
      exact e3
    · have hzu : isU l[z] = false := by simpa using hzu
      have hm6 : m3 <+: m3 ++ [.own [.int .i64 (z : Int)] 3 none] := List.prefix_append _ _
      have hml6 : lo ≤ (m3 ++ [ABlk.own [.int .i64 (z : Int)] 3 none]).length := by simp; omega
      have hl6 : (m3 ++ [ABlk.own [.int .i64 (z : Int)] 3 none]).length = m3.length + 1 := by simp
      obtain ⟨t2', m4, happ, hch4, hO4, hbl⟩ := (hO.mono hm6).push hml6 (by_ := 8) (by decide) z (by simp; omega)
      simp only [natI] at happ
      have hzO : z ∉ O := fun h => by have := ((hOk.2 z).1 h).1; rw [hsf'] at this; cases this
      rw [List.append_assoc] at hO4
      obtain ⟨m7, t8f, e1, e2, e3⟩ := mark m4 Q' (O ++ [z]) t8 t2' ((hch.andThen (.of_prefix (S := fun _ => False) hm6) fun b hb h => h.elim).andThen hch4 fun b hb hbb => (hbl2 b hbb).resolve_right (by omega)) ((hS.mono hm6).ch hch4 fun b hb hbb => hap2 b hb hbb) ((hQ.mono hm6).ch hch4 fun b hb hbb => hap3 b hb hbb) hO4 hap1 (fun b hb hbb => (hbl b hbb).elim (fun h1 => hap2 b hb h1) fun h1 => by have := (hS.blk_lo hb).2; omega) (fun b hb hbb => (hbl b hbb).elim (fun h1 => hap3 b hb h1) fun h1 => by have := (hQ.blk_lo hb).2; omega) (fun b hb => (hbl b hb).elim (hbl2 b) fun h1 => .inr (by omega)) (hinv.mark hg hlz (fun h => by rw [hzu] at h; cases h) fun _ => rfl) ⟨List.nodup_append.2 ⟨hOk.1, by simp, fun a ha b hb => by rw [List.mem_singleton] at hb; subst hb; exact fun h => hzO (h ▸ ha)⟩, fun y => by
        rw [List.mem_append, List.mem_singleton, hOk.2, hOmem]
        constructor
        · rintro (⟨h1, h2⟩ | rfl)
          · exact ⟨.inr h1, h2⟩
          · exact ⟨.inl rfl, fun y hy => by rw [hlz] at hy; cases hy; exact hzu⟩
        · rintro ⟨rfl | h1, h2⟩
          · exact .inr rfl
          · exact .inl ⟨h1, h2⟩⟩ (by simp; omega) (by omega)
      simp [hzu, fillA, setN, happ, h4, e1, e2]
      exact e3
  · obtain rfl : Q = [] := by
      cases Q with
      | nil => rfl
      | cons z Q' => simp at h
    simp
    refine ⟨?_, O, hO, hOk.1, done_base hx hinv hOk, fun b hb => ?_⟩
    · exact (Ch.of_prefix hmb).andThen hch fun b _ h => h
    · rcases hbl2 b hb with h | h
      · exact .inl h
      · exact .inr (by omega)
end Go.Proofs.YtheadodblifklaaGreat

namespace Go.Proofs.YtheadodblifklaaGreat
open Go Ax
open Relation
set_option maxRecDepth 100000
theorem k44n (s ro : AVal) (l : List Md) (x : Nat) (hx : x < l.length) (m : AMem) (hs : RTab m s l) (hro : ro.one = true ∧ ro.cells = [ro]) (hg : goodT l) (hn : l.length ≤ 512) (h64 : ∀ x ∈ l, x.elems.length ≤ 64) :
    ACalls Tryz.prog 44 [.agg [s, ro], .int .i64 x, .nilslice] m fun v m' => m <+: m' ∧ ∃ O, OwL natI m.length m' 3 v O ∧ O.Nodup ∧ (∀ j, j ∈ O ↔ IsBase l x j) := by
  refine (k44 s ro .nilslice l [] m.length x hx m m hs (List.prefix_refl _) (Nat.le_refl _) hro (Nat.le_refl _) OwL.nil hg hn h64 (by simp)).mono ?_
  rintro v m' ⟨h1, O, h2, h3, h4, _⟩
  exact ⟨h1.pre (List.prefix_refl _) fun b _ h => (by cases h), O, by simpa using h2, h3, h4⟩
theorem IsBase.lt {l : List Md} (hg : goodT l) {x j : Nat} (hx : x < l.length) (h : IsBase l x j) : j < l.length := by
  unfold IsBase at h
  split at h
  · exact h.lt hg
  · omega
open Classical in
theorem basesSome (l : List Md) (hg : goodT l) (x : Nat) (hx : x < l.length) : ∃ O : List Nat, O.Nodup ∧ ∀ j, j ∈ O ↔ IsBase l x j := by
  refine ⟨(List.range l.length).filter fun j => decide (IsBase l x j), List.Pairwise.filter _ List.nodup_range, fun j => ?_⟩
  simp only [List.mem_filter, List.mem_range, decide_eq_true_eq]
  exact ⟨fun h => h.2, fun h => ⟨h.lt hg hx, h⟩⟩
def IsBases (l : List Md) (x : Nat) (O : List Nat) : Prop := O.Nodup ∧ ∀ j, j ∈ O ↔ IsBase l x j
theorem IsBases.lt {l : List Md} (hg : goodT l) {x : Nat} (hx : x < l.length) {O : List Nat} (h : IsBases l x O) : ∀ z ∈ O, z < l.length := fun z hz => ((h.2 z).1 hz).lt hg hx
theorem IsBases.length {l : List Md} (hg : goodT l) {x : Nat} (hx : x < l.length) {O : List Nat} (h : IsBases l x O) : O.length ≤ l.length := nodup_le _ _ h.1 (h.lt hg hx)
open Classical in
noncomputable def hasD (l : List Md) (r : Nat → Nat) (u v : Nat) : Bool := isU (mdAt l u) && decide (∃ j, IsBase l u j ∧ r j = r v)
open Classical in
theorem hasD_any {l : List Md} {r : Nat → Nat} {u v : Nat} {O : List Nat} (h : ∀ j, j ∈ O ↔ IsBase l u j) (hu : isU (mdAt l u) = true) : (O.any fun z => r z == r v) = hasD l r u v := by
  unfold hasD
  rw [hu, Bool.true_and, Bool.eq_iff_iff, List.any_eq_true, decide_eq_true_iff]
  constructor
  · rintro ⟨z, h1, h2⟩; exact ⟨z, (h z).1 h1, by simpa using h2⟩
  · rintro ⟨z, h1, h2⟩; exact ⟨z, (h z).2 h1, by simpa using h2⟩
set_option maxHeartbeats 2000000 in
theorem k36 (s ro : AVal) (l : List Md) (rk : List Nat) (u v : Nat) (m : AMem) (hs : RTab m s l) (hro : RInts m ro (rk.map fun z : Nat => (z : Int))) (hrl : rk.length = l.length) (hg : goodT l) (hn : l.length ≤ 512) (h64 : ∀ x ∈ l, x.elems.length ≤ 64) (hu : u < l.length) (hv : v < l.length) :
    ACalls Tryz.prog 36 [.agg [s, ro], .int .i64 u, .int .i64 v] m fun w m' => w = .bool (hasD l (fun a => rk.getD a 0) u v) ∧ m <+: m' := by
  refine w36 ?_
  obtain ⟨hsl, hsc⟩ := hs.self
  obtain ⟨hr1, hr2⟩ := Sl.self hro
  simp [hsl, hsc, hr1, hr2]
  have hb0 := readB_new m [s, ro] 53 none
  have hm1 : m <+: m ++ [.own [s, ro] 53 none] := List.prefix_append _ _
  generalize m ++ [.own [s, ro] 53 none] = m1 at *
  generalize m.length = b1 at *
  generalize hre : (fun a => rk.getD a 0) = r
  have hgd : ∀ a, rk.getD a 0 = r a := fun a => by rw [← hre]
  refine W_draw (fun i w m => if i = 2 then w = .bool (isU (mdAt l u)) else if i = 7 then ∃ O : List Nat, RInts m w (O.map fun z : Nat => (z : Int)) ∧ IsBases l u O else w = .bool (hasD l r u v)) (by simp [maxDst]) ?_
  have : ∀ (j : Nat) (m' : AMem), noFacts j m' := fun _ _ => trivial
  refine D_pre 0 2 [2, 3, 4, 5, 6, 7, 8, 9, 10, 11] (by simp only [List.drop_zero, List.drop_succ_cons, List.take_succ_cons, List.take_zero]; rfl) rfl rfl ‹_› ?_
  simp [bxW hb0, readN]
  intro _ _
  refine D_Cv (.bool (isU (mdAt l u))) rfl trivial rfl rfl (fun m' hm' _ => (k41 s ro l u m' (hs.mono (hm1.trans hm')) ⟨hr1, hr2⟩ hu).mono fun v m'' h => ⟨h.2, h.1⟩) ?_
  have := upd_triv 2 ‹∀ (j : Nat) (m' : AMem), _›
  cases huu : isU (mdAt l u)
  · refine D_pre 3 4 [7, 8, 9, 10, 11] (by simp only [List.drop_zero, List.drop_succ_cons, List.take_succ_cons, List.take_zero]; rfl) rfl rfl ‹_› ?_
    simp
    intro _ _
    refine D_skip rfl rfl rfl ?_
    have := upd_triv 7 ‹∀ (j : Nat) (m' : AMem), _›
    refine D_pre 8 1 [9, 10, 11] (by simp only [List.drop_zero, List.drop_succ_cons, List.take_succ_cons, List.take_zero]; rfl) rfl rfl ‹_› ?_
    simp
    intro _ _
    refine D_skip rfl rfl rfl ?_
    have := upd_triv 9 ‹∀ (j : Nat) (m' : AMem), _›
    refine D_pre 10 2 [] (by simp only [List.drop_zero, List.drop_succ_cons, List.take_succ_cons, List.take_zero]; rfl) rfl rfl ‹_› ?_
    simp
    intro _ _
    refine D_end fun m7 hm7 _ => ?_
    simp [hasD, huu]
    exact hm1.trans hm7
  · refine D_pre 3 4 [7, 8, 9, 10, 11] (by simp only [List.drop_zero, List.drop_succ_cons, List.take_succ_cons, List.take_zero]; rfl) rfl rfl ‹_› ?_
    simp [bxW hb0, readN]
    intro _ hT
    refine D_C rfl rfl rfl (fun m' hm' _ => (k44n s ro l u hu m' (hs.mono (hm1.trans hm')) ⟨hr1, hr2⟩ hg hn h64).mono ?_) ?_ ?_ ?_
    · rintro w m'' ⟨h1, O, h2, h3, h4⟩
      exact ⟨h1, O, ints_of_nat h2, h3, h4⟩
    · obtain ⟨O, h1, h2⟩ := basesSome l hg u hu
      exact ⟨_, _, List.prefix_append _ _, O, ints_of_nat (OwL.new (f := natI) m1 3 O), h1, h2⟩
    · rintro w m' m'' hm ⟨O, h1, h2⟩
      exact ⟨O, h1.mono hm, h2⟩
    rintro w m4 hm4 ⟨O, hO, hOb⟩
    clear hO hOb
    refine D_P rfl rfl ?_
    simp
    refine D_Cv (.bool (hasD l r u v)) rfl rfl rfl rfl (fun m' hm' hp => ?_) ?_
    · have h7 := hp 7 (by simp)
      simp [upd] at h7
      obtain ⟨O, hO, hOb⟩ := h7
      have hm05 := hm1.trans hm'
      refine (k46 s ro w rk O v m' ⟨hsl, hsc⟩ (hro.mono hm05) hO (fun z hz => by rw [hrl]; exact hOb.lt hg hu z hz) (by rw [hrl]; exact hv) (by have := hOb.length hg hu; omega)).mono ?_
      rintro _ m'' ⟨rfl, h⟩
      refine ⟨h, ?_⟩
      simp only [hgd]
      rw [hasD_any hOb.2 huu]
    refine D_P rfl trivial ?_
    simp
    refine D_P rfl trivial ?_
    simp
    refine D_end fun m7 hm7 _ => ?_
    simp
    exact hm1.trans hm7
end Go.Proofs.YtheadodblifklaaGreat

namespace Go.Proofs.YtheadodblifklaaGreat
open Go Ax
set_option maxRecDepth 100000
def cpF (E : Int → Int → Bool) (ys : List Int) : Nat → List Int
  | 0 => []
  | j + 1 => if j ≠ 0 ∧ E (ys.getD j 0) (ys.getD (j - 1) 0) = true then cpF E ys j else cpF E ys j ++ [ys.getD j 0]
set_option maxHeartbeats 4000000 in
theorem k79 (t : AVal) (ty : TypeId) (lo : Nat) (m0 : AMem) (hlo : m0.length ≤ lo) (g : FuncId) (fs cs : List AVal) (E : Int → Int → Bool) (ys : List Int) (hE : ∀ a ∈ ys, ∀ b ∈ ys, ∀ m', m0 <+: m' → ACalls Tryz.prog g (fs ++ [.int .i64 a, .int .i64 b] ++ cs) m' fun v m'' => v = .bool (E a b) ∧ m' <+: m'') (hn : ys.length < 2 ^ 62) (m : AMem) (hm : m0 <+: m) (hX : OwL (AVal.int .i64) lo m ty t ys) :
    ACalls Tryz.prog 79 [t, .func (.func g) fs cs] m fun v m' => m0 <+: m' ∧ Ch (fun b => t.blk = some b) m m' ∧ OwL (AVal.int .i64) lo m' ty v (cpF E ys ys.length) ∧ v.blk = t.blk := by
  refine w79 ?_
  simp [hX.len]
  refine bbind_dec (fun h2 => ?_) fun h2 => ?_
  · have hcp : cpF E ys ys.length = ys := by
      match ys, h2 with
      | [], _ => rfl
      | [a], _ => simp [cpF]
      | a :: b :: r, h2 => simp at h2; omega
    simp [hm, hcp, hX]
    exact .refl _ _
  simp
  obtain ⟨I, hI⟩ : ∃ I : Nat → AFrame → AMem → Prop, ∀ q a m', I q a m' ↔ (∃ (k : Nat), k + q = ys.length ∧ 1 ≤ k ∧ a = h79_0 t (.func (.func g) fs cs) (.int .i64 k) ∧ m <+: m' ∧ cpF E ys k = ys.take k) := ⟨_, fun _ _ _ => Iff.rfl⟩
  have h1 : cpF E ys 1 = ys.take 1 := by
    match ys, h2 with
    | [], h2 => simp at h2
    | a :: r, _ => simp [cpF]
  refine W_loop I (ys.length - 1) ((hI _ _ _).2 ⟨1, by omega, by omega, rfl, List.prefix_refl _, h1⟩) ?_
  rintro q a m1 hIn
  obtain ⟨k, hk, hk1, rfl, hm1, hcp⟩ := (hI _ _ _).1 hIn
  clear hIn
  replace hX := hX.mono hm1
  have hch : Ch (fun b => t.blk = some b) m m1 := .of_prefix hm1
  replace hm := hm.trans hm1
  simp [hX.len]
  refine bbind_dec (fun hkl => ?_) fun hkl => ?_
  · have hw := step64 hkl hn
    obtain ⟨q, rfl⟩ : ∃ q', q = q' + 1 := ⟨q - 1, by omega⟩
    have hp := pred64 (n := k) (by omega) (by omega)
    obtain ⟨b1, o1, _, hp1, hl1, _⟩ := hX.at hkl
    obtain ⟨b0, o0, _, hp0, hl0, _⟩ := hX.at (i := k - 1) (by omega)
    simp
    refine W_draw (fun _ _ _ => True) (by simp [maxDst]) ?_
    refine D_pc 0 10 [10] ?_
    simp [hp1, hl1, hp, hp0, hl0]
    intro _ _
    refine D_X rfl rfl fun m5 hm5 _ => ?_
    simp
    have hcall := hE _ (List.getElem_mem hkl) _ (List.getElem_mem (show k - 1 < ys.length by omega)) m5 (hm.trans hm5)
    simp at hcall
    refine C_of hcall ?_
    rintro _ m6 ⟨rfl, hm6⟩
    refine ⟨by simp [lateOf], ?_⟩
    refine D_end fun m2 hm2 _ => ?_
    replace hm2 := (hm5.trans hm6).trans hm2
    clear hcall hm5 hm6
    replace hX := hX.mono hm2
    have hch2 := hch.trans (.of_prefix hm2)
    replace hm := hm.trans hm2
    have gk : ys.getD k 0 = ys[k] := by simp [List.getD, hkl]
    have gk1 : ys.getD (k - 1) 0 = ys[k - 1] := by simp [List.getD, show k - 1 < ys.length by omega]
    by_cases heq : E ys[k] ys[k - 1] = true
    rotate_left
    · have hcp' : cpF E ys (k + 1) = ys.take (k + 1) := by
        rw [cpF, if_neg, hcp]
        · rw [List.take_add_one, List.getElem?_eq_getElem hkl]; simp [List.getD, hkl]
        · rintro ⟨_, h⟩
          rw [gk, gk1] at h
          exact heq h
      have heqf : E ys[k] ys[k - 1] = false := by simpa using heq
      simp [heqf, hw]
      exact ⟨q, by omega, (hI _ _ _).2 ⟨k + 1, by omega, by omega, by simp, hm1.trans hm2, hcp'⟩⟩
    simp [heq]
    clear hp1 hl1 hp0 hl0
    obtain ⟨s2, hs2, _, _⟩ := hX.drop (i := k) (by omega)
    have hs2' : ∀ (j : Nat), j < ys.length - k → ∀ kd, iaddrE 1 s2 (.int kd j) = iaddrE 1 t (.int kd (k + j : Nat)) := by
      intro j hj kd
      rcases hX with ⟨_, h1, _⟩ | ⟨b, o, cap, gr, bl, gr', rfl, _⟩
      · omega
      · have := hs2 .i64
        simp only [sliceE, bdE, evSlice] at this
        simp at this
        obtain ⟨_, rfl⟩ := this
        have h3 : ((j : Int) < ((ys.length - k : Nat) : Int)) := by omega
        have h4 : (((k + j : Nat) : Int) < (ys.length : Int)) := by omega
        simp only [iaddrE]
        rw [if_pos ⟨by omega, by exact_mod_cast h3⟩, if_pos ⟨by omega, by exact_mod_cast h4⟩]
        simp
        omega
    have hs2l : lenE s2 = some (.int .i64 (ys.length - k : Nat)) := by
      rcases hX with ⟨_, h1, _⟩ | ⟨b, o, cap, gr, bl, gr', rfl, _⟩
      · omega
      · have := hs2 .i64
        simp only [sliceE, bdE, evSlice] at this
        simp at this
        obtain ⟨_, rfl⟩ := this
        rfl
    simp [hs2]
    obtain ⟨J, hJ⟩ : ∃ I : Nat → AFrame → AMem → Prop, ∀ q a m', I q a m' ↔ (∃ (z p : Nat) (zs : List Int), 1 ≤ p ∧ p + q = ys.length - k ∧ a = h79_1 t (.func (.func g) fs cs) (.int .i64 z) s2 (.int .i64 p) ∧ m0 <+: m' ∧ Ch (fun b => t.blk = some b) m m' ∧ OwL (AVal.int .i64) lo m' ty t zs ∧ zs.length = ys.length ∧ z + 1 ≤ k + p ∧ (∀ j, z ≤ j → zs[j]? = ys[j]?) ∧ zs.take z = cpF E ys (k + p)) := ⟨_, fun _ _ _ => Iff.rfl⟩
    have hcp1 : ys.take k = cpF E ys (k + 1) := by
      rw [cpF, if_pos, hcp]
      refine ⟨by omega, ?_⟩
      rw [gk, gk1, heq]
    refine W_loop J (ys.length - k - 1) ((hJ _ _ _).2 ⟨k, 1, ys, by omega, by omega, rfl, hm, hch2, hX, rfl, by omega, fun _ _ => rfl, hcp1⟩) ?_
    clear hX hm hch hch2 hm2
    rintro q2 a m3 hIn
    obtain ⟨z, p, zs, hp1, hpq, rfl, hm, hch, hZ, hzl, hzk, hze, hzt⟩ := (hJ _ _ _).1 hIn
    clear hIn
    simp [hs2l]
    refine bbind_dec (fun hpl => ?_) fun hpl => ?_
    · have hpl : p < ys.length - k := by omega
      have hwp := step64 hpl (by omega)
      obtain ⟨q2, rfl⟩ : ∃ q', q2 = q' + 1 := ⟨q2 - 1, by omega⟩
      have hpp := pred64 (n := p) (by omega) (by omega)
      obtain ⟨b1, o1, _, hp1', hl1, _⟩ := hZ.at (i := k + p) (by omega)
      obtain ⟨b0, o0, _, hp0, hl0, _⟩ := hZ.at (i := k + p - 1) (by omega)
      have e1 := hs2' p hpl .i64
      have e0 := hs2' (p - 1) (by omega) .i64
      rw [hp1' .i64] at e1
      rw [show k + (p - 1) = k + p - 1 by omega, hp0 .i64] at e0
      have v1 : zs[k + p]'(by omega) = ys[k + p]'(by omega) := by
        have := hze (k + p) (by omega)
        rw [List.getElem?_eq_getElem (by omega), List.getElem?_eq_getElem (by omega)] at this
        simpa using this
      have v0 : zs[k + p - 1]'(by omega) = ys[k + p - 1]'(by omega) := by
        have := hze (k + p - 1) (by omega)
        rw [List.getElem?_eq_getElem (by omega), List.getElem?_eq_getElem (by omega)] at this
        simpa using this
      rw [v1] at hl1
      rw [v0] at hl0
      simp
      refine W_draw (fun _ _ _ => True) (by simp [maxDst]) ?_
      refine D_pc 0 10 [10, 11] ?_
      simp [e1, hl1, hpp, e0, hl0]
      intro _ _
      refine D_X rfl rfl fun m5 hm5 _ => ?_
      simp
      have hcall := hE _ (List.getElem_mem (show k + p < ys.length by omega)) _ (List.getElem_mem (show k + p - 1 < ys.length by omega)) m5 (hm.trans hm5)
      simp at hcall
      refine C_of hcall ?_
      rintro _ m6 ⟨rfl, hm6⟩
      refine ⟨by simp [lateOf], ?_⟩
      refine D_P rfl trivial ?_
      simp
      refine D_end fun m4 hm4 _ => ?_
      replace hm4 := (hm5.trans hm6).trans hm4
      clear hcall hm5 hm6
      have hZ4 := hZ.mono hm4
      have gk : ys.getD (k + p) 0 = ys[k + p]'(by omega) := by simp [List.getD, show k + p < ys.length by omega]
      have gk1 : ys.getD (k + p - 1) 0 = ys[k + p - 1]'(by omega) := by simp [List.getD, show k + p - 1 < ys.length by omega]
      by_cases hne : E (ys[k + p]'(by omega)) (ys[k + p - 1]'(by omega)) = true
      · have hcp' : cpF E ys (k + p + 1) = cpF E ys (k + p) := by
          rw [cpF, if_pos]
          refine ⟨by omega, ?_⟩
          rw [gk, gk1, hne]
        simp [hne, hwp]
        exact ⟨q2, by omega, (hJ _ _ _).2 ⟨z, p + 1, zs, by omega, by omega, by simp, hm.trans hm4, hch.trans (.of_prefix hm4), hZ4, hzl, by omega, hze, by rw [hzt, ← hcp']; rfl⟩⟩
      · have hcp' : cpF E ys (k + p + 1) = cpF E ys (k + p) ++ [ys[k + p]'(by omega)] := by
          rw [cpF, if_neg]
          · simp [List.getD, show k + p < ys.length by omega]
          · rintro ⟨_, h⟩
            rw [gk, gk1] at h
            exact hne h
        have hwz := step64 (k := z) (n := ys.length) (by omega) hn
        obtain ⟨bz, oz, hbz, hpz, _, hstz⟩ := hZ4.at (i := z) (by omega)
        obtain ⟨m5, hst, hch5, hZ5⟩ := hstz (ys[k + p]'(by omega))
        have hnef : E (ys[k + p]'(by omega)) (ys[k + p - 1]'(by omega)) = false := by simpa using hne
        simp [hnef, e1, loadE_mono hm4 hl1, hpz, hst, hwz, hwp]
        refine ⟨q2, by omega, (hJ _ _ _).2 ⟨z + 1, p + 1, zs.set z (ys[k + p]'(by omega)), by omega, by omega, by simp, hch5.pre (hm.trans hm4) fun b hb => ?_, (hch.trans (.of_prefix hm4)).trans (hch5.weaken fun b _ hb => by rw [hb]; exact hbz), hZ5, by simpa using hzl, by omega, fun j hj => ?_, ?_⟩⟩
        · have := (hZ4.blk_lo hbz).1; omega
        · rw [List.getElem?_set_ne (by omega)]; exact hze j (by omega)
        · rw [show k + (p + 1) = k + p + 1 by omega, hcp', ← hzt, List.take_add_one, List.getElem?_set_self (by omega)]
          simp [List.take_set]
          exact List.set_eq_of_length_le (by simp; omega)
    · have hpe : k + p = ys.length := by omega
      obtain ⟨s3, m4, hs3, hcl, hch4, hZ4⟩ := hZ.clear (i := z) (by omega) 0
      obtain ⟨s4, hs4, hZ5, hbl⟩ := hZ4.take (i := z) (by simp; omega)
      simp [hs3, hcl, hs4]
      rw [List.take_append_of_le_length (by simp; omega), List.take_take, Nat.min_self, hzt, hpe] at hZ5
      exact ⟨hch4.pre hm fun b hb hbb => by have := (hZ.blk_lo hbb).1; omega, hch.trans hch4, hZ5, hbl⟩
  · have hkl : k = ys.length := by omega
    subst hkl
    rw [List.take_length] at hcp
    simp [hm, hcp, hX]
    exact hch
end Go.Proofs.YtheadodblifklaaGreat

namespace Go.Proofs.YtheadodblifklaaGreat
open Go Ax
set_option maxRecDepth 100000
theorem cmpRI_ordG (rk : List Nat) (D : Int → Prop) : Ord (cmpRI rk) D := by
  have h1 : OrdG (fun a b : Int => cmpI (rk.getD a.toNat 0) (rk.getD b.toNat 0)) (fun _ => True) := cmpI_ordG.pull (fun a : Int => (rk.getD a.toNat 0 : Int)) fun _ _ => trivial
  have h2 := h1.then cmpI_ordG
  have e : ∀ a b, cmpRI rk a b = thenC (fun a b : Int => cmpI (rk.getD a.toNat 0) (rk.getD b.toNat 0)) cmpI a b := fun a b => by
    unfold cmpRI thenC
    rw [firstNZ_cons, firstNZ_cons]
    simp only []
    generalize cmpI (rk.getD a.toNat 0) (rk.getD b.toNat 0) = x
    have h0 : firstNZ [] = 0 := rfl
    by_cases h : x = 0
    · simp [h, h0]
      intro h; exact h.symm
    · simp [h]
  exact ⟨fun a b _ _ => by rw [e, e]; exact h2.anti a b trivial trivial, fun a b d _ _ _ => by rw [e, e, e]; exact h2.trans a b d trivial trivial trivial⟩
theorem cmpRI_le {rk : List Nat} {a b : Nat} (h : cmpRI rk a b ≤ 0) : rk.getD a 0 < rk.getD b 0 ∨ (rk.getD a 0 = rk.getD b 0 ∧ a ≤ b) := by
  unfold cmpRI at h
  rw [firstNZ_cons, firstNZ_cons] at h
  simp only [Int.toNat_natCast] at h
  split at h
  · have := cmpI_le.1 h
    rename_i hne
    have : ¬ ((rk.getD a 0 : Int) = rk.getD b 0) := fun e => hne (cmpI_zero.2 e)
    omega
  · rename_i he
    have he : cmpI (rk.getD a 0) (rk.getD b 0) = 0 := by simpa using he
    have := cmpI_zero.1 he
    split at h
    · have := cmpI_le.1 h; omega
    · rename_i he2
      have he2 : cmpI (a : Int) b = 0 := by simpa using he2
      have := cmpI_zero.1 he2; omega
theorem cpF_sorted {rk ws O : List Nat} (hp : ws.Perm O) (hs : SortedTo (cmpRI rk) (ws.map fun z : Nat => (z : Int)) ws.length) :
    ∀ j, j ≤ ws.length → ∃ zs, cpF (fun a b => rk.getD a.toNat 0 == rk.getD b.toNat 0) (ws.map fun z : Nat => (z : Int)) j = zs.map (fun z : Nat => (z : Int)) ∧ SortedBy (fun a => rk.getD a 0) (ws.take j) zs ∧ (j ≠ 0 → ∃ w, zs.getLast? = some w ∧ ∀ y, ws[j - 1]? = some y → rk.getD w 0 = rk.getD y 0)
  | 0, _ => ⟨[], rfl, by simpa using SortedBy.nil, fun h => absurd rfl h⟩
  | j + 1, hj => by
    obtain ⟨zs, h1, h2, h3⟩ := cpF_sorted hp hs j (by omega)
    have hjl : j < ws.length := by omega
    have hws : ws[j]? = some ws[j] := List.getElem?_eq_getElem hjl
    have hgd : (ws.map fun z : Nat => (z : Int)).getD j 0 = (ws[j] : Nat) := by simp [List.getD, hjl]
    have htk : ws.take (j + 1) = ws.take j ++ [ws[j]] := by rw [List.take_add_one, hws]; rfl
    have hlt : ∀ i, (hi : i < j) → rk.getD ws[i] 0 < rk.getD ws[j] 0 ∨ (rk.getD ws[i] 0 = rk.getD ws[j] 0 ∧ ws[i] ≤ ws[j]) := fun i hi => by
      have hil : i < ws.length := by omega
      have := cmpRI_le (hs i j (ws[i] : Nat) (ws[j] : Nat) hi hjl (by simp [hil]) (by simp [hjl]))
      omega
    rw [cpF, hgd, htk]
    split
    · rename_i hc
      obtain ⟨hj0, hE⟩ := hc
      obtain ⟨w, h4, h5⟩ := h3 hj0
      have hj1 : j - 1 < ws.length := by omega
      have hgd1 : (ws.map fun z : Nat => (z : Int)).getD (j - 1) 0 = (ws[j - 1] : Nat) := by simp [List.getD, hj1]
      rw [hgd1] at hE
      simp only [Int.toNat_natCast, beq_iff_eq] at hE
      have h6 := h5 _ (List.getElem?_eq_getElem hj1)
      have hwz : w ∈ zs := List.mem_of_getLast? h4
      refine ⟨zs, h1, ⟨h2.asc, fun z hz => List.mem_append_left _ (h2.sub z hz), fun y hy => ?_⟩, fun _ => ⟨w, h4, fun y hy => ?_⟩⟩
      · rcases List.mem_append.1 hy with hy | hy
        · exact h2.cov y hy
        · rw [List.mem_singleton] at hy
          subst hy
          refine ⟨w, hwz, by omega, ?_⟩
          obtain ⟨i, hi, hiw⟩ := List.mem_iff_getElem.1 (h2.sub w hwz)
          rw [List.length_take] at hi
          rw [List.getElem_take] at hiw
          have := hlt i (by omega)
          rw [hiw] at this
          omega
      · rw [Nat.add_sub_cancel, hws] at hy
        cases hy
        omega
    · rename_i hc
      refine ⟨zs ++ [ws[j]], by rw [h1]; simp, ⟨?_, fun z hz => ?_, fun y hy => ?_⟩, fun _ => ⟨ws[j], by simp, fun y hy => by rw [Nat.add_sub_cancel, hws] at hy; cases hy; rfl⟩⟩
      · rw [List.pairwise_append]
        refine ⟨h2.asc, by simp, fun z hz y hy => ?_⟩
        rw [List.mem_singleton] at hy
        subst hy
        obtain ⟨i, hi, hiz⟩ := List.mem_iff_getElem.1 (h2.sub z hz)
        rw [List.length_take] at hi
        rw [List.getElem_take] at hiz
        have hj0 : j ≠ 0 := by omega
        have hj1 : j - 1 < ws.length := by omega
        have hgd1 : (ws.map fun z : Nat => (z : Int)).getD (j - 1) 0 = (ws[j - 1] : Nat) := by simp [List.getD, hj1]
        have hne : ¬ rk.getD ws[j] 0 = rk.getD ws[j - 1] 0 := fun e => hc ⟨hj0, by rw [hgd1]; simpa using e⟩
        have hl1 := hlt (j - 1) (by omega)
        have hl2 := hlt i (by omega)
        rw [hiz] at hl2
        rcases hl2 with hl2 | ⟨hl2, _⟩
        · exact hl2
        · exfalso
          have h7 : rk.getD z 0 ≤ rk.getD ws[j - 1] 0 := by
            by_cases hij : i = j - 1
            · subst hij; rw [hiz]; exact Nat.le_refl _
            · have := cmpRI_le (hs i (j - 1) (ws[i] : Nat) (ws[j - 1] : Nat) (by omega) hj1 (by simp [show i < ws.length by omega]) (by simp [hj1]))
              rw [hiz] at this
              omega
          omega
      · rcases List.mem_append.1 hz with hz | hz
        · exact List.mem_append_left _ (h2.sub z hz)
        · exact List.mem_append_right _ hz
      · rcases List.mem_append.1 hy with hy | hy
        · obtain ⟨z, hz, h4⟩ := h2.cov y hy
          exact ⟨z, List.mem_append_left _ hz, h4⟩
        · rw [List.mem_singleton] at hy
          subst hy
          exact ⟨_, List.mem_append_right _ (List.mem_singleton.2 rfl), rfl, Nat.le_refl _⟩
theorem SortedBy.perm {r : Nat → Nat} {ms ms' zs : List Nat} (hp : ms.Perm ms') (h : SortedBy r ms zs) : SortedBy r ms' zs :=
  ⟨h.asc, fun z hz => hp.mem_iff.1 (h.sub z hz), fun y hy => h.cov y (hp.mem_iff.2 hy)⟩
theorem k30 (t : AVal) (xs : List Int) (m : AMem) (ht : RInts m t xs) (hn : xs.length < 2 ^ 40) :
    ACalls Tryz.prog 30 [t] m fun v m' => m <+: m' ∧ OwL (AVal.int .i64) m.length m' 3 v xs := by
  refine w30 ?_
  rcases ht with ⟨rfl, hx⟩ | ⟨b, o, cap, gr, rfl, h1, h2⟩
  · have hx : xs = [] := by simpa using hx
    subst hx
    simp
    exact OwL.nil
  · simp
    have hN := OwL.new (f := AVal.int .i64) m 3 []
    have hm1 : m <+: m ++ [.own ([].map (AVal.int .i64)) 3 none] := List.prefix_append _ _
    have hA : RInts m (.slice b o xs.length cap gr) xs := .inr ⟨b, o, cap, gr, rfl, h1, h2⟩
    have hsc := ints_append (RInts.mono hA hm1)
    simp [fillA] at hN hsc ⊢
    replace hm1 : m <+: m ++ [.own [] 3 none] := hm1
    generalize m ++ [.own [] 3 none] = m1 at *
    obtain ⟨t', m2, happ, hch, hO, hbl⟩ := hN.append (by have := hm1.length_le; omega) (by_ := 8) (by decide) xs (by simp; omega)
    simp [hsc, happ]
    exact ⟨hch.pre hm1 fun b hb h => (by simp [AVal.blk] at h; omega), by simpa using hO⟩
end Go.Proofs.YtheadodblifklaaGreat

namespace Go.Proofs.YtheadodblifklaaGreat
open Go Ax
set_option maxRecDepth 100000
theorem perm_nat {ys : List Int} {O : List Nat} (h : ys.Perm (O.map fun z : Nat => (z : Int))) : ∃ ws : List Nat, ys = ws.map (fun z : Nat => (z : Int)) ∧ ws.Perm O := by
  refine ⟨ys.map Int.toNat, ?_, ?_⟩
  · rw [List.map_map]
    have : ∀ y ∈ ys, ((fun z : Nat => (z : Int)) ∘ Int.toNat) y = id y := fun y hy => by
      obtain ⟨z, _, rfl⟩ := List.mem_map.1 (h.mem_iff.1 hy)
      rfl
    rw [List.map_congr_left this, List.map_id]
  · have := h.map Int.toNat
    rw [List.map_map] at this
    have e : (Int.toNat ∘ fun z : Nat => (z : Int)) = id := rfl
    rw [e, List.map_id] at this
    exact this
theorem natsI {m : AMem} {lo : Nat} {ty : TypeId} {t : AVal} {O : List Nat} : OwL (AVal.int .i64) lo m ty t (O.map fun z : Nat => (z : Int)) ↔ OwL natI lo m ty t O := by
  unfold OwL
  rw [List.length_map, List.map_map]
  exact Iff.rfl
theorem sorted_of {rk O : List Nat} {ys : List Int} (hp : ys.Perm (O.map fun z : Nat => (z : Int))) (hs : SortedTo (cmpRI rk) ys ys.length) :
    ∃ zs : List Nat, cpF (fun a b => rk.getD a.toNat 0 == rk.getD b.toNat 0) ys ys.length = zs.map (fun z : Nat => (z : Int)) ∧ SortedBy (fun a => rk.getD a 0) O zs := by
  obtain ⟨ws, rfl, hw⟩ := perm_nat hp
  rw [List.length_map] at hs ⊢
  obtain ⟨zs, h1, h2, _⟩ := cpF_sorted hw hs ws.length (Nat.le_refl _)
  rw [List.take_length] at h2
  exact ⟨zs, h1, h2.perm hw⟩
theorem k43g (s ro t : AVal) (l : List Md) (rk O : List Nat) (m : AMem) (hs : RTab m s l) (hro : RInts m ro (rk.map fun z : Nat => (z : Int))) (ht : RInts m t (O.map fun z : Nat => (z : Int))) (hn : O.length < 256) (hz : ∀ z ∈ O, z < rk.length) :
    ACalls Tryz.prog 43 [.agg [s, ro], t] m fun v m' => m <+: m' ∧ ∃ zs, OwL natI m.length m' 3 v zs ∧ SortedBy (fun a => rk.getD a 0) O zs := by
  refine w43 ?_
  obtain ⟨hsl, hsc⟩ := hs.self
  obtain ⟨hr1, hr2⟩ := Sl.self hro
  simp [hsl, hsc, hr1, hr2]
  have hb0 := readB_new m [s, ro] 53 none
  have hm1 : m <+: m ++ [.own [s, ro] 53 none] := List.prefix_append _ _
  have hl1 : (m ++ [ABlk.own [s, ro] 53 none]).length = m.length + 1 := by simp
  generalize m ++ [.own [s, ro] 53 none] = m1 at *
  generalize hbb : m.length = b1 at *
  refine C_of (k30 t _ m1 (ht.mono hm1) (by simp; omega)) ?_
  rintro v2 m2 ⟨hm2, hX⟩
  simp
  have hm02 := hm1.trans hm2
  have hE : ∀ z, z ∈ (O.map fun z : Nat => (z : Int)) → ∃ a : Nat, z = a ∧ a < rk.length := fun z h => by
    obtain ⟨a, ha, rfl⟩ := List.mem_map.1 h
    exact ⟨a, rfl, hz a ha⟩
  refine C_of (k75 v2 3 m1.length m1 (Nat.le_refl _) 76 [] [.ptr b1 0] (cmpRI rk) (fun z => ∃ a : Nat, z = a ∧ a < rk.length) (cmpRI_ordG rk _) ?_ _ hE (by simpa using hn) m2 hm2 hX) ?_
  · rintro _ _ ⟨a, rfl, ha⟩ ⟨b, rfl, hb⟩ m' hm'
    exact k76 s ro rk a b b1 m' (hro.mono (hm1.trans hm')) ha hb (readB_mono hm' hb0)
  rintro v3 m3 ⟨hm3, _, ys, hY, hperm, hsort⟩
  simp
  refine C_of (k79 v2 3 m1.length m1 (Nat.le_refl _) 80 [] [.ptr b1 0] (fun a b => rk.getD a.toNat 0 == rk.getD b.toNat 0) ys ?_ (by rw [hperm.length_eq]; simp; omega) m3 hm3 hY) ?_
  · intro a ha b hb m' hm'
    obtain ⟨a, rfl, ha'⟩ := hE a (hperm.mem_iff.1 ha)
    obtain ⟨b, rfl, hb'⟩ := hE b (hperm.mem_iff.1 hb)
    exact k80 s ro rk b a b1 m' (hro.mono (hm1.trans hm')) hb' ha' (readB_mono hm' hb0)
  rintro v4 m4 ⟨hm4, _, hZ, _⟩
  simp
  obtain ⟨zs, h1, h2⟩ := sorted_of hperm hsort
  rw [h1] at hZ
  exact ⟨hm1.trans hm4, zs, (natsI.1 hZ).lo' (by omega), h2⟩
theorem k43 (s ro t : AVal) (l : List Md) (rk O : List Nat) (m : AMem) (hs : RTab m s l) (hro : RInts m ro (rk.map fun z : Nat => (z : Int))) (ht : RInts m t (O.map fun z : Nat => (z : Int))) (_ : O.Nodup) (hn : O.length ≤ 13) (hz : ∀ z ∈ O, z < rk.length) :
    ACalls Tryz.prog 43 [.agg [s, ro], t] m fun v m' => m <+: m' ∧ ∃ zs, OwL natI m.length m' 3 v zs ∧ SortedBy (fun a => rk.getD a 0) O zs := k43g s ro t l rk O m hs hro ht (by omega) hz
theorem k61 (s ro : AVal) (l : List Md) (rk : List Nat) (x : Nat) (hx : x < l.length) (hu : isU l[x] = true) (m : AMem) (hs : RTab m s l) (hro : RInts m ro (rk.map fun z : Nat => (z : Int))) (hrl : rk.length = l.length) (hg : goodT l) (hn : l.length ≤ 13) (hsz : ∀ x ∈ l, smallN x) :
    ACalls Tryz.prog 61 [s, .int .i64 x, ro] m fun v m' => m <+: m' ∧ ∃ O zs, (O.Nodup ∧ ∀ j, j ∈ O ↔ IsPart l x j) ∧ OwL natI m.length m' 3 v zs ∧ SortedBy (fun a => rk.getD a 0) O zs := by
  refine w61 ?_
  obtain ⟨hr1, hr2⟩ := Sl.self hro
  simp [hr1, hr2]
  have hb0 := readB_new m [ro] 33 none
  have hm1 : m <+: m ++ [.own [ro] 33 none] := List.prefix_append _ _
  have hl1 : (m ++ [ABlk.own [ro] 33 none]).length = m.length + 1 := by simp
  generalize m ++ [.own [ro] 33 none] = m1 at *
  generalize hbb : m.length = b1 at *
  refine C_of (k89 s l x hx hu m1 (hs.mono hm1) hg (by omega) hsz) ?_
  rintro v2 m2 ⟨hm2, O, hX, hO, hOm⟩
  simp
  have hOn : O.length ≤ l.length := nodup_le _ _ hO fun z h => IsPart.lt hg ((hOm z).1 h)
  have hE : ∀ z, z ∈ (O.map fun z : Nat => (z : Int)) → ∃ a : Nat, z = a ∧ a < rk.length := fun z h => by
    obtain ⟨a, ha, rfl⟩ := List.mem_map.1 h
    exact ⟨a, rfl, by rw [hrl]; exact IsPart.lt hg ((hOm a).1 ha)⟩
  refine C_of (k75 v2 3 m1.length m1 (Nat.le_refl _) 102 [] [.ptr b1 0] (cmpRI rk) (fun z => ∃ a : Nat, z = a ∧ a < rk.length) (cmpRI_ordG rk _) ?_ _ hE (by simp; omega) m2 hm2 (natsI.2 hX)) ?_
  · rintro _ _ ⟨a, rfl, ha⟩ ⟨b, rfl, hb⟩ m' hm'
    exact k102 ro rk a b b1 m' (hro.mono (hm1.trans hm')) ha hb (readB_mono hm' hb0)
  rintro v3 m3 ⟨hm3, _, ys, hY, hperm, hsort⟩
  simp
  refine C_of (k79 v2 3 m1.length m1 (Nat.le_refl _) 103 [] [.ptr b1 0] (fun a b => rk.getD a.toNat 0 == rk.getD b.toNat 0) ys ?_ (by rw [hperm.length_eq]; simp; omega) m3 hm3 hY) ?_
  · intro a ha b hb m' hm'
    obtain ⟨a, rfl, ha'⟩ := hE a (hperm.mem_iff.1 ha)
    obtain ⟨b, rfl, hb'⟩ := hE b (hperm.mem_iff.1 hb)
    exact k103 ro rk b a b1 m' (hro.mono (hm1.trans hm')) hb' ha' (readB_mono hm' hb0)
  rintro v4 m4 ⟨hm4, _, hZ, _⟩
  simp
  obtain ⟨zs, h1, h2⟩ := sorted_of hperm hsort
  rw [h1] at hZ
  exact ⟨hm1.trans hm4, O, ⟨hO, hOm⟩, zs, (natsI.1 hZ).lo' (by omega), h2⟩
end Go.Proofs.YtheadodblifklaaGreat

namespace Go.Proofs.YtheadodblifklaaGreat
open Go Ax
set_option maxRecDepth 100000
theorem k142 (t : AVal) (xs : List ByteArray) (m : AMem) (ht : RStrs m t xs) (hn : xs.length < 2 ^ 40) :
    ACalls Tryz.prog 142 [t] m fun v m' => m <+: m' ∧ OwL AVal.str m.length m' 9 v xs ∧ v.one = true ∧ v.cells = [v] := by
  refine w142 ?_
  rcases ht with ⟨rfl, hx⟩ | ⟨b, o, cap, gr, rfl, h1, h2⟩
  · have hx : xs = [] := by simpa using hx
    subst hx
    simp
    exact OwL.nil
  · simp
    have hN := OwL.new (f := AVal.str) m 9 []
    have hm1 : m <+: m ++ [.own ([].map AVal.str) 9 none] := List.prefix_append _ _
    have hA : RStrs m (.slice b o xs.length cap gr) xs := .inr ⟨b, o, cap, gr, rfl, h1, h2⟩
    have hsc := Sl.cells (RStrs.mono hA hm1)
    simp [fillA] at hN hsc ⊢
    replace hm1 : m <+: m ++ [.own [] 9 none] := hm1
    generalize m ++ [.own [] 9 none] = m1 at *
    obtain ⟨t', m2, happ, hch, hO, hbl⟩ := hN.append (by have := hm1.length_le; omega) (by_ := 16) (by decide) xs (by simp; omega)
    simp [hsc, happ]
    have hO' : OwL AVal.str m.length m2 9 t' xs := by simpa using hO
    exact ⟨hch.pre hm1 fun b hb h => (by simp [AVal.blk] at h; omega), hO', (Ow.sl hO').self⟩
theorem fidx_spec {p : Nat → Bool} : ∀ (n i : Nat), 0 ≤ fidx p i n → ∃ j, i ≤ j ∧ j < i + n ∧ fidx p i n = (j : Int) ∧ p j = true
  | 0, i, h => by simp [fidx] at h
  | n + 1, i, h => by
    rw [fidx] at h ⊢
    split
    · rename_i hp; exact ⟨i, Nat.le_refl _, by omega, rfl, hp⟩
    · rename_i hp
      rw [if_neg hp] at h
      obtain ⟨j, h1, h2, h3, h4⟩ := fidx_spec n (i + 1) h
      exact ⟨j, by omega, by omega, h3, h4⟩
set_option maxHeartbeats 4000000 in
theorem k106 (s : AVal) (l : List Md) (m : AMem) (hs : RTab m s l) (hsz : ∀ x ∈ l, smallN x) (hnm : ∀ x ∈ l, x.names.length < 2 ^ 40) (hn : l.length ≤ 13) (hc : checkI l = 0) :
    ACalls Tryz.prog 106 [s] m fun v m' => m <+: m' ∧ ((∃ t n ds k, v = .tuple [t, n, .int .i64 0] ∧ OwL natI m.length m' 3 n ds ∧ DenseOf l.length (fun a b => RR l a < RR l b) ds k) ∨ v = .tuple [.nilslice, .nilslice, .int .i64 14]) := by
  refine w106 ?_
  have ok := okT_of hc
  simp
  refine C_of (k49 s l m hs hsz (by omega)) ?_
  rintro _ m1 ⟨rfl, hm1⟩
  simp [hc]
  refine C_of (k52 s l m1 (hs.mono hm1) ok.good hn hsz ok.h64) ?_
  rintro v2 m2 ⟨hm2, ds, kd, hX, hD⟩
  simp [hX.len]
  have hm02 := hm1.trans hm2
  have hdl := hD.len
  -- the number of classes
  obtain ⟨I, hI⟩ : ∃ I : Nat → AFrame → AMem → Prop, ∀ q a m', I q a m' ↔ (∃ (i n : Nat), i + q = ds.length ∧ a = h106_0 s v2 (.int .i64 n) v2 (.int .i64 ds.length) (.int .i64 i) ∧ m' = m2 ∧ n ≤ kd ∧ ∀ (j : Nat) d, j < i → ds[j]? = some d → d < n) := ⟨_, fun _ _ _ => Iff.rfl⟩
  refine W_loop I ds.length ((hI _ _ _).2 ⟨0, 0, by simp, rfl, rfl, by omega, fun _ _ h => by omega⟩) ?_
  rintro q a m3 hIn
  obtain ⟨i, n, hi, rfl, rfl, hnk, hlt⟩ := (hI _ _ _).1 hIn
  clear hIn
  simp
  refine bbind_dec (fun h => ?_) fun h => ?_
  · have h : i < ds.length := by omega
    have hw := step64 (k := i) (n := ds.length) h (by omega)
    obtain ⟨q, rfl⟩ : ∃ q', q = q' + 1 := ⟨q - 1, by omega⟩
    obtain ⟨b, o, _, h1, h2, _⟩ := hX.at h
    have hds : ds[i]? = some ds[i] := List.getElem?_eq_getElem h
    have hb := hD.bound i _ hds
    have hle := hD.le
    simp only [natI] at h2
    have hw2 : IntKind.i64.wrap ((ds[i] : Int) + 1) = (ds[i] : Int) + 1 := wrap64 (by omega) (by omega)
    simp [h1, h2, hw, hw2]
    by_cases hmx : n < ds[i] + 1
    · have hmx' : (n : Int) < ds[i] + 1 := by omega
      simp [hmx']
      exact ⟨q, by omega, (hI _ _ _).2 ⟨i + 1, ds[i] + 1, by omega, by simp, rfl, by omega, fun j d hj hd => by
        by_cases hji : j = i
        · subst hji; rw [hds] at hd; cases hd; omega
        · have := hlt j d (by omega) hd; omega⟩⟩
    · have hmx' : ¬ (n : Int) < ds[i] + 1 := by omega
      simp [hmx']
      exact ⟨q, by omega, (hI _ _ _).2 ⟨i + 1, n, by omega, by simp, rfl, hnk, fun j d hj hd => by
        by_cases hji : j = i
        · subst hji; rw [hds] at hd; cases hd; omega
        · exact hlt j d (by omega) hd⟩⟩
  · simp
    have hle := hD.le
    have hc1 : 80 * (n : Int) ≤ 281474976710656 := by omega
    have hc2 : (n : Int) ≤ 9223372036854775807 := by omega
    simp [hc1, hc2]
    clear hI I
    have hZ0 : Ow m3.length (m3 ++ [.own (List.replicate n [AVal.int .i64 0, AVal.int .i64 0, AVal.nilslice, AVal.nilslice, AVal.int .i64 0, AVal.bool false]).flatten 49 none]) 6 49 (.slice m3.length 0 n n none) n (List.replicate n [AVal.int .i64 0, AVal.int .i64 0, AVal.nilslice, AVal.nilslice, AVal.int .i64 0, AVal.bool false]).flatten := Ow.new (by simp) (by simp [List.all_flatten])
    have hm34 : m3 <+: m3 ++ [.own (List.replicate n [AVal.int .i64 0, AVal.int .i64 0, AVal.nilslice, AVal.nilslice, AVal.int .i64 0, AVal.bool false]).flatten 49 none] := List.prefix_append _ _
    generalize AVal.slice m3.length 0 n n none = t10 at *
    generalize m3 ++ [.own (List.replicate n [AVal.int .i64 0, AVal.int .i64 0, AVal.nilslice, AVal.nilslice, AVal.int .i64 0, AVal.bool false]).flatten 49 none] = m4 at *
    have hXi := ints_of_nat hX
    obtain ⟨I, hI⟩ : ∃ I : Nat → AFrame → AMem → Prop, ∀ q a m', I q a m' ↔ (∃ (i : Nat) (cs : List AVal), i + q = n ∧ a = h106_1 s v2 t10 (.int .i64 n) (.int .i64 i) ∧ m3 <+: m' ∧ Ow m3.length m' 6 49 t10 n cs) := ⟨_, fun _ _ _ => Iff.rfl⟩
    refine W_loop I n ((hI _ _ _).2 ⟨0, _, by simp, rfl, hm34, hZ0⟩) ?_
    clear hZ0 hm34
    rintro q a m4 hIn
    obtain ⟨k, cs, hk, rfl, hm4, hZ⟩ := (hI _ _ _).1 hIn
    clear hIn
    simp
    refine bbind_dec (fun hkn => ?_) fun hkn => ?_
    · have hw := step64 (k := k) (n := n) hkn (by omega)
      obtain ⟨q, rfl⟩ : ∃ q', q = q' + 1 := ⟨q - 1, by omega⟩
      simp
      refine C_of (k98 v2 _ k m4 (hXi.mono hm4) (by simp; omega)) ?_
      rintro _ m4 ⟨rfl, rfl⟩
      obtain ⟨j0, hj0⟩ := hD.surj k (by omega)
      obtain ⟨j, _, hjl, hjf, hjp⟩ := fidx_spec (p := fun i => (ds.map fun z : Nat => (z : Int))[i]? == some (k : Int)) ds.length 0 ((fidx_nonneg _ _ _).2 ⟨j0, by omega, by have := (List.getElem?_eq_some_iff.1 hj0).1; omega, by simp [hj0]⟩)
      rw [List.length_map, hjf]
      have hj : j < l.length := by omega
      obtain ⟨bx', ox, c, h4, h5, _, _, h6⟩ := hs.atC hj
      replace h5 := loadE_mono (hm02.trans hm4) h5
      simp [h4, h5]
      have hcl := h6.all
      rw [store_new _ _ c _ _ 6 hcl.1 rfl hcl.2]
      have hb13 : (m4 ++ [ABlk.own c 49 none])[m4.length]? = some (.own c 49 none) := by simp
      have hb13l : m3.length ≤ m4.length := hm4.length_le
      have hm45 : m4 <+: m4 ++ [ABlk.own c 49 none] := List.prefix_append _ _
      have hZb : ∀ b, t10.blk = some b → b ≠ m4.length := fun b hb e => by have := (hZ.blk_lo hb).2; omega
      have hl5 : (m4 ++ [ABlk.own c 49 none]).length = m4.length + 1 := by simp
      simp
      generalize m4 ++ [ABlk.own c 49 none] = m5 at *
      generalize m4.length = b13 at *
      obtain ⟨e, nm, c0, c1, c2, c3, c4, c5, he, hnm', rfl⟩ := h6.get
      have hm05 := hm4.trans hm45
      simp [bx (own_read hb13)]
      refine C_of (k142 nm _ m5 (hnm'.mono (hm02.trans hm05)) (hnm _ (List.getElem_mem hj))) ?_
      rintro v6 m6 ⟨hm56, _, hv1, hv2⟩
      have hb6 := own_mono hb13 hm56
      obtain ⟨m7, hst, hb7, hch7⟩ := fld_store (i := 3) hb6 (by simp) hv2 hv1
      have hm37 : m3 <+: m7 := hch7.pre (hm05.trans hm56) fun b hb e => by omega
      have hZ7 := (Ow.mono (hm45.trans hm56) hZ).ch hch7 fun b hb => hZb b hb
      simp at hb7
      simp [hst]
      simp [bx (own_read hb7)]
      clear hb6 hb13 hch7
      have hgj := ok.good _ (List.getElem_mem hj)
      have hconv : ∀ xs : List Int, (∀ e ∈ xs, 0 ≤ e ∧ e < (l.length : Int)) → ((xs.map Int.toNat).map fun z : Nat => (z : Int)) = xs := fun xs hx => by
        rw [List.map_map]
        conv => rhs; rw [← List.map_id xs]
        refine List.map_congr_left fun e he => ?_
        have := hx e he
        simp only [Function.comp, id]
        omega
      have hl57 : m5.length ≤ m7.length := by have := hm56.length_le; have := (fld_len hst); omega
      obtain ⟨J, hJ⟩ : ∃ J : AFrame → AMem → Prop, ∀ a' m', J a' m' ↔ (∃ (t14 : AVal) (ws : List Nat) (c' : List AVal), a'.forget [0, 6, 10, 11, 13, 14, 38, 39] = mat 89 [(0, s), (6, v2), (10, t10), (11, .int .i64 k), (13, .ptr b13 0), (14, t14), (38, .int .i64 n), (39, .int .i64 k)] ∧ m3 <+: m' ∧ b13 < m'.length ∧ m'[b13]? = some (.own c' 49 none) ∧ c'.length = 6 ∧ c'.all AVal.one = true ∧ (∀ m'', Ch (fun c => c = b13) m' m'' → RInts m'' t14 (ws.map fun z : Nat => (z : Int))) ∧ (∀ w ∈ ws, w < l.length) ∧ ws.length < 2 ^ 20 ∧ Ow m3.length m' 6 49 t10 n cs) := ⟨_, fun _ _ => Iff.rfl⟩
      refine bbind_J J ?_ ?_
      · have hall7 : [AVal.int .i64 l[j].kind, AVal.int .i64 l[j].size, e, v6, AVal.int .i64 l[j].dims, AVal.bool l[j].flex].all AVal.one = true := by
          have := (Sl.self he).1
          simp only [List.all_cons, List.all_nil, this, hv1]; rfl
        by_cases hu : isU l[j] = true
        · have hkk : l[j].kind = 12 := by simpa [isU] using hu
          simp [hkk]
          refine C_of (k61 s v2 l ds j hj hu m7 (hs.mono (hm02.trans hm37)) (hXi.mono hm37) (by omega) ok.good hn hsz) ?_
          rintro v8 m8 ⟨hm78, O, zs, ⟨hO, hOm⟩, hZs, hsb⟩
          simp [hZs.len]
          refine bbind_dec (fun h2 => ?_) fun h2 => ?_
          · simp
            exact (hm02.trans hm37).trans hm78
          · simp
            have hzO := nodup_le l.length zs (hsb.asc.imp fun hab => by intro e; subst e; omega) fun z hz => IsPart.lt ok.good ((hOm z).1 (hsb.sub z hz))
            exact (hJ _ _).2 ⟨_, zs, _, rfl, hm37.trans hm78, by have := hm78.length_le; omega, own_mono hb7 hm78, rfl, hall7, fun m'' hc => ints_of_nat (hZs.ch hc fun b hb e => by have := (hZs.blk_lo hb).1; omega), fun w hw => IsPart.lt ok.good ((hOm w).1 (hsb.sub w hw)), by omega, Ow.mono hm78 hZ7⟩
        · have hkk : ¬ l[j].kind = 12 := by simpa [isU] using hu
          simp [beqF hkk]
          refine (hJ _ _).2 ⟨e, l[j].elems.map Int.toNat, _, rfl, hm37, by omega, hb7, rfl, hall7, fun m'' hc => ?_, fun w hw => ?_, by have := ok.h64 _ (List.getElem_mem hj); simp; omega, hZ7⟩
          · rw [hconv _ hgj]
            exact he.mono (hm02.trans (hc.pre hm37 fun b hb e => by omega))
          · obtain ⟨z, hz, rfl⟩ := List.mem_map.1 hw
            have := hgj z hz; omega
      · intro a m8 hJ8
        obtain ⟨t14, ws, c', hfa, hm8, hbl8, hb8, hc6, hca, hws, hwl, hwn, hZ8⟩ := (hJ _ _).1 hJ8
        clear hJ8
        simp [hfa]
        obtain ⟨m9, hst9, hb9, hch9⟩ := fld_store (i := 2) (v := .nilslice) hb8 (by omega) rfl rfl
        simp [hst9, (hws m8 (.refl _ _)).len]
        have hws0 := (hws m8 (.refl _ _)).len
        have hZ8b : ∀ b, t10.blk = some b → b < m8.length := fun b hb => (hZ8.blk_lo hb).2
        obtain ⟨I2, hI2⟩ : ∃ I : Nat → AFrame → AMem → Prop, ∀ q a m', I q a m' ↔ (∃ (p : Nat) (cs2 : List AVal) (t2 : AVal) (xs : List Int), p + q = ws.length ∧ a = h106_2 s v2 t10 (.int .i64 k) (.ptr b13 0) (.int .i64 n) (.int .i64 k) t14 (.int .i64 ws.length) (.int .i64 p) ∧ Ch (fun c => c = b13) m8 m' ∧ m'[b13]? = some (.own cs2 49 none) ∧ cs2.length = 6 ∧ cs2.all AVal.one = true ∧ cs2[2]? = some t2 ∧ OwL (AVal.int .i64) m8.length m' 3 t2 xs ∧ xs.length = p) := ⟨_, fun _ _ _ => Iff.rfl⟩
        refine W_loop I2 ws.length ((hI2 _ _ _).2 ⟨0, _, .nilslice, [], by simp, rfl, hch9, hb9, by simpa using hc6, ?_, List.getElem?_set_self (by omega), OwL.nil, rfl⟩) ?_
        · exact all_set hca rfl
        rintro q2 a2 m10 hIn
        obtain ⟨p, cs2, t2, xs, hp, rfl, hch10, hb10, hc26, hc2a, hc22, hT, hxl⟩ := (hI2 _ _ _).1 hIn
        clear hIn
        simp
        have hm3' : m3 <+: m10 := hch10.pre hm8 fun b hb e => by omega
        refine bbind_dec (fun hpl => ?_) fun hpl => ?_
        · have hwp := step64 (k := p) (n := ws.length) hpl (by omega)
          obtain ⟨q2, rfl⟩ : ∃ q', q2 = q' + 1 := ⟨q2 - 1, by omega⟩
          have hws10 := hws m10 hch10
          obtain ⟨b1, o1, g1, g2⟩ := hws10.at (i := p) (by simpa using hpl)
          simp at g2
          have hwk := hwl _ (List.getElem_mem hpl)
          generalize ws[p] = w at *
          obtain ⟨b2, o2, g3, g4⟩ := ranksAt hXi (x := w) (by omega)
          replace g4 := g4 m10 hm3'
          generalize ds.getD w 0 = dw at *
          simp [g1, g2]
          refine W_draw (fun _ _ _ => True) (by simp [maxDst]) ?_
          refine D_pc 0 6 [6, 7, 8, 9] ?_
          simp [bx (own_read hb10), hc22, g3, g4]
          intro _ _
          refine D_A rfl trivial ?_
          simp [fillA, setN]
          intro a78
          refine D_W rfl rfl fun m11 hm11 hf => ?_
          have h6' := hf 6
          simp [upd] at h6'
          have hA : RInts m11 (.slice a78 0 1 1 none) [(dw : Int)] := .inr ⟨a78, 0, 1, none, rfl, ⟨by simp, .inl rfl⟩, .inr ⟨by simp, _, by simp [readB, h6', ABlk.cells]; rfl, by simp [readN]⟩⟩
          have hAs := ints_append hA
          simp at hAs
          have hch11 := hch10.andThen (.of_prefix (S := fun _ => False) hm11) fun b hb h => h.elim
          obtain ⟨t2', m12, happ, hch12, hT12, hbl⟩ := (hT.mono hm11).push hch11.len (by_ := 8) (by decide) dw (by omega)
          simp [hAs, happ]
          have hb11 := own_ch (own_mono hb10 hm11) hch12 fun e => by have := (hT.blk_lo e).1; omega
          refine D_P rfl trivial ?_
          simp
          refine D_W rfl rfl fun m13 hm13 _ => ?_
          have hb13' := own_mono hb11 hm13
          have hself := (Ow.sl hT12).self
          obtain ⟨m14, hst14, hb14, hch14⟩ := fld_store (i := 2) (v := t2') hb13' (by omega) hself.2 hself.1
          simp [hst14]
          refine D_end fun m15 hm15 _ => ?_
          simp [hwp]
          refine ⟨q2, by omega, (hI2 _ _ _).2 ⟨p + 1, cs2.set 2 t2', t2', xs ++ [(dw : Int)], by omega, by simp, ?_, own_mono hb14 hm15, by simpa using hc26, all_set hc2a hself.1, List.getElem?_set_self (by omega), ?_, by simp; omega⟩⟩
          · refine (((hch11.andThen hch12 fun b hb h => by have := (hT.blk_lo h).1; omega).andThen (.of_prefix (S := fun _ => False) hm13) fun b hb h => h.elim).andThen hch14 fun b hb h => h).andThen (.of_prefix (S := fun _ => False) hm15) fun b hb h => h.elim
          · refine ((hT12.mono hm13).ch hch14 fun b hb e => ?_).mono hm15
            rcases hbl b hb with h | h
            · have := (hT.blk_lo h).1; omega
            · have := hch11.len; omega
        · have hZ10 := hZ8.ch hch10 fun b hb => hZb b hb
          obtain ⟨b5, o5, hb5, g5, g6⟩ := Ow.store hZ10 (i := k) hkn
          have hcc : (AVal.agg cs2).cells = cs2 := rfl
          obtain ⟨m11, hst11, hch11, hZ11⟩ := g6 0 (.agg cs2) (by rw [hcc]; omega) (by rw [hcc]; exact hc2a)
          rw [hcc, hc26] at hst11
          have hrd : readN cs2 0 6 = some cs2 := by
            unfold readN
            rw [if_pos (by omega), List.drop_zero, List.take_of_length_le (by omega)]
          simp at hst11
          simp [bxW (own_read hb10), hrd, g5, hst11, hw]
          refine ⟨q, by omega, (hI _ _ _).2 ⟨k + 1, _, by omega, by simp, hch11.pre hm3' fun b hb e => ?_, hZ11⟩⟩
          have := (hZ10.blk_lo hb5).1
          omega
    · simp
      exact ⟨hm02.trans hm4, t10, v2, ⟨rfl, rfl⟩, ds, (hX.mono hm4).lo' hm1.length_le, kd, hD⟩
end Go.Proofs.YtheadodblifklaaGreat

namespace Go.Proofs.YtheadodblifklaaGreat
open Go Ax
set_option maxRecDepth 100000
theorem k68 (s : AVal) (l : List Md) (i : Int) (b : Nat) (m : AMem) (hs : RTab m s l) (hb : readB m b = some [s]) : ACalls Tryz.prog 68 [.int .i64 i, .ptr b 0] m fun v m' => v = .bool (outB l.length i) ∧ m' = m := by
  refine w68 ?_
  by_cases h1 : i < 0
  · simp [h1, outB]
  · by_cases h2 : (l.length : Int) ≤ i
    · simp [h1, h2, bx hb, hs.len, outB]
    · simp [h1, h2, bx hb, hs.len, outB]
      omega
theorem k88 (s : AVal) (l : List Md) (i : Int) (b : Nat) (m : AMem) (hs : RTab m s l) (hb : readB m b = some [s]) : ACalls Tryz.prog 88 [.int .i64 i, .ptr b 0] m fun v m' => v = .bool (outB l.length i) ∧ m' = m := by
  refine w88 ?_
  simp [bx hb]
  refine C_of (k65 s l i m hs) ?_
  rintro _ m1 ⟨rfl, rfl⟩
  simp [outB]
theorem k51 (s t : AVal) (l : List Md) (ms : List Int) (m : AMem) (hs : RTab m s l) (ht : RInts m t ms) (hsz : ∀ x ∈ l, smallN x) (hl : l.length < 2 ^ 62) (hm : ms.length < 2 ^ 62) : ACalls Tryz.prog 51 [s, t] m fun v m' => v = .int .i64 (rightI l ms) ∧ m <+: m' := by
  refine w51 ?_
  obtain ⟨hsl, hsc⟩ := hs.self
  simp [hsl, hsc]
  have hb0 := readB_new m [s] 22 none
  have hm1 : m <+: m ++ [.own [s] 22 none] := List.prefix_append _ _
  generalize m ++ [.own [s] 22 none] = m1 at *
  generalize m.length = b1 at *
  refine C_of (k49 s l m1 (hs.mono hm1) hsz hl) ?_
  rintro _ m2 ⟨rfl, hm2⟩
  simp
  generalize hE : rightI l ms = E
  unfold rightI at hE
  refine bbind_intro (fun h => ?_) fun h => ?_
  · have h : checkI l ≠ 0 := by simpa using h
    rw [if_pos h] at hE
    simp [hE, hm1.trans hm2]
  have h : checkI l = 0 := by simpa using h
  rw [if_neg (by simp [h])] at hE
  simp
  refine C_of (k47 t ms (outB l.length) m2 (ht.mono (hm1.trans hm2)) hm 88 [] [.ptr b1 0] ?_) ?_
  · intro x _ m' hm'
    refine (k88 s l x b1 m' (hs.mono ((hm1.trans hm2).trans hm')) (readB_mono (hm2.trans hm') hb0)).mono ?_
    rintro _ _ ⟨rfl, rfl⟩
    exact ⟨rfl, List.prefix_refl _⟩
  rintro _ m3 ⟨rfl, hm3⟩
  simp
  refine bbind_intro (fun h => ?_) fun h => ?_
  · rw [if_pos h] at hE
    simp [hE, (hm1.trans hm2).trans hm3]
  · rw [if_neg (by rw [h]; simp)] at hE
    simp [← hE, (hm1.trans hm2).trans hm3]
end Go.Proofs.YtheadodblifklaaGreat

namespace Go.Proofs.YtheadodblifklaaGreat
open Go Ax
set_option maxRecDepth 100000
theorem DenseOf.lt {n k : Nat} {lt : Nat → Nat → Prop} {ds : List Nat} (h : DenseOf n lt ds k) {a b : Nat} (ha : a < n) (hb : b < n) : ds.getD a 0 < ds.getD b 0 ↔ lt a b := by
  have ha' : a < ds.length := by rw [h.len]; exact ha
  have hb' : b < ds.length := by rw [h.len]; exact hb
  have h1 : ds[a]? = some ds[a] := List.getElem?_eq_getElem ha'
  have h2 : ds[b]? = some ds[b] := List.getElem?_eq_getElem hb'
  have := h.ord a b _ _ h1 h2
  simpa [List.getD, h1, h2] using this
theorem rightI_two {l : List Md} {a b : Nat} (hc : checkI l = 0) (ha : a < l.length) (hb : b < l.length) : rightI l [(a : Int), (b : Int)] = 0 := by
  unfold rightI
  rw [if_neg (by simp [hc]), if_neg]
  simp [outB, ha, hb]
theorem k108 (s : AVal) (l : List Md) (a b : Nat) (m : AMem) (hs : RTab m s l) (hsz : ∀ x ∈ l, smallN x) (hn : l.length ≤ 13) (hc : checkI l = 0) (ha : a < l.length) (hb : b < l.length) :
    ACalls Tryz.prog 108 [s, .int .i64 a, .int .i64 b] m fun v m' => v = .tuple [.bool (decide (RR l a < RR l b)), .int .i64 0] ∧ m <+: m' := by
  refine w108 ?_
  have ok := okT_of hc
  simp [fillA, setN]
  have hA := two_ints m a b
  have hm1 : m <+: m ++ [.own [.int .i64 (a : Int), .int .i64 (b : Int)] 3 none] := List.prefix_append _ _
  generalize AVal.slice m.length 0 2 2 none = t1 at *
  generalize m ++ [.own [.int .i64 (a : Int), .int .i64 (b : Int)] 3 none] = m1 at *
  refine C_of (k51 s t1 l [(a : Int), (b : Int)] m1 (hs.mono hm1) hA.ints hsz (by omega) (by simp)) ?_
  rintro _ m2 ⟨rfl, hm2⟩
  rw [rightI_two hc ha hb]
  simp
  refine C_of (k52 s l m2 (hs.mono (hm1.trans hm2)) ok.good hn hsz ok.h64) ?_
  rintro v3 m3 ⟨hm3, ds, kd, hX, hD⟩
  have hXi := ints_of_nat hX
  obtain ⟨ba, oa, hpa, hla⟩ := ranksAt hXi (x := a) (by rw [hD.len]; exact ha)
  obtain ⟨bb, ob, hpb, hlb⟩ := ranksAt hXi (x := b) (by rw [hD.len]; exact hb)
  have hla := hla m3 (List.prefix_refl _)
  have hlb := hlb m3 (List.prefix_refl _)
  have hlt := hD.lt ha hb
  generalize ds.getD a 0 = x at *
  generalize ds.getD b 0 = y at *
  simp
  refine W_drawPR (by simp [maxDst]) rfl rfl ?_
  simp [hpa, hla, hpb, hlb]
  intro m4 hm4
  simp [hlt]
  exact ((hm1.trans hm2).trans hm3).trans hm4
theorem k107 (s : AVal) (l : List Md) (a b b1 : Nat) (m : AMem) (hs : RTab m s l) (hb1 : readB m b1 = some [s]) (hsz : ∀ x ∈ l, smallN x) (hn : l.length ≤ 13) (hc : checkI l = 0) (ha : a < l.length) (hb : b < l.length) :
    ACalls Tryz.prog 107 [.int .i64 a, .int .i64 b, .ptr b1 0] m fun v m' => v = .bool (decide (RR l a < RR l b)) ∧ m <+: m' := by
  refine w107 ?_
  simp [bx hb1]
  refine C_of (k108 s l a b m hs hsz hn hc ha hb) ?_
  rintro _ m2 ⟨rfl, hm2⟩
  simp [hm2]
noncomputable def cmpRR (l : List Md) (a b : Int) : Int := cmpI (RR l a.toNat) (RR l b.toNat)
theorem cmpRR_ord (l : List Md) (D : Int → Prop) : Ord (cmpRR l) D := by
  have h1 : OrdG (fun a b : Int => cmpI (RR l a.toNat) (RR l b.toNat)) (fun _ => True) := cmpI_ordG.pull (fun a : Int => (RR l a.toNat : Int)) fun _ _ => trivial
  exact ⟨fun a b _ _ => h1.anti a b trivial trivial, fun a b d _ _ _ => h1.trans a b d trivial trivial trivial⟩
theorem k110 (s : AVal) (l : List Md) (a b b1 b8 : Nat) (m : AMem) (hs : RTab m s l) (hb1 : readB m b1 = some [s]) (hb8 : readB m b8 = some [.func (.func 107) [] [.ptr b1 0]]) (hsz : ∀ x ∈ l, smallN x) (hn : l.length ≤ 13) (hc : checkI l = 0) (ha : a < l.length) (hb : b < l.length) :
    ACalls Tryz.prog 110 [.int .i64 a, .int .i64 b, .ptr b8 0] m fun v m' => v = .int .i64 (cmpRR l a b) ∧ m <+: m' := by
  refine w110 ?_
  simp [bx hb8]
  refine C_of (k107 s l a b b1 m hs hb1 hsz hn hc ha hb) ?_
  rintro _ m2 ⟨rfl, hm2⟩
  simp
  unfold cmpRR
  refine bbind_dec (fun h => ?_) fun h => ?_
  · simp [hm2]
    simp [cmpI, h]
  simp [bx (readB_mono hm2 hb8)]
  refine C_of (k107 s l b a b1 m2 (hs.mono hm2) (readB_mono hm2 hb1) hsz hn hc hb ha) ?_
  rintro _ m3 ⟨rfl, hm3⟩
  simp
  refine bbind_dec (fun h2 => ?_) fun h2 => ?_
  · simp [hm2.trans hm3]
    have : ¬ RR l a < RR l b := h
    simp [cmpI, h2, this]
  · simp [hm2.trans hm3]
    simp [cmpI, h, h2]
end Go.Proofs.YtheadodblifklaaGreat

namespace Go.Proofs.YtheadodblifklaaGreat
open Go Ax
set_option maxRecDepth 100000
def CmpOkC (S : Nat → Prop) (m0 : AMem) (g : FuncId) (fs cs : List AVal) (D : Int → Prop) (C : Int → Int → Int) : Prop :=
  ∀ a b, D a → D b → ∀ m', Ch S m0 m' → ACalls Tryz.prog g (fs ++ [.int .i64 a, .int .i64 b] ++ cs) m' fun v m'' => v = .int .i64 (C a b) ∧ m' <+: m''
set_option maxHeartbeats 4000000 in
theorem k148c (t : AVal) (ty : TypeId) (lo : Nat) (m0 : AMem) (hlo : m0.length ≤ lo) (g : FuncId) (fs cs : List AVal) (C : Int → Int → Int) (D : Int → Prop) (hC : Ord C D) (m : AMem) (hcmp : CmpOkC (fun b => t.blk = some b) m g fs cs D C) (xs : List Int) (hD : ∀ x ∈ xs, D x) (hn : xs.length < 2 ^ 62) (hm : m0 <+: m) (hX : OwL (AVal.int .i64) lo m ty t xs) :
    ACalls Tryz.prog 148 [t, .int .i64 0, .int .i64 xs.length, .func (.func g) fs cs] m fun _ m' => m0 <+: m' ∧ Ch (fun b => t.blk = some b) m m' ∧ ∃ ys, OwL (AVal.int .i64) lo m' ty t ys ∧ ys.Perm xs ∧ SortedTo C ys ys.length := by
  refine w148 ?_
  simp
  rw [wrap64 (x := 1) (by omega) (by omega)]
  obtain ⟨I, hI⟩ : ∃ I : Nat → AFrame → AMem → Prop, ∀ q a m', I q a m' ↔ (∃ (i : Nat) (ys : List Int), i + q = xs.length + 1 ∧ 1 ≤ i ∧ a = h148_0 t (.int .i64 0) (.int .i64 xs.length) (.func (.func g) fs cs) (.int .i64 i) ∧ m0 <+: m' ∧ Ch (fun b => t.blk = some b) m m' ∧ OwL (AVal.int .i64) lo m' ty t ys ∧ ys.Perm xs ∧ SortedTo C ys i) := ⟨_, fun _ _ _ => Iff.rfl⟩
  refine W_loop I xs.length ((hI _ _ _).2 ⟨1, xs, by omega, by omega, rfl, hm, .refl _ _, hX, .refl _, fun p q a b h1 h2 => by omega⟩) ?_
  clear hX hm
  rintro q a m1 hIn
  obtain ⟨i, ys, hk, hi1, rfl, hm1, hch1, hY, hperm, hsort⟩ := (hI _ _ _).1 hIn
  clear hIn
  have hyl := hperm.length_eq
  simp
  refine bbind_dec (fun hil => ?_) fun hil => ?_
  · have hw := step64 hil hn
    obtain ⟨q, rfl⟩ : ∃ q', q = q' + 1 := ⟨q - 1, by omega⟩
    simp
    obtain ⟨I2, hI2⟩ : ∃ I : Nat → AFrame → AMem → Prop, ∀ q a m', I q a m' ↔ (∃ (ys : List Int), a = h148_1 t (.int .i64 0) (.int .i64 xs.length) (.func (.func g) fs cs) (.int .i64 i) (.int .i64 q) ∧ m0 <+: m' ∧ Ch (fun b => t.blk = some b) m m' ∧ OwL (AVal.int .i64) lo m' ty t ys ∧ ys.Perm xs ∧ InsInv C ys i q) := ⟨_, fun _ _ _ => Iff.rfl⟩
    refine W_loop I2 i ((hI2 _ _ _).2 ⟨ys, rfl, hm1, hch1, hY, hperm, .start hsort⟩) ?_
    clear hm1 hch1 hY hperm hsort hyl
    rintro j a m2 hIn
    obtain ⟨ys, rfl, hm2, hch2, hY, hperm, hins⟩ := (hI2 _ _ _).1 hIn
    clear hIn
    have hyl := hperm.length_eq
    have hDy : ∀ x ∈ ys, D x := fun x hx => hD x (hperm.mem_iff.1 hx)
    have hji := hins.le
    simp
    have done : ∀ m3, m2 <+: m3 → (j = 0 ∨ ∀ a b, ys[j]? = some a → ys[j - 1]? = some b → ¬ C a b < 0) → I q (h148_0 t (.int .i64 0) (.int .i64 xs.length) (.func (.func g) fs cs) (.int .i64 (i + 1 : Nat))) m3 := fun m3 hm3 hs => (hI _ _ _).2 ⟨i + 1, ys, by omega, by omega, rfl, hm2.trans hm3, hch2.trans (.of_prefix hm3), hY.mono hm3, hperm, hins.stop hC hDy hs⟩
    refine W_draw (fun _ _ _ => True) (by simp [maxDst]) ?_
    refine D_pc 0 14 [14, 15, 16] ?_
    by_cases hj : 0 < j
    · have hj' : (0 : Int) < j := by omega
      obtain ⟨j, rfl⟩ : ∃ j', j = j' + 1 := ⟨j - 1, by omega⟩
      simp only [Nat.add_sub_cancel] at done
      have hj1 : j + 1 < ys.length := by omega
      have hj0 : j < ys.length := by omega
      obtain ⟨b1, o1, hb1, hp1, hl1, _⟩ := hY.at hj1
      obtain ⟨b0, o0, hb0, hp0, hl0, _⟩ := hY.at hj0
      have hx : ys[j + 1]? = some ys[j + 1] := List.getElem?_eq_getElem hj1
      have hy : ys[j]? = some ys[j] := List.getElem?_eq_getElem hj0
      have hDx := hDy _ (List.getElem_mem hj1)
      have hDy' := hDy _ (List.getElem_mem hj0)
      have hswapP := List.set_set_perm hj1 hj0
      generalize hxx : ys[j + 1] = x at *
      generalize hyy : ys[j] = y at *
      simp only [Int.natCast_add, Int.cast_ofNat_Int] at hp1 hj' ⊢
      have hpj : IntKind.i64.wrap (j : Int) = j := wrap64 (by omega) (by omega)
      simp [hj', hp1, hl1, hpj, hp0, hl0]
      intro fs' hfs'
      refine D_Xg rfl rfl (b := true) (by simp) (fun _ m5 hm5 _ => ?_) (fun h => absurd rfl h)
      simp
      have hcall := hcmp x y hDx hDy' m5 (hch2.trans (.of_prefix hm5))
      simp at hcall
      refine C_of hcall ?_
      rintro _ m6 ⟨rfl, hm6⟩
      refine ⟨by simp [lateOf], ?_⟩
      refine D_pc 15 2 [] ?_
      simp
      intro fs'' hfs''
      refine D_end fun m7 hm7 _ => ?_
      simp
      have hm27 := (hm5.trans hm6).trans hm7
      refine bbind_dec (fun hlt => ?_) fun hlt => ?_
      · simp
        refine W_draw (fun _ _ _ => True) (by simp [maxDst]) ?_
        refine D_pc 0 15 [15, 16, 17] ?_
        simp [hp1, hpj, hp0, loadE_mono hm27 hl1, loadE_mono hm27 hl0]
        intro fs3 _
        refine D_W rfl rfl fun m8 hm8 _ => ?_
        have hY8 := hY.mono (hm27.trans hm8)
        obtain ⟨b1', o1', hb1', hp1', _, hst1⟩ := hY8.at hj1
        obtain ⟨rfl, rfl⟩ : b1' = b1 ∧ o1' = o1 := by have := (hp1' .i64).symm.trans (by simpa using hp1 .i64); simpa using this
        obtain ⟨m9, hst9, hch9, hY9⟩ := hst1 y
        simp [hst9]
        refine D_pc 16 1 [17] ?_
        simp [hp0]
        intro fs4 _
        refine D_W rfl rfl fun m10 hm10 _ => ?_
        have hY10 := hY9.mono hm10
        obtain ⟨b0', o0', hb0', hp0', _, hst0⟩ := hY10.at (i := j) (by simpa using hj0)
        obtain ⟨rfl, rfl⟩ : b0' = b0 ∧ o0' = o0 := by have := (hp0' .i64).symm.trans (hp0 .i64); simpa using this
        obtain ⟨m11, hst11, hch11, hY11⟩ := hst0 x
        simp [hst11]
        refine D_end fun m12 hm12 _ => ?_
        simp [hpj]
        have hcc : Ch (fun b => t.blk = some b) m2 m12 := ((((Ch.of_prefix (hm27.trans hm8)).trans (hch9.weaken fun b _ hb => by rw [hb]; exact hb1')).trans (.of_prefix hm10)).trans (hch11.weaken fun b _ hb => by rw [hb]; exact hb0')).trans (.of_prefix hm12)
        refine ⟨j, by omega, (hI2 _ _ _).2 ⟨_, rfl, hcc.pre hm2 fun b hb hbb => ?_, hch2.trans hcc, hY11.mono hm12, ?_, hins.swap hx hy hlt⟩⟩
        · have := (hY.blk_lo hbb).1; omega
        · exact (by simpa using hswapP : ((ys.set (j + 1) y).set j x).Perm ys).trans hperm
      · simp [hw]
        have hd := done m7 hm27 (.inr fun a b ha hb => by rw [hx] at ha; cases ha; rw [hy] at hb; cases hb; exact hlt)
        exact ⟨q, by omega, by simpa using hd⟩
    · obtain rfl : j = 0 := by omega
      simp
      intro fs' hfs'
      refine D_Xg rfl rfl (b := false) (by simp) (fun h => by cases h) (fun _ m5 hm5 _ => ⟨by simp [lateOf], ?_⟩)
      refine D_pc 15 2 [] ?_
      simp
      intro fs'' hfs''
      refine D_end fun m7 hm7 _ => ?_
      simp [hw]
      exact ⟨q, by omega, by simpa using done m7 (hm5.trans hm7) (.inl rfl)⟩
  · simp
    refine ⟨hm1, hch1, ys, hY, hperm, ?_⟩
    by_cases h1 : i = ys.length
    · rw [← h1]; exact hsort
    · intro p q' a b h1' h2 h3 h4
      exact hsort p q' a b h1' (by omega) h3 h4
theorem k143c (t : AVal) (ty : TypeId) (lo : Nat) (m0 : AMem) (hlo : m0.length ≤ lo) (g : FuncId) (fs cs : List AVal) (C : Int → Int → Int) (D : Int → Prop) (hC : Ord C D) (m : AMem) (hcmp : CmpOkC (fun b => t.blk = some b) m g fs cs D C) (xs : List Int) (hD : ∀ x ∈ xs, D x) (hn : xs.length ≤ 13) (hm : m0 <+: m) (hX : OwL (AVal.int .i64) lo m ty t xs) :
    ACalls Tryz.prog 143 [t, .int .i64 xs.length, .func (.func g) fs cs] m fun _ m' => m0 <+: m' ∧ Ch (fun b => t.blk = some b) m m' ∧ ∃ ys, OwL (AVal.int .i64) lo m' ty t ys ∧ ys.Perm xs ∧ SortedTo C ys ys.length := by
  refine w143 ?_
  have hnle : ¬ (20 : Int) ≤ xs.length := by omega
  have hnlt : ¬ (20 : Int) < xs.length := by omega
  simp
  refine W_loop (fun _ a m' => m' = m ∧ a = h143_0 t (.int .i64 xs.length) (.func (.func g) fs cs) (.int .i64 20) (.int .i64 0) (.int .i64 20)) 0 ⟨rfl, rfl⟩ ?_
  rintro n a m1 ⟨rfl, rfl⟩
  simp [hnle]
  refine C_of (k148c t ty lo m0 hlo g fs cs C D hC m1 hcmp xs hD (by omega) hm hX) ?_
  rintro v m2 h
  simp
  refine W_loop (fun _ a m' => m' = m2 ∧ a = h143_1 t (.int .i64 xs.length) (.func (.func g) fs cs) (.int .i64 20)) 0 ⟨rfl, rfl⟩ ?_
  rintro n a m3 ⟨rfl, rfl⟩
  simp [hnlt]
  exact h
theorem k109c (t : AVal) (ty : TypeId) (lo : Nat) (m0 : AMem) (hlo : m0.length ≤ lo) (g : FuncId) (fs cs : List AVal) (C : Int → Int → Int) (D : Int → Prop) (hC : Ord C D) (m : AMem) (hcmp : CmpOkC (fun b => t.blk = some b) m g fs cs D C) (xs : List Int) (hD : ∀ x ∈ xs, D x) (hn : xs.length ≤ 13) (hm : m0 <+: m) (hX : OwL (AVal.int .i64) lo m ty t xs) :
    ACalls Tryz.prog 109 [t, .func (.func g) fs cs] m fun _ m' => m0 <+: m' ∧ Ch (fun b => t.blk = some b) m m' ∧ ∃ ys, OwL (AVal.int .i64) lo m' ty t ys ∧ ys.Perm xs ∧ SortedTo C ys ys.length := by
  refine w109 ?_
  simp [hX.len]
  refine C_of (k143c t ty lo m0 hlo g fs cs C D hC m hcmp xs hD hn hm hX) ?_
  rintro v m' h
  simp
  exact h
set_option maxHeartbeats 4000000 in
theorem k69 (s : AVal) (l : List Md) (m : AMem) (hs : RTab m s l) (hsz : ∀ x ∈ l, smallN x) (hnm : ∀ x ∈ l, x.names.length < 2 ^ 40) (hn : l.length ≤ 13) (hc : checkI l = 0) :
    ACalls Tryz.prog 69 [s] m fun v m' => m <+: m' ∧ ∃ ds k, OwL natI m.length m' 3 v ds ∧ DenseOf l.length (fun a b => RR l a < RR l b) ds k := by
  refine w69 ?_
  obtain ⟨hsl, hsc⟩ := hs.self
  simp [hsl, hsc]
  have hb1 := readB_new m [s] 22 none
  have hm1 : m <+: m ++ [.own [s] 22 none] := List.prefix_append _ _
  have hl1 : (m ++ [ABlk.own [s] 22 none]).length = m.length + 1 := by simp
  generalize m ++ [.own [s] 22 none] = m1 at *
  generalize hbb : m.length = b1 at *
  refine C_of (k106 s l m1 (hs.mono hm1) hsz hnm hn hc) ?_
  rintro v2 m2 ⟨hm2, ⟨t, nn, ds, kd, rfl, hX, hD⟩ | rfl⟩
  · simp
    exact ⟨hm1.trans hm2, ds, hX.lo' (by omega), kd, hD⟩
  have hc1 : 8 * (l.length : Int) ≤ 281474976710656 := by omega
  have hc2 : (l.length : Int) ≤ 9223372036854775807 := by omega
  have hm02 := hm1.trans hm2
  simp [bx (readB_mono hm2 hb1), hs.len, hc1, hc2]
  generalize hnl : l.length = n at *
  have hX0 : OwL natI m2.length (m2 ++ [.own (List.replicate n (.int .i64 0)) 3 none]) 3 (.slice m2.length 0 n n none) (List.replicate n 0) := OwL.rep (f := natI) m2 3 n 0
  have hm3 : m2 <+: m2 ++ [.own (List.replicate n (.int .i64 0)) 3 none] := List.prefix_append _ _
  generalize AVal.slice m2.length 0 n n none = t6 at *
  generalize m2 ++ [.own (List.replicate n (.int .i64 0)) 3 none] = m3 at *
  obtain ⟨I, hI⟩ : ∃ I : Nat → AFrame → AMem → Prop, ∀ q a m', I q a m' ↔ (∃ (i : Nat) (xs : List Nat), i + q = n ∧ a = h69_0 (.ptr b1 0) t6 (.int .i64 n) (.int .i64 i) ∧ m2 <+: m' ∧ OwL natI m2.length m' 3 t6 xs ∧ xs.length = n ∧ ∀ (j : Nat), j < i → xs[j]? = some j) := ⟨_, fun _ _ _ => Iff.rfl⟩
  refine W_loop I n ((hI _ _ _).2 ⟨0, _, by simp, rfl, hm3, hX0, by simp, fun j hj => by omega⟩) ?_
  clear hX0 hm3
  rintro q a m3 hIn
  obtain ⟨i, xs, hk, rfl, hm3, hX, hxl, hxj⟩ := (hI _ _ _).1 hIn
  clear hIn
  simp
  refine bbind_dec (fun hin => ?_) fun hin => ?_
  · have hw := step64 hin (by omega)
    obtain ⟨q, rfl⟩ : ∃ q', q = q' + 1 := ⟨q - 1, by omega⟩
    obtain ⟨b6, o6, hb6, hp6, _, hst⟩ := hX.at (i := i) (by omega)
    obtain ⟨m4, hst4, hch4, hX4⟩ := hst i
    simp only [natI] at hst4
    simp [hp6, hst4, hw]
    refine ⟨q, by omega, (hI _ _ _).2 ⟨i + 1, xs.set i i, by omega, by simp, hch4.pre hm3 fun b hb => ?_, hX4, by simpa using hxl, fun j hj => ?_⟩⟩
    · have := (hX.blk_lo hb6).1; omega
    · rw [List.getElem?_set]
      by_cases hji : i = j
      · subst hji; rw [if_pos rfl, if_pos (by omega)]
      · rw [if_neg hji]; exact hxj j (by omega)
  have hxs : xs = List.range n := by
    refine List.ext_getElem? fun j => ?_
    by_cases hj : j < n
    · rw [hxj j (by omega), List.getElem?_range hj]
    · rw [List.getElem?_eq_none (by omega), List.getElem?_eq_none (by simp; omega)]
  subst hxs
  simp
  clear hI I hk hin
  rw [store_new1 _ _ _ _ _ rfl rfl]
  have hb8 := readB_new m3 [.func (.func 107) [] [.ptr b1 0]] 56 none
  have hm4 : m3 <+: m3 ++ [.own [.func (.func 107) [] [.ptr b1 0]] 56 none] := List.prefix_append _ _
  generalize m3 ++ [.own [.func (.func 107) [] [.ptr b1 0]] 56 none] = m4 at *
  generalize hb8e : m3.length = b8 at *
  have hb8n : ∀ b, t6.blk = some b → b ≠ b8 := fun b hb => by have := (hX.blk_lo hb).2; omega
  simp
  have hX4 := hX.mono hm4
  have hm24 := hm3.trans hm4
  have hrl : ((List.range n).map fun x : Nat => (x : Int)).length = n := by simp
  refine C_of (k109c t6 3 m2.length m2 (Nat.le_refl _) 110 [] [.ptr b8 0] (cmpRR l) (fun x => 0 ≤ x ∧ x < n) (cmpRR_ord l _) m4 ?_ ((List.range n).map fun x : Nat => (x : Int)) (fun x hx => ?_) (by omega) hm24 (perm_cells hX4)) ?_
  · intro a b ha hb m' hch'
    obtain ⟨a, rfl⟩ : ∃ a' : Nat, a = a' := ⟨a.toNat, by omega⟩
    obtain ⟨b, rfl⟩ : ∃ b' : Nat, b = b' := ⟨b.toNat, by omega⟩
    have hm2' : m2 <+: m' := hch'.pre hm24 fun b hb h => by have := (hX.blk_lo h).1; omega
    exact k110 s l a b b1 b8 m' (hs.mono (hm02.trans hm2')) (readB_mono (hm2.trans hm2') hb1) (hch'.read (fun h => hb8n _ h rfl) hb8) hsz (by omega) hc (by omega) (by omega)
  · obtain ⟨j, hj, rfl⟩ := List.mem_map.1 hx
    have := List.mem_range.1 hj
    omega
  rintro v m5 ⟨hm5, hch5, ys, hY, hperm, hsort⟩
  have hyl : ys.length = n := by rw [hperm.length_eq]; simp
  have hyD : ∀ x ∈ ys, 0 ≤ x ∧ x < n := fun x hx => by
    obtain ⟨j, hj, rfl⟩ := List.mem_map.1 (hperm.mem_iff.1 hx)
    have := List.mem_range.1 hj
    omega
  have hb15 := readB_mono (hm2.trans hm5) hb1
  have hb85 := hch5.read (fun h => hb8n _ h rfl) hb8
  have hm05 := hm02.trans hm5
  simp [bx hb15, hs.len, hnl, hc1, hc2]
  have hX0 : OwL natI m5.length (m5 ++ [.own (List.replicate n (.int .i64 0)) 3 none]) 3 (.slice m5.length 0 n n none) (List.replicate n 0) := OwL.rep (f := natI) m5 3 n 0
  have hm6 : m5 <+: m5 ++ [.own (List.replicate n (.int .i64 0)) 3 none] := List.prefix_append _ _
  generalize AVal.slice m5.length 0 n n none = t9 at *
  generalize m5 ++ [.own (List.replicate n (.int .i64 0)) 3 none] = m6 at *
  have hl6 := hY.len
  simp [hl6]
  rw [hyl]
  obtain ⟨I, hI⟩ : ∃ I : Nat → AFrame → AMem → Prop, ∀ q a m', I q a m' ↔ (∃ (i : Nat) (ds : List Nat), i + q = n ∧ a = h69_1 t6 (.ptr b8 0) t9 (.int .i64 (kk (cmpRR l) ys (i - 1) : Nat)) t6 (.int .i64 n) (.int .i64 i) ∧ m5 <+: m' ∧ OwL natI m5.length m' 3 t9 ds ∧ ds.length = n ∧ ∀ (j : Nat) y, j < i → ys[j]? = some y → ds[y.toNat]? = some (kk (cmpRR l) ys j)) := ⟨_, fun _ _ _ => Iff.rfl⟩
  refine W_loop I n ((hI _ _ _).2 ⟨0, _, by simp, rfl, hm6, hX0, by simp, fun j _ hj => by omega⟩) ?_
  clear hX0 hm6 hl6
  rintro q a m6 hIn
  obtain ⟨i, ds, hk, rfl, hm6, hds, hdl, hdj⟩ := (hI _ _ _).1 hIn
  clear hIn
  simp
  refine bbind_dec (fun hin => ?_) fun hin => ?_
  · have hw := step64 hin (by omega)
    obtain ⟨q, rfl⟩ : ∃ q', q = q' + 1 := ⟨q - 1, by omega⟩
    have hiy : i < ys.length := by omega
    obtain ⟨b6, o6, hb6, hp6, hl6, _⟩ := (hY.mono hm6).at hiy
    have hDi := hyD _ (List.getElem_mem hiy)
    have hyi : ys[i]? = some ys[i] := List.getElem?_eq_getElem hiy
    -- the store
    have fin : ∀ m7, m6 <+: m7 → ∃ b8' o8, (∀ k, iaddrE 1 t9 (.int k ys[i]) = some (.ptr b8' o8)) ∧ ∃ m8, storeE m7 1 (.ptr b8' o8) (.int .i64 (kk (cmpRR l) ys i : Nat)) = some (.undef, m8) ∧ I q (h69_1 t6 (.ptr b8 0) t9 (.int .i64 (kk (cmpRR l) ys i : Nat)) t6 (.int .i64 n) (.int .i64 (i + 1 : Nat))) m8 := by
      intro m7 hm7
      have hds7 := hds.mono hm7
      obtain ⟨y, hy⟩ : ∃ y : Nat, ys[i] = y := ⟨(ys[i]).toNat, by omega⟩
      rw [hy] at hyi ⊢
      obtain ⟨b8', o8, hb8', hp8, _, hst8⟩ := hds7.at (i := y) (by omega)
      obtain ⟨m8, hst, hch8, hds8⟩ := hst8 (kk (cmpRR l) ys i)
      refine ⟨b8', o8, hp8, m8, hst, (hI _ _ _).2 ⟨i + 1, ds.set y (kk (cmpRR l) ys i), by omega, rfl, hch8.pre (hm6.trans hm7) fun b hb => ?_, hds8, by simpa using hdl, fun j z hj hz => ?_⟩⟩
      · have := (hds7.blk_lo hb8').1; omega
      · by_cases hji : j = i
        · subst hji
          rw [hyi] at hz; cases hz
          rw [Int.toNat_natCast, List.getElem?_set_self (by omega)]
        · have hne : y ≠ z.toNat := by
            intro h
            have hzD := hyD z (List.mem_of_getElem? hz)
            have hzy : z = (y : Int) := by omega
            rw [hzy] at hz
            have hnd : ys.Nodup := by
              rw [hperm.nodup_iff]
              refine List.Pairwise.map _ (fun a b hab => ?_) List.nodup_range
              intro h; exact hab (by omega)
            obtain ⟨h1, h2⟩ := List.getElem?_eq_some_iff.1 hz
            obtain ⟨h3, h4⟩ := List.getElem?_eq_some_iff.1 hyi
            have hpw := List.pairwise_iff_getElem.1 hnd
            rcases Nat.lt_trichotomy j i with h5 | h5 | h5
            · exact hpw j i h1 h3 h5 (h2.trans h4.symm)
            · exact hji h5
            · exact hpw i j h3 h1 h5 (h4.trans h2.symm)
          rw [List.getElem?_set_ne hne]
          exact hdj j z (by omega) hz
    by_cases hi0 : i = 0
    · subst hi0
      obtain ⟨b8', o8, hp8, m8, hst8, hI8⟩ := fin m6 (List.prefix_refl _)
      simp only [kk] at hst8 hI8
      simp at hst8 hp6
      simp [hp6, hl6]
      refine W_draw (fun _ _ _ => True) (by simp [maxDst]) ?_
      refine D_pc 0 10 [10, 11] ?_
      simp
      intro _ _
      refine D_Xg rfl rfl (b := false) (by simp) (fun h => by cases h) (fun _ m7 hm7 _ => ⟨by simp [lateOf], ?_⟩)
      refine D_P rfl trivial ?_
      simp
      refine D_end fun m9 hm9 _ => ?_
      obtain ⟨b8', o8, hp8, m8, hst8, hI8⟩ := fin m9 (hm7.trans hm9)
      simp only [kk] at hst8 hI8
      simp at hst8
      simp [hp8, hst8, kk, wrap64 (x := 1)]
      exact ⟨q, by omega, by simpa using hI8⟩
    · obtain ⟨i, rfl⟩ : ∃ i', i = i' + 1 := ⟨i - 1, by omega⟩
      have hi' : (0 : Int) < (i : Int) + 1 := by omega
      have hwi : IntKind.i64.wrap (i : Int) = i := wrap64 (by omega) (by omega)
      have hil : i < ys.length := by omega
      obtain ⟨b5, o5, _, hp5, hl5, _⟩ := (hY.mono hm6).at hil
      have hDj := hyD _ (List.getElem_mem hil)
      simp only [Int.natCast_add, Int.cast_ofNat_Int, Nat.add_sub_cancel] at hp6 hw fin ⊢
      have hkk : kk (cmpRR l) ys (i + 1) = kk (cmpRR l) ys i + (if cmpRR l ys[i] ys[i + 1] ≠ 0 then 1 else 0) := by
        rw [kk]; simp [List.getD, hil, hiy]
      have hle : cmpRR l ys[i] ys[i + 1] ≤ 0 := hsort i (i + 1) _ _ (by omega) hiy (List.getElem?_eq_getElem hil) (List.getElem?_eq_getElem hiy)
      generalize hyA : ys[i] = ya at *
      generalize hyB : ys[i + 1] = yb at *
      obtain ⟨a, rfl⟩ : ∃ a' : Nat, ya = a' := ⟨ya.toNat, by omega⟩
      obtain ⟨b, rfl⟩ : ∃ b' : Nat, yb = b' := ⟨yb.toNat, by omega⟩
      simp [hp6, hl6]
      refine W_draw (fun _ _ _ => True) (by simp [maxDst]) ?_
      refine D_pc 0 10 [10, 11] ?_
      simp [hi', bx (readB_mono hm6 hb85), hwi, hp5, hl5]
      intro _ _
      refine D_Xg rfl rfl (b := true) (by simp) (fun _ m7 hm7 _ => ?_) (fun h => absurd rfl h)
      simp
      have hm57 := hm6.trans hm7
      refine C_of (k107 s l a b b1 m7 (hs.mono (hm05.trans hm57)) (readB_mono hm57 hb15) hsz (by omega) hc (by omega) (by omega)) ?_
      rintro _ m8 ⟨rfl, hm8⟩
      refine ⟨by simp [lateOf], ?_⟩
      refine D_P rfl trivial ?_
      simp
      refine D_end fun m9 hm9 _ => ?_
      obtain ⟨b8', o8, hp8, m10, hst10, hI10⟩ := fin m9 ((hm7.trans hm8).trans hm9)
      have hlt : RR l a < RR l b ↔ cmpRR l a b ≠ 0 := by
        have h1 : cmpRR l a b < 0 ↔ RR l a < RR l b := by
          unfold cmpRR
          rw [cmpI_lt]
          simp
        omega
      simp
      by_cases hcc : cmpRR l a b = 0
      · have hn' : ¬ RR l a < RR l b := fun h => (hlt.1 h) hcc
        rw [hkk] at hst10 hI10
        simp [hcc] at hst10 hI10
        simp [hn', hp8, hst10, hw]
        exact ⟨q, by omega, hI10⟩
      · have hn' : RR l a < RR l b := hlt.2 hcc
        rw [hkk] at hst10 hI10
        simp [hcc] at hst10 hI10
        have hwk : IntKind.i64.wrap ((kk (cmpRR l) ys i : Int) + 1) = (kk (cmpRR l) ys i : Int) + 1 := by
          have : kk (cmpRR l) ys i ≤ i := kk_le _ ys i
          exact wrap64 (by omega) (by omega)
        simp [hn', hwk, hp8, hst10, hw]
        exact ⟨q, by omega, hI10⟩
  · have hin' : i = n := by omega
    subst hin'
    simp
    have hdense := DenseOf.of_kk (cmpRR_ord l _) hperm hsort hdl fun j hj => hdj j _ (by omega) (List.getElem?_eq_getElem hj)
    refine ⟨hm05.trans hm6, ds, hds.lo' ?_, _, hdense.congr fun a b _ _ => ?_⟩
    · have := hm05.length_le; omega
    · unfold cmpRR
      rw [cmpI_lt]
      simp
end Go.Proofs.YtheadodblifklaaGreat

namespace Go.Proofs.YtheadodblifklaaGreat
open Go Ax
set_option maxRecDepth 100000
theorem store_two {m : AMem} {b : Nat} {z0 z1 c0 c1 : AVal} {ty : TypeId} {g : Option Nat} (h : m[b]? = some (.own [z0, z1] ty g)) (h0 : c0.one = true) (h1 : c1.one = true) : ∃ m', storeE m 2 (.ptr b 0) (.agg [c0, c1]) = some (.undef, m') ∧ m'[b]? = some (.own [c0, c1] ty g) ∧ Ch (fun c => c = b) m m' := by
  refine ⟨m.set b (.own [c0, c1] ty g), ?_, List.getElem?_set_self (List.getElem?_eq_some_iff.1 h).1, Ch.setS _ rfl⟩
  have hc : (AVal.agg [c0, c1]).cells = [c0, c1] := rfl
  simp only [storeE, hc, writeB, h]
  simp [h0, h1, setN]
set_option maxHeartbeats 2000000 in
theorem k35 (s t : AVal) (l : List Md) (ms : List Int) (m : AMem) (hs : RTab m s l) (ht : RInts m t ms) (hsz : ∀ x ∈ l, smallN x) (hnm : ∀ x ∈ l, x.names.length < 2 ^ 40) (hn : l.length ≤ 13) (hm : ms.length < 2 ^ 62) :
    ACalls Tryz.prog 35 [s, t] m fun v m' => m <+: m' ∧ ((rightI l ms ≠ 0 ∧ v = .tuple [.agg [.nilslice, .nilslice], .int .i64 (rightI l ms)]) ∨ (rightI l ms = 0 ∧ ∃ ro ds k, v = .tuple [.agg [s, ro], .int .i64 0] ∧ OwL natI m.length m' 3 ro ds ∧ DenseOf l.length (fun a b => RR l a < RR l b) ds k)) := by
  refine w35 ?_
  obtain ⟨hsl, hsc⟩ := hs.self
  simp [hsl, hsc]
  obtain ⟨hb2, hb4, hm1⟩ := two_box m [s] [.nilslice, .nilslice] 22 53
  have hbo : (m ++ [ABlk.own [s] 22 none, .own [.nilslice, .nilslice] 53 none])[m.length + 1]? = some (.own [.nilslice, .nilslice] 53 none) := by simp [List.getElem?_append_right]
  have hml : (m ++ [ABlk.own [s] 22 none, .own [.nilslice, .nilslice] 53 none]).length = m.length + 2 := by simp
  generalize m ++ [.own [s] 22 none, .own [.nilslice, .nilslice] 53 none] = m1 at *
  generalize hbb : m.length = b2 at *
  simp [bx hb2]
  refine C_of (k49 s l m1 (hs.mono hm1) hsz (by omega)) ?_
  rintro _ m2 ⟨rfl, hm2⟩
  simp
  have hbo2 := own_mono hbo hm2
  generalize hE : rightI l ms = E
  unfold rightI at hE
  refine bbind_intro (fun h => ?_) fun h => ?_
  · have h : checkI l ≠ 0 := by simpa using h
    rw [if_pos h] at hE
    obtain ⟨m3, hst, hbo3, hch⟩ := store_two (c0 := .nilslice) (c1 := .nilslice) hbo2 rfl rfl
    simp [fillA, hst]
    simp [bxW (own_read hbo3), readN]
    refine ⟨hch.pre (hm1.trans hm2) fun b hb e => by omega, .inl ⟨by omega, by rw [hE]⟩⟩
  have h : checkI l = 0 := by simpa using h
  rw [if_neg (by simp [h])] at hE
  simp
  have hb22 := readB_mono hm2 hb2
  refine C_of (k47 t ms (outB l.length) m2 (ht.mono (hm1.trans hm2)) hm 68 [] [.ptr b2 0] ?_) ?_
  · intro x _ m' hm'
    refine (k68 s l x b2 m' (hs.mono ((hm1.trans hm2).trans hm')) (readB_mono hm' hb22)).mono ?_
    rintro _ _ ⟨rfl, rfl⟩
    exact ⟨rfl, List.prefix_refl _⟩
  rintro _ m3 ⟨rfl, hm3⟩
  have hbo3 := own_mono hbo2 hm3
  have hm03 := (hm1.trans hm2).trans hm3
  simp
  refine bbind_intro (fun h' => ?_) fun h' => ?_
  · rw [if_pos h'] at hE
    obtain ⟨m4, hst, hbo4, hch⟩ := store_two (c0 := .nilslice) (c1 := .nilslice) hbo3 rfl rfl
    simp [fillA, hst]
    simp [bxW (own_read hbo4), readN]
    exact ⟨hch.pre hm03 fun b hb e => by omega, by omega, by omega⟩
  · rw [if_neg (by rw [h']; simp)] at hE
    simp
    have hb23 := readB_mono hm3 hb22
    refine W_draw (fun _ _ _ => True) (by simp [maxDst]) ?_
    refine D_pc 0 2 [2, 3, 4, 5] ?_
    simp [bx hb23]
    intro _ _
    refine D_X rfl rfl fun m5 hm5 _ => ?_
    have hm05 := hm03.trans hm5
    simp
    refine C_of (k69 s l m5 (hs.mono hm05) hsz hnm hn h) ?_
    rintro ro m6 ⟨hm6, ds, k, hX, hD⟩
    refine ⟨by simp [lateOf, ROp.ev, readB_mono (hm5.trans hm6) hb23], ?_⟩
    refine D_P rfl trivial ?_
    have hrs := (Ow.sl hX).self
    simp [fillA, setN, hsl, hsc, hrs.1, hrs.2]
    refine D_W rfl rfl fun m7 hm7 _ => ?_
    have hbo7 := own_mono hbo3 ((hm5.trans hm6).trans hm7)
    obtain ⟨m8, hst, hbo8, hch⟩ := store_two (c0 := s) (c1 := ro) hbo7 hsl hrs.1
    simp [hst]
    refine D_P rfl trivial ?_
    simp
    refine D_end fun m9 hm9 _ => ?_
    simp [bxW (own_read (own_mono hbo8 hm9)), readN]
    have hm08 := hch.pre ((hm05.trans hm6).trans hm7) fun b hb e => by omega
    refine ⟨hm08.trans hm9, .inr ⟨hE.symm, ds, ((OwL.mono hX hm7).ch hch fun b hb e => ?_).mono hm9 |>.lo' ?_, k, hD⟩⟩
    · have := (hX.blk_lo hb).1
      have := hm5.length_le; have := (List.getElem?_eq_some_iff.1 hbo3).1
      omega
    · have := hm05.length_le; omega
end Go.Proofs.YtheadodblifklaaGreat

namespace Go.Proofs.YtheadodblifklaaGreat
open Go Ax
theorem SortedBy.ex (r : Nat → Nat) (ms : List Nat) : ∃ zs, SortedBy r ms zs := by
  suffices h : ∀ ms : List Nat, ∃ zs, SortedBy r ms.reverse zs by
    have := h ms.reverse
    rwa [List.reverse_reverse] at this
  intro ms
  induction ms with
  | nil => exact ⟨[], SortedBy.nil⟩
  | cons y ms ih =>
    obtain ⟨zs, h⟩ := ih
    rw [List.reverse_cons]
    have key : ∀ k, k ≤ zs.length → (∀ (j : Nat) z, j < k → zs[j]? = some z → r z < r y) → ∃ zs', SortedBy r (ms.reverse ++ [y]) zs' := by
      intro k hk
      generalize hq : zs.length - k = q
      induction q generalizing k with
      | zero =>
        intro hlt
        exact ⟨_, h.put hk hlt fun z hz => by rw [List.getElem?_eq_none (by omega)] at hz; cases hz⟩
      | succ q ih =>
        intro hlt
        have hkl : k < zs.length := by omega
        have hz : zs[k]? = some zs[k] := List.getElem?_eq_getElem hkl
        rcases Nat.lt_trichotomy (r zs[k]) (r y) with h1 | h1 | h1
        · exact ih (k + 1) (by omega) (by omega) fun j z hj hjz => by
            by_cases hjk : j = k
            · subst hjk; rw [hz] at hjz; cases hjz; exact h1
            · exact hlt j z (by omega) hjz
        · exact ⟨_, h.hit hkl h1⟩
        · exact ⟨_, h.put hk hlt fun z hz' => by rw [hz] at hz'; cases hz'; omega⟩
    exact key 0 (Nat.zero_le _) fun j z hj => by omega
theorem basesEx {l : List Md} (hg : goodT l) {x : Nat} (hx : x < l.length) : BasesOk l x (basesOf l x) := by
  cases hu : isU (mdAt l x)
  · exact (⟨fun h => (by rw [hu] at h; cases h), fun _ => rfl⟩ : BasesOk l x [x]).ok
  · obtain ⟨O, _, h2⟩ := basesSome l hg x hx
    obtain ⟨zs, h3⟩ := SortedBy.ex (RR l) O
    exact (⟨fun _ => ⟨O, fun j => by rw [h2]; unfold IsBase; rw [if_pos hu], h3⟩, fun h => by rw [hu] at h; cases h⟩ : BasesOk l x zs).ok
theorem basesOf_sub {l : List Md} (hg : goodT l) {x z : Nat} (hx : x < l.length) (hz : z ∈ basesOf l x) : IsBase l x z := by
  have h := basesEx hg hx
  unfold IsBase
  cases hu : isU (mdAt l x)
  · rw [h.el hu, List.mem_singleton] at hz
    rw [if_neg (by simp)]; exact hz
  · obtain ⟨O, h1, h2⟩ := h.un hu
    rw [if_pos rfl]
    exact (h1 z).1 (h2.sub z hz)
theorem basesOf_cov {l : List Md} (hg : goodT l) {x j : Nat} (hx : x < l.length) (hj : IsBase l x j) : ∃ z ∈ basesOf l x, RR l z = RR l j := by
  have h := basesEx hg hx
  unfold IsBase at hj
  cases hu : isU (mdAt l x)
  · rw [hu, if_neg (by simp)] at hj
    exact ⟨x, by rw [h.el hu]; simp, by rw [hj]⟩
  · rw [hu, if_pos rfl] at hj
    obtain ⟨O, h1, h2⟩ := h.un hu
    obtain ⟨z, h3, h4, _⟩ := h2.cov j ((h1 j).2 hj)
    exact ⟨z, h3, h4⟩
def hasRR (l : List Md) (x v : Nat) : Prop := ∃ j, IsBase l x j ∧ RR l j = RR l v
theorem atI_basesOf {l : List Md} (hg : goodT l) {x v : Nat} (hx : x < l.length) : 0 ≤ atI (RR l) (basesOf l x) v ↔ hasRR l x v := by
  rw [atI_nonneg]
  constructor
  · rintro ⟨z, h1, h2⟩; exact ⟨z, basesOf_sub hg hx h1, h2⟩
  · rintro ⟨j, h1, h2⟩
    obtain ⟨z, h3, h4⟩ := basesOf_cov hg hx h1
    exact ⟨z, h3, by rw [h4, h2]⟩
theorem SameOrd.eq {n : Nat} {r r' : Nat → Nat} (h : SameOrd n r r') {a b : Nat} (ha : a < n) (hb : b < n) : r a = r b ↔ r' a = r' b := by
  have h1 := h a b ha hb
  have h2 := h b a hb ha
  omega
open Classical in
theorem hasD_hasB {l : List Md} (hg : goodT l) {r : Nat → Nat} (h : SameOrd l.length r (RR l)) {u v : Nat} (hu : u < l.length) (hv : v < l.length) : hasD l r u v = hasB l u v := by
  unfold hasD hasB
  rw [Bool.eq_iff_iff, Bool.and_eq_true, Bool.and_eq_true, decide_eq_true_iff, decide_eq_true_iff, atI_basesOf hg hu]
  refine and_congr_right fun _ => ?_
  constructor
  · rintro ⟨j, h1, h2⟩; exact ⟨j, h1, (h.eq (h1.lt hg hu) hv).1 h2⟩
  · rintro ⟨j, h1, h2⟩; exact ⟨j, h1, (h.eq (h1.lt hg hu) hv).2 h2⟩
theorem SortedBy.congrO {r r' : Nat → Nat} {ms zs : List Nat} {n : Nat} (hn : ∀ x ∈ ms, x < n) (hr : SameOrd n r r') (h : SortedBy r ms zs) : SortedBy r' ms zs := by
  refine ⟨?_, h.sub, fun y hy => ?_⟩
  · exact List.Pairwise.imp_of_mem (fun {a b} ha hb hab => (hr a b (hn a (h.sub a ha)) (hn b (h.sub b hb))).1 hab) h.asc
  · obtain ⟨z, h1, h2, h3⟩ := h.cov y hy
    exact ⟨z, h1, (hr.eq (hn z (h.sub z h1)) (hn y hy)).1 h2, h3⟩
theorem once_eq {l : List Md} (hg : goodT l) {r : Nat → Nat} (h : SameOrd l.length r (RR l)) {x : Nat} (hx : x < l.length) (hu : isU (mdAt l x) = true) {O zs : List Nat} (hO : ∀ j, j ∈ O ↔ IsBase l x j) (hs : SortedBy r O zs) : zs = basesOf l x := by
  refine BasesOk.eq ⟨fun _ => ⟨O, fun j => ?_, hs.congrO (n := l.length) (fun x' hx' => ((hO x').1 hx').lt hg hx) h⟩, fun h' => by rw [hu] at h'; cases h'⟩
  rw [hO]; unfold IsBase; rw [if_pos hu]
theorem atI_congrO {r r' : Nat → Nat} {zs : List Nat} {x n : Nat} (h : SameOrd n r r') (hz : ∀ z ∈ zs, z < n) (hx : x < n) : atI r zs x = atI r' zs x := by
  unfold atI
  refine fidx_congr _ _ fun j _ hj => ?_
  cases hjz : zs[j]? with
  | none => rfl
  | some z =>
    simp only [Option.any_some]
    rw [Bool.eq_iff_iff, beq_iff_eq, beq_iff_eq]
    exact h.eq (hz z (List.mem_of_getElem? hjz)) hx
end Go.Proofs.YtheadodblifklaaGreat

namespace Go.Proofs.YtheadodblifklaaGreat
open Go Ax
theorem firstC_kind {x y : Md} (h : firstC x y = 0) : x.kind = y.kind := by
  rw [firstC_eq] at h
  unfold thenC at h
  split at h
  · rename_i h1; exact absurd h h1
  · rename_i h1
    have h1 : pullC Md.kind x y = 0 := by simpa using h1
    exact cmpI_zero.1 h1
theorem R_eq_down {l : List Md} {a b : Nat} (ha : a < l.length) (hb : b < l.length) {d : Nat} : ∀ e, R l (d + e) a = R l (d + e) b → R l d a = R l d b
  | 0, h => h
  | e + 1, h => by
    refine R_eq_down ha hb e ?_
    rcases Nat.lt_trichotomy (R l (d + e) a) (R l (d + e) b) with h1 | h1 | h1
    · have := R_refine l (d + e) ha h1; rw [← Nat.add_assoc] at h; omega
    · exact h1
    · have := R_refine l (d + e) hb h1; rw [← Nat.add_assoc] at h; omega
theorem R_eq_cmp {l : List Md} {a b d : Nat} (ha : a < l.length) (hb : b < l.length) (h : R l (d + 1) a = R l (d + 1) b) : cmpR l (R l d) d a b = 0 := by
  have h1 := R_lt l d (b := b) ha
  have h2 := R_lt l d (b := a) hb
  have h3 := (cmpR_ord l (R l d) d).anti a b trivial trivial
  have h4 := (cmpR_ord l (R l d) d).anti b a trivial trivial
  omega
theorem RR_kind {l : List Md} {a b : Nat} (ha : a < l.length) (hb : b < l.length) (h : RR l a = RR l b) : (mdAt l a).kind = (mdAt l b).kind := by
  have h1 : R l (1 + l.length) a = R l (1 + l.length) b := by rw [Nat.add_comm]; exact h
  have h2 := R_eq_cmp (d := 0) ha hb (R_eq_down ha hb l.length h1)
  unfold cmpR thenC at h2
  have h0 : cmpI (R l 0 a : Nat) (R l 0 b : Nat) = 0 := cmpI_zero.2 rfl
  simp [h0] at h2
  exact firstC_kind h2
def led (f : Nat → Nat) (a : Nat) : Bool := (List.range a).all fun b => f b != f a
theorem led_iff {f : Nat → Nat} {a : Nat} : led f a = true ↔ ∀ b, b < a → f b ≠ f a := by
  simp [led, List.all_eq_true]
theorem leader {f : Nat → Nat} : ∀ (a : Nat), ∃ e, e ≤ a ∧ f e = f a ∧ led f e = true := by
  intro a
  induction a using Nat.strongRecOn with
  | ind a ih =>
    by_cases h : led f a = true
    · exact ⟨a, Nat.le_refl _, rfl, h⟩
    · have : ∃ b, b < a ∧ f b = f a := by
        by_cases hx : ∃ b, b < a ∧ f b = f a
        · exact hx
        · exact absurd (led_iff.2 fun b hb he => hx ⟨b, hb, he⟩) h
      obtain ⟨b, h1, h2⟩ := this
      obtain ⟨e, h3, h4, h5⟩ := ih b h1
      exact ⟨e, by omega, by rw [h4, h2], h5⟩
theorem lead_grow {l : List Md} {d : Nat} (hs : ¬ SameOrd l.length (R l (d + 1)) (R l d)) : (List.range l.length).countP (led (R l d)) < (List.range l.length).countP (led (R l (d + 1))) := by
  have down : ∀ a b, a < l.length → b < l.length → R l (d + 1) a = R l (d + 1) b → R l d a = R l d b := fun a b ha hb h => R_eq_down (d := d) ha hb 1 h
  have hmono : ∀ a ∈ List.range l.length, led (R l d) a = true → led (R l (d + 1)) a = true := fun a ha h => by
    have ha := List.mem_range.1 ha
    exact led_iff.2 fun b hb he => led_iff.1 h b hb (down b a (by omega) ha he)
  -- two of one class that part
  have : ∃ a b, a < l.length ∧ b < l.length ∧ R l d a = R l d b ∧ R l (d + 1) a ≠ R l (d + 1) b := by
    by_cases hx : ∃ a b, a < l.length ∧ b < l.length ∧ R l d a = R l d b ∧ R l (d + 1) a ≠ R l (d + 1) b
    · exact hx
    · refine absurd ?_ hs
      intro a b ha hb
      constructor
      · intro h
        rcases Nat.lt_trichotomy (R l d a) (R l d b) with h1 | h1 | h1
        · exact h1
        · exact absurd ⟨a, b, ha, hb, h1, by omega⟩ hx
        · have := R_refine l d hb h1; omega
      · intro h; exact R_refine l d ha h
  obtain ⟨a, b, ha, hb, he, hne⟩ := this
  obtain ⟨e, h1, h2, h3⟩ := leader (f := R l d) a
  have : ∃ x, x < l.length ∧ R l d x = R l d e ∧ R l (d + 1) x ≠ R l (d + 1) e := by
    by_cases h : R l (d + 1) a = R l (d + 1) e
    · exact ⟨b, hb, by omega, by omega⟩
    · exact ⟨a, ha, h2.symm, h⟩
  obtain ⟨x, hx, hxe, hxn⟩ := this
  obtain ⟨y, h4, h5, h6⟩ := leader (f := R l (d + 1)) x
  have hye : R l d y = R l d e := by rw [down y x (by omega) hx h5, hxe]
  have hyne : y ≠ e := fun h => hxn (by rw [← h5, h])
  refine countP_lt (x := y) hmono (List.mem_range.2 (by omega)) ?_ h6
  cases hl : led (R l d) y with
  | false => rfl
  | true =>
    exfalso
    rcases Nat.lt_trichotomy y e with h | h | h
    · exact led_iff.1 h3 y h hye
    · exact hyne h
    · exact led_iff.1 hl e h hye.symm
theorem R_stab_ex {l : List Md} (hl : l ≠ []) : ∃ d, d ≠ 0 ∧ d ≤ l.length ∧ SameOrd l.length (R l (d + 1)) (R l d) := by
  have hpos : 0 < l.length := List.length_pos_iff.2 hl
  have key : ∀ d, (∃ d', d' ≠ 0 ∧ d' ≤ d ∧ SameOrd l.length (R l (d' + 1)) (R l d')) ∨ d + 1 ≤ (List.range l.length).countP (led (R l (d + 1))) := by
    intro d
    induction d with
    | zero =>
      right
      have : 0 < (List.range l.length).countP (led (R l (0 + 1))) := List.countP_pos_iff.2 ⟨0, List.mem_range.2 hpos, by simp [led]⟩
      omega
    | succ d ih =>
      rcases ih with ⟨d', h1, h2, h3⟩ | ih
      · exact .inl ⟨d', h1, by omega, h3⟩
      · by_cases hs : SameOrd l.length (R l (d + 1 + 1)) (R l (d + 1))
        · exact .inl ⟨d + 1, by omega, Nat.le_refl _, hs⟩
        · have := lead_grow hs; right; omega
  rcases key l.length with h | h
  · exact h
  · have : (List.range l.length).countP (led (R l (l.length + 1))) ≤ (List.range l.length).length := List.countP_le_length
    simp at this
    omega
theorem RR_stable {l : List Md} (hg : goodT l) : SameOrd l.length (R l (l.length + 2)) (RR l) := by
  by_cases hl : l = []
  · subst hl; intro a b ha; cases ha
  · obtain ⟨d, h1, h2, h3⟩ := R_stab_ex hl
    have hst := R_stable hg h1 h3
    intro a b ha hb
    have e1 : ∀ x, x < l.length → R l (l.length + 2) x = R l d x := fun x hx => by have := hst (l.length + 2 - d) x hx; rwa [show d + (l.length + 2 - d) = l.length + 2 by omega] at this
    have e2 : ∀ x, x < l.length → RR l x = R l d x := fun x hx => by have := hst (l.length + 1 - d) x hx; rwa [show d + (l.length + 1 - d) = l.length + 1 by omega] at this
    rw [e1 a ha, e1 b hb, e2 a ha, e2 b hb]
theorem lexC_zero : ∀ {xs ys : List Int}, lexC cmpI xs ys = 0 → xs = ys
  | [], [], _ => rfl
  | [], _ :: _, h => by simp [lexC] at h
  | _ :: _, [], h => by simp [lexC] at h
  | x :: xs, y :: ys, h => by
    simp only [lexC] at h
    split at h
    · rename_i h1; exact absurd h h1
    · rename_i h1
      have h1 : cmpI x y = 0 := by simpa using h1
      rw [cmpI_zero.1 h1, lexC_zero h]
theorem RR_key {l : List Md} (hg : goodT l) {a b : Nat} (ha : a < l.length) (hb : b < l.length) (h : RR l a = RR l b) : keyOf l (RR l) a = keyOf l (RR l) b := by
  have h2 : R l (l.length + 1 + 1) a = R l (l.length + 1 + 1) b := ((RR_stable hg).eq ha hb).2 h
  have h3 := R_eq_cmp ha hb h2
  unfold cmpR thenC at h3
  have h0 : cmpI (R l (l.length + 1) a : Nat) (R l (l.length + 1) b : Nat) = 0 := cmpI_zero.2 (by have : R l (l.length + 1) a = R l (l.length + 1) b := h; rw [this])
  simp [h0] at h3
  exact lexC_zero h3
end Go.Proofs.YtheadodblifklaaGreat

namespace Go.Proofs.YtheadodblifklaaGreat
open Go Ax
set_option maxRecDepth 100000
theorem dense_same {l : List Md} {ds : List Nat} {k : Nat} (hD : DenseOf l.length (fun a b => RR l a < RR l b) ds k) : SameOrd l.length (fun a => ds.getD a 0) (RR l) := hD.sameOrd
theorem tabBox (m : AMem) (s ro : AVal) (h0 : s.one = true) (h1 : ro.one = true) : storeE (m ++ [.own [.nilslice, .nilslice] 53 none]) 2 (.ptr m.length 0) (.agg [s, ro]) = some (.undef, m ++ [.own [s, ro] 53 none]) :=
  store_new m [.nilslice, .nilslice] [s, ro] 53 none 2 rfl rfl (by simp only [List.all_cons, List.all_nil, h0, h1]; rfl)
set_option maxHeartbeats 2000000 in
theorem k12 (s : AVal) (l : List Md) (u v : Int) (m : AMem) (hs : RTab m s l) (hsz : ∀ x ∈ l, smallN x) (hnm : ∀ x ∈ l, x.names.length < 2 ^ 40) (hn : l.length ≤ 13) :
    ACalls Tryz.prog 12 [s, .int .i64 u, .int .i64 v] m fun w m' => w = hasV l u v ∧ m <+: m' := by
  refine w12 ?_
  obtain ⟨hsl, hsc⟩ := hs.self
  simp [fillA, setN]
  have hA := two_ints m u v
  have hm1 : m <+: m ++ [.own [.int .i64 u, .int .i64 v] 3 none] := List.prefix_append _ _
  generalize AVal.slice m.length 0 2 2 none = t1 at *
  generalize m ++ [.own [.int .i64 u, .int .i64 v] 3 none] = m1 at *
  refine C_of (k35 s t1 l [u, v] m1 (hs.mono hm1) hA.ints hsz hnm hn (by simp)) ?_
  rintro _ m2 ⟨hm2, ⟨hr, rfl⟩ | ⟨hr, ro, ds, k, rfl, hX, hD⟩⟩
  · simp
    rw [tabBox _ _ _ rfl rfl]
    have hm3 : m2 <+: m2 ++ [.own [.nilslice, .nilslice] 53 none] := List.prefix_append _ _
    generalize m2 ++ [.own [.nilslice, .nilslice] 53 none] = m3 at *
    simp [beqF hr, hasV, hr]
    exact (hm1.trans hm2).trans hm3
  obtain ⟨hc, a, b, rfl, rfl, ha, hb⟩ := right2 hr
  have ok := okT_of hc
  have hrs := (Ow.sl hX).self
  simp
  rw [tabBox _ _ _ hsl hrs.1]
  have hb8 := readB_new m2 [s, ro] 53 none
  have hm3 : m2 <+: m2 ++ [.own [s, ro] 53 none] := List.prefix_append _ _
  generalize m2 ++ [.own [s, ro] 53 none] = m3 at *
  generalize m2.length = b8 at *
  have hm03 := (hm1.trans hm2).trans hm3
  simp [bxW hb8, readN]
  refine C_of (k36 s ro l ds a b m3 (hs.mono hm03) ((ints_of_nat hX).mono hm3) hD.len ok.good ok.len ok.h64 ha hb) ?_
  rintro _ m4 ⟨rfl, hm4⟩
  rw [hasD_hasB ok.good (dense_same hD) ha hb]
  simp [hasV, hr]
  exact hm03.trans hm4
theorem fidx_nat {r : Nat → Nat} {zs : List Nat} {x : Nat} : fidx (fun i => ((zs.map fun z : Nat => (z : Int))[i]?).any fun z => r z.toNat == r x) 0 (zs.map fun z : Nat => (z : Int)).length = atI r zs x := by
  unfold atI
  rw [List.length_map]
  refine fidx_congr _ _ fun j _ _ => ?_
  rw [List.getElem?_map]
  cases zs[j]? <;> rfl
set_option maxHeartbeats 4000000 in
theorem k14 (s : AVal) (l : List Md) (u v : Int) (m : AMem) (hs : RTab m s l) (hsz : ∀ x ∈ l, smallN x) (hnm : ∀ x ∈ l, x.names.length < 2 ^ 40) (hn : l.length ≤ 13) :
    ACalls Tryz.prog 14 [s, .int .i64 u, .int .i64 v] m fun w m' => w = idxV l u v ∧ m <+: m' := by
  refine w14 ?_
  obtain ⟨hsl, hsc⟩ := hs.self
  simp
  have hb5 := readB_new m [.int .i64 v] 3 none
  have hm0 : m <+: m ++ [.own [.int .i64 v] 3 none] := List.prefix_append _ _
  generalize m ++ [.own [.int .i64 v] 3 none] = m0 at *
  generalize m.length = b5 at *
  simp [bx hb5, fillA, setN]
  have hA := two_ints m0 u v
  have hm1 : m0 <+: m0 ++ [.own [.int .i64 u, .int .i64 v] 3 none] := List.prefix_append _ _
  generalize AVal.slice m0.length 0 2 2 none = t1 at *
  generalize m0 ++ [.own [.int .i64 u, .int .i64 v] 3 none] = m1 at *
  have hm01 := hm0.trans hm1
  generalize hI : idxV l u v = I
  unfold idxV at hI
  refine C_of (k35 s t1 l [u, v] m1 (hs.mono hm01) hA.ints hsz hnm hn (by simp)) ?_
  rintro _ m2 ⟨hm2, ⟨hr, rfl⟩ | ⟨hr, ro, ds, k, rfl, hX, hD⟩⟩
  · rw [if_pos hr] at hI
    simp
    rw [tabBox _ _ _ rfl rfl]
    have hm3 : m2 <+: m2 ++ [.own [.nilslice, .nilslice] 53 none] := List.prefix_append _ _
    generalize m2 ++ [.own [.nilslice, .nilslice] 53 none] = m3 at *
    simp [bneT hr]
    exact ⟨hI, (hm01.trans hm2).trans hm3⟩
  rw [if_neg (by simp [hr])] at hI
  obtain ⟨hc, a, b, rfl, rfl, ha, hb⟩ := right2 hr
  have ok := okT_of hc
  have hrs := (Ow.sl hX).self
  simp at hI
  simp
  rw [tabBox _ _ _ hsl hrs.1]
  have hb8 := readB_new m2 [s, ro] 53 none
  have hm3 : m2 <+: m2 ++ [.own [s, ro] 53 none] := List.prefix_append _ _
  generalize m2 ++ [.own [s, ro] 53 none] = m3 at *
  generalize m2.length = b8 at *
  have hm03 := (hm01.trans hm2).trans hm3
  have hb53 := readB_mono ((hm1.trans hm2).trans hm3) hb5
  have hRo := (ints_of_nat hX).mono hm3
  simp [bxW hb8, readN]
  refine C_of (k41 s ro l a m3 (hs.mono hm03) hrs ha) ?_
  rintro _ m4 ⟨rfl, hm4⟩
  simp
  have hm04 := hm03.trans hm4
  cases hu : isU (mdAt l a)
  · rw [if_pos hu] at hI
    simp
    exact ⟨hI, hm04⟩
  rw [if_neg (by rw [hu]; simp)] at hI
  have hb84 := readB_mono hm4 hb8
  simp
  refine W_draw (fun _ _ _ => True) (by simp [maxDst]) ?_
  refine D_pc 0 3 [5, 3, 4, 6, 7] ?_
  simp [bxW hb84, readN]
  intro _ _
  refine D_P rfl trivial ?_
  simp
  refine D_X rfl rfl fun m5 hm5 _ => ?_
  simp
  have hm05 := hm04.trans hm5
  refine C_of (k44n s ro l a ha m5 (hs.mono hm05) hrs ok.good ok.len ok.h64) ?_
  rintro v6 m6 ⟨hm6, O, hO, hOn, hOm⟩
  have hb86 := readB_mono (hm5.trans hm6) hb84
  refine ⟨by simp [lateOf, ROp.ev, hb86, readN], ?_⟩
  refine D_X rfl rfl fun m7 hm7 _ => ?_
  simp
  have hm07 := (hm05.trans hm6).trans hm7
  have hR7 := hRo.mono (((hm4.trans hm5).trans hm6).trans hm7)
  have hOb : IsBases l a O := ⟨hOn, hOm⟩
  refine C_of (k43 s ro v6 l ds O m7 (hs.mono hm07) hR7 ((ints_of_nat hO).mono hm7) hOn (by have := hOb.length ok.good ha; omega) (fun z hz => by rw [hD.len]; exact hOb.lt ok.good ha z hz)) ?_
  rintro v8 m8 ⟨hm8, zs, hZ, hsb⟩
  refine ⟨by simp [lateOf], ?_⟩
  have hzs := once_eq ok.good (dense_same hD) ha hu hOm hsb
  refine D_X rfl rfl fun m9 hm9 _ => ?_
  simp
  have hm59 := (((hm5.trans hm6).trans hm7).trans hm8).trans hm9
  have hzl : ∀ z ∈ zs, z < l.length := fun z hz => hOb.lt ok.good ha z (hsb.sub z hz)
  refine C_of (k42 v8 (zs.map fun z : Nat => (z : Int)) (fun z => ds.getD z.toNat 0 == ds.getD b 0) m9 ((ints_of_nat hZ).mono hm9) ?_ 45 [] [.ptr b8 0, .ptr b5 0] ?_) ?_
  · have := nodup_le l.length zs (hsb.asc.imp fun hab => by intro e; subst e; omega) hzl
    simp; omega
  · intro z hz m' hm'
    obtain ⟨z, hz', rfl⟩ := List.mem_map.1 hz
    exact k45 s ro ds b z b8 b5 m' (hRo.mono ((hm4.trans hm59).trans hm')) (by rw [hD.len]; exact hb) (by rw [hD.len]; exact hzl z hz') (readB_mono (hm59.trans hm') hb84) (readB_mono ((hm4.trans hm59).trans hm') hb53)
  rintro _ m10 ⟨rfl, hm10⟩
  refine ⟨by simp [lateOf], ?_⟩
  rw [fidx_nat (r := fun a => ds.getD a 0), atI_congrO (dense_same hD) hzl hb, hzs]
  refine D_P rfl trivial ?_
  simp
  refine D_end fun m11 hm11 _ => ?_
  have hm011 := ((hm04.trans hm59).trans hm10).trans hm11
  by_cases hi : atI (RR l) (basesOf l a) b < 0
  · rw [if_pos hi] at hI
    simp [hi]
    exact ⟨hI, hm011⟩
  · rw [if_neg hi] at hI
    simp [hi]
    exact ⟨hI, hm011⟩
open Classical in
theorem any_hasRR {l : List Md} (hg : goodT l) {r : Nat → Nat} (h : SameOrd l.length r (RR l)) {O : List Nat} {x v : Nat} (hx : x < l.length) (hv : v < l.length) (hO : ∀ j, j ∈ O ↔ IsBase l x j) : (O.any fun z => r z == r v) = decide (hasRR l x v) := by
  rw [Bool.eq_iff_iff, List.any_eq_true, decide_eq_true_iff]
  constructor
  · rintro ⟨z, h1, h2⟩
    have h3 := (hO z).1 h1
    exact ⟨z, h3, (h.eq (h3.lt hg hx) hv).1 (by simpa using h2)⟩
  · rintro ⟨z, h1, h2⟩
    exact ⟨z, (hO z).2 h1, by simpa using (h.eq (h1.lt hg hx) hv).2 h2⟩
end Go.Proofs.YtheadodblifklaaGreat

namespace Go.Proofs.YtheadodblifklaaGreat
open Go Ax
set_option maxRecDepth 100000
theorem fidx_first {p : Nat → Bool} : ∀ (n i : Nat), (fidx p i n = -1 ∧ ∀ k, i ≤ k → k < i + n → p k = false) ∨ ∃ j, i ≤ j ∧ j < i + n ∧ fidx p i n = (j : Int) ∧ p j = true ∧ ∀ k, i ≤ k → k < j → p k = false
  | 0, i => .inl ⟨rfl, fun k h1 h2 => by omega⟩
  | n + 1, i => by
    rw [fidx]
    split
    · rename_i hp; exact .inr ⟨i, Nat.le_refl _, by omega, rfl, hp, fun k h1 h2 => by omega⟩
    · rename_i hp
      have hp : p i = false := by simpa using hp
      rcases fidx_first (p := p) n (i + 1) with ⟨h1, h2⟩ | ⟨j, h1, h2, h3, h4, h5⟩
      · refine .inl ⟨h1, fun k k1 k2 => ?_⟩
        by_cases hk : k = i
        · subst hk; exact hp
        · exact h2 k (by omega) (by omega)
      · refine .inr ⟨j, by omega, by omega, h3, h4, fun k k1 k2 => ?_⟩
        by_cases hk : k = i
        · subst hk; exact hp
        · exact h5 k (by omega) k2
set_option maxHeartbeats 4000000 in
theorem k53 (t : AVal) (ty : TypeId) (lo : Nat) (m0 : AMem) (hlo : m0.length ≤ lo) (g : FuncId) (fs cs : List AVal) (p : Int → Bool) (ys : List Int) (hp : ∀ a ∈ ys, ∀ m', m0 <+: m' → ACalls Tryz.prog g (fs ++ [.int .i64 a] ++ cs) m' fun v m'' => v = .bool (p a) ∧ m' <+: m'') (hn : ys.length < 2 ^ 62) (m : AMem) (hm : m0 <+: m) (hX : OwL (AVal.int .i64) lo m ty t ys) :
    ACalls Tryz.prog 53 [t, .func (.func g) fs cs] m fun v m' => m0 <+: m' ∧ Ch (fun b => t.blk = some b) m m' ∧ OwL (AVal.int .i64) lo m' ty v (ys.filter fun a => !p a) ∧ v.blk = t.blk := by
  refine w53 ?_
  simp
  refine C_of (k42 t ys p m hX.ints hn g fs cs fun x hx m' hm' => hp x hx m' (hm.trans hm')) ?_
  rintro _ m1 ⟨rfl, hm1⟩
  replace hX := hX.mono hm1
  have hch : Ch (fun b => t.blk = some b) m m1 := .of_prefix hm1
  replace hm := hm.trans hm1
  clear hm1
  rcases fidx_first (p := fun i => (ys[i]?).any p) ys.length 0 with ⟨h1, h2⟩ | ⟨j, _, hj, h1, h2, h3⟩
  · have : (ys.filter fun a => !p a) = ys := by
      rw [List.filter_eq_self]
      intro a ha
      obtain ⟨i, hi, rfl⟩ := List.getElem_of_mem ha
      have := h2 i (by omega) (by omega)
      simpa [hi] using this
    simp [h1, hm, this, hX, hch]
  · rw [Nat.zero_add] at hj
    have hne : ((j : Int) == -1) = false := by simp
    have hw0 := step64 hj hn
    simp [h1, hne, hw0]
    obtain ⟨I, hI⟩ : ∃ I : Nat → AFrame → AMem → Prop, ∀ q a m', I q a m' ↔ (∃ (z k : Nat) (zs : List Int), k + q = ys.length ∧ z < k ∧ a = h53_0 t (.func (.func g) fs cs) (.int .i64 z) (.int .i64 k) ∧ m0 <+: m' ∧ Ch (fun b => t.blk = some b) m m' ∧ OwL (AVal.int .i64) lo m' ty t zs ∧ zs.length = ys.length ∧ (∀ i, k ≤ i → zs[i]? = ys[i]?) ∧ zs.take z = (ys.take k).filter fun a => !p a) := ⟨_, fun _ _ _ => Iff.rfl⟩
    have hf0 : ys.take j = (ys.take (j + 1)).filter fun a => !p a := by
      have e1 : ((ys.take j).filter fun a => !p a) = ys.take j := by
        rw [List.filter_eq_self]
        intro a ha
        obtain ⟨i, hi, rfl⟩ := List.getElem_of_mem ha
        rw [List.length_take] at hi
        have := h3 i (by omega) (by omega)
        simp only [List.getElem_take]
        rw [List.getElem?_eq_getElem (by omega)] at this
        simpa using this
      rw [List.take_add_one, List.filter_append, e1, List.getElem?_eq_getElem hj]
      have : p ys[j] = true := by simpa [hj] using h2
      simp [this]
    refine W_loop I (ys.length - (j + 1)) ((hI _ _ _).2 ⟨j, j + 1, ys, by omega, by omega, by simp, hm, hch, hX, rfl, fun _ _ => rfl, hf0⟩) ?_
    clear hX hm hch
    rintro q a m3 hIn
    obtain ⟨z, k, zs, hkq, hzk, rfl, hm, hch, hZ, hzl, hze, hzt⟩ := (hI _ _ _).1 hIn
    clear hIn
    simp [hZ.len, hzl]
    refine bbind_dec (fun hkl => ?_) fun hkl => ?_
    · have hkl : k < ys.length := by omega
      obtain ⟨q, rfl⟩ : ∃ q', q = q' + 1 := ⟨q - 1, by omega⟩
      have hw := step64 hkl hn
      obtain ⟨b1, o1, _, hp1, hl1, _⟩ := hZ.at (i := k) (by omega)
      have v1 : zs[k]'(by omega) = ys[k]'(by omega) := by
        have := hze k (by omega)
        rw [List.getElem?_eq_getElem (by omega), List.getElem?_eq_getElem (by omega)] at this
        simpa using this
      rw [v1] at hl1
      simp [hp1, hl1]
      have hcall := hp _ (List.getElem_mem hkl) m3 hm
      simp at hcall
      refine C_of hcall ?_
      rintro _ m4 ⟨rfl, hm4⟩
      replace hm := hm.trans hm4
      replace hch := hch.trans (.of_prefix hm4)
      replace hZ := hZ.mono hm4
      have ht : (ys.take (k + 1)).filter (fun a => !p a) = (ys.take k).filter (fun a => !p a) ++ (if p ys[k] = true then [] else [ys[k]]) := by
        rw [List.take_add_one, List.filter_append, List.getElem?_eq_getElem hkl]
        cases h : p ys[k] <;> simp [h]
      cases hpk : p ys[k]
      · have hwz := step64 (k := z) (n := ys.length) (by omega) hn
        obtain ⟨bz, oz, hbz, hpz, _, hstz⟩ := hZ.at (i := z) (by omega)
        obtain ⟨m5, hst, hch5, hZ5⟩ := hstz (ys[k])
        simp [hpk, hpz, hst, hwz, hw]
        rw [hpk] at ht
        simp only [Bool.false_eq_true, if_false] at ht
        refine ⟨q, by omega, (hI _ _ _).2 ⟨z + 1, k + 1, zs.set z ys[k], by omega, by omega, by simp, hch5.pre hm fun b hb hbb => ?_, hch.trans (hch5.weaken fun b _ hb => by rw [hb]; exact hbz), hZ5, by simpa using hzl, fun i hi => ?_, ?_⟩⟩
        · have := (hZ.blk_lo hbz).1; omega
        · rw [List.getElem?_set_ne (by omega)]; exact hze i (by omega)
        · rw [ht, ← hzt, List.take_add_one, List.getElem?_set_self (by omega)]
          simp [List.take_set]
          exact List.set_eq_of_length_le (by simp; omega)
      · rw [hpk] at ht
        simp only [if_true, List.append_nil] at ht
        simp [hpk, hw]
        exact ⟨q, by omega, (hI _ _ _).2 ⟨z, k + 1, zs, by omega, by omega, by simp, hm, hch, hZ, hzl, fun i hi => hze i (by omega), by rw [ht]; exact hzt⟩⟩
    · have hkl : k = ys.length := by omega
      subst hkl
      obtain ⟨s3, m4, hs3, hcl, hch4, hZ4⟩ := hZ.clear (i := z) (by omega) 0
      obtain ⟨s4, hs4, hZ5, hbl⟩ := hZ4.take (i := z) (by simp; omega)
      simp [hs3, hcl, hs4]
      rw [List.take_append_of_le_length (by simp; omega), List.take_take, Nat.min_self, hzt, List.take_length] at hZ5
      exact ⟨hch4.pre hm fun b hb hbb => by have := (hZ.blk_lo hbb).1; omega, hch.trans hch4, hZ5, hbl⟩
end Go.Proofs.YtheadodblifklaaGreat

namespace Go.Proofs.YtheadodblifklaaGreat
open Go Ax
set_option maxRecDepth 100000
abbrev chunk (cs : List AVal) (i : Nat) : List AVal := (cs.drop (i * 6)).take 6
def OwB (m0 : AMem) (lo : Nat) (m : AMem) (s : AVal) (l : List Md) : Prop := ∃ cs, Ow lo m 6 49 s l.length cs ∧ ∀ (i : Nat) x, l[i]? = some x → RMode m0 (chunk cs i) x
def OwT (lo : Nat) (m : AMem) (s : AVal) (l : List Md) : Prop := ∃ cs, Ow lo m 6 49 s l.length cs ∧ ∀ (i : Nat) x, l[i]? = some x → ∀ m', Ch (fun b => s.blk = some b) m m' → RMode m' (chunk cs i) x
theorem OwT.tab {lo : Nat} {m : AMem} {s : AVal} {l : List Md} (h : OwT lo m s l) : RTab m s l := by
  obtain ⟨cs, h1, h2⟩ := h
  exact ⟨cs, h1.sl, fun i x hx => h2 i x hx m (.refl _ _)⟩
theorem OwT.mono {lo : Nat} {m m' : AMem} {s : AVal} {l : List Md} (h : OwT lo m s l) (hm : m <+: m') : OwT lo m' s l := by
  obtain ⟨cs, h1, h2⟩ := h
  exact ⟨cs, h1.mono hm, fun i x hx m'' hc => h2 i x hx m'' ((Ch.of_prefix hm).trans hc)⟩
theorem OwB.mono {lo : Nat} {m0 m m' : AMem} {s : AVal} {l : List Md} (h : OwB m0 lo m s l) (hm : m <+: m') : OwB m0 lo m' s l := by
  obtain ⟨cs, h1, h2⟩ := h
  exact ⟨cs, h1.mono hm, h2⟩
theorem OwB.tab {lo : Nat} {m0 m : AMem} {s : AVal} {l : List Md} (h : OwB m0 lo m s l) (hm : m0 <+: m) : RTab m s l := by
  obtain ⟨cs, h1, h2⟩ := h
  exact ⟨cs, h1.sl, fun i x hx => (h2 i x hx).mono hm⟩
theorem OwB.ch {S : Nat → Prop} {lo : Nat} {m0 m m' : AMem} {s : AVal} {l : List Md} (h : OwB m0 lo m s l) (hc : Ch S m m') (hs : ∀ b, s.blk = some b → ¬ S b) : OwB m0 lo m' s l := by
  obtain ⟨cs, h1, h2⟩ := h
  exact ⟨cs, h1.ch hc hs, h2⟩
theorem OwB.blk_lo {lo : Nat} {m0 m : AMem} {s : AVal} {l : List Md} (h : OwB m0 lo m s l) {b : Nat} (hb : s.blk = some b) : lo ≤ b ∧ b < m.length := by
  obtain ⟨cs, h1, _⟩ := h
  exact h1.blk_lo hb
theorem OwT.blk_lo {lo : Nat} {m : AMem} {s : AVal} {l : List Md} (h : OwT lo m s l) {b : Nat} (hb : s.blk = some b) : lo ≤ b ∧ b < m.length := by
  obtain ⟨cs, h1, _⟩ := h
  exact h1.blk_lo hb
theorem chunk_append {cs c : List AVal} {n : Nat} (hl : cs.length = n * 6) {i : Nat} (hi : i < n) : chunk (cs ++ c) i = chunk cs i := by
  unfold chunk
  rw [List.drop_append_of_le_length (by omega), List.take_append_of_le_length (by simp; omega)]
theorem chunk_last {cs c : List AVal} {n : Nat} (hl : cs.length = n * 6) (hc : c.length = 6) : chunk (cs ++ c) n = c := by
  unfold chunk
  rw [List.drop_append, hl, Nat.sub_self, List.drop_eq_nil_of_le (by omega)]
  simp only [List.nil_append, List.drop_zero]
  exact List.take_of_length_le (by omega)
theorem push_get {l : List Md} {x y : Md} {i : Nat} (h : (l ++ [x])[i]? = some y) : (i < l.length ∧ l[i]? = some y) ∨ (i = l.length ∧ y = x) := by
  rcases Nat.lt_or_ge i l.length with hlt | hge
  · rw [List.getElem?_append_left hlt] at h; exact .inl ⟨hlt, h⟩
  · rw [List.getElem?_append_right hge] at h
    cases hk : i - l.length with
    | zero => rw [hk] at h; simp at h; exact .inr ⟨by omega, h.symm⟩
    | succ k => rw [hk] at h; simp at h
theorem OwB.push {m0 : AMem} {lo : Nat} {m : AMem} {s : AVal} {l : List Md} (h : OwB m0 lo m s l) (hlo : lo ≤ m.length) {c : List AVal} {x : Md} (hx : RMode m0 c x) (hn : l.length < 2 ^ 30) :
    ∃ s' m', appendE m 6 80 49 s 1 c = some (s', m') ∧ Ch (fun b => s.blk = some b) m m' ∧ OwB m0 lo m' s' (l ++ [x]) ∧ (∀ b, s'.blk = some b → s.blk = some b ∨ m.length ≤ b) := by
  obtain ⟨cs, h1, h2⟩ := h
  have hcl := hx.all
  have hl := h1.sl.length
  obtain ⟨s', m', e, hch, h3, h4⟩ := h1.append hlo (k := 1) (xs := c) (bytes := 80) (by omega) hcl.2 (by decide) (by omega)
  refine ⟨s', m', e, hch, ⟨cs ++ c, by simpa using h3, fun i y hy => ?_⟩, h4⟩
  rcases push_get hy with ⟨hi, hy⟩ | ⟨rfl, rfl⟩
  · rw [chunk_append hl hi]; exact h2 i y hy
  · rw [chunk_last hl hcl.1]; exact hx
theorem OwT.push {lo : Nat} {m : AMem} {s : AVal} {l : List Md} (h : OwT lo m s l) (hlo : lo ≤ m.length) {c : List AVal} {x : Md} (hx : ∀ m', Ch (fun b => s.blk = some b) m m' → RMode m' c x) (hn : l.length < 2 ^ 30) :
    ∃ s' m', appendE m 6 80 49 s 1 c = some (s', m') ∧ Ch (fun b => s.blk = some b) m m' ∧ OwT lo m' s' (l ++ [x]) ∧ (∀ b, s'.blk = some b → s.blk = some b ∨ m.length ≤ b) := by
  obtain ⟨cs, h1, h2⟩ := h
  have hcl := (hx m (.refl _ _)).all
  have hl := h1.sl.length
  obtain ⟨s', m', e, hch, h3, h4⟩ := h1.append hlo (k := 1) (xs := c) (bytes := 80) (by omega) hcl.2 (by decide) (by omega)
  refine ⟨s', m', e, hch, ⟨cs ++ c, by simpa using h3, fun i y hy m2 hc2 => ?_⟩, h4⟩
  have hcc : Ch (fun b => s.blk = some b) m m2 := by
    have a1 : Ch (fun b => s.blk = some b ∨ m.length ≤ b) m m' := hch.weaken fun b _ hb => .inl hb
    have a2 : Ch (fun b => s.blk = some b ∨ m.length ≤ b) m' m2 := hc2.weaken fun b _ hb => h4 b hb
    exact (a1.trans a2).weaken fun b hb h => by rcases h with h | h; exact h; omega
  rcases push_get hy with ⟨hi, hy⟩ | ⟨rfl, rfl⟩
  · rw [chunk_append hl hi]; exact h2 i y hy m2 hcc
  · rw [chunk_last hl hcl.1]; exact hx m2 hcc
theorem tab_all {m : AMem} {cs : List AVal} {l : List Md} (hl : cs.length = l.length * 6) (h : ∀ (i : Nat) x, l[i]? = some x → RMode m (chunk cs i) x) : cs.all AVal.one = true := by
  rw [List.all_eq_true]
  intro y hy
  obtain ⟨i, hi, rfl⟩ := List.getElem_of_mem hy
  have hq : i / 6 < l.length := by omega
  have := (h (i / 6) l[i / 6] (List.getElem?_eq_getElem hq)).all.2
  rw [List.all_eq_true] at this
  refine this _ ?_
  have hg : (chunk cs (i / 6))[i % 6]? = some cs[i] := by
    unfold chunk
    rw [List.getElem?_take, if_pos (by omega), List.getElem?_drop, List.getElem?_eq_getElem (by omega)]
    congr 2
    omega
  exact List.mem_of_getElem? hg
theorem k66 (s : AVal) (l : List Md) (m0 m : AMem) (hm0 : m0 <+: m) (hs : RTab m0 s l) (hn : l.length < 2 ^ 30) : ACalls Tryz.prog 66 [s] m fun v m' => m <+: m' ∧ OwB m0 m.length m' v l := by
  refine w66 ?_
  obtain ⟨cs, hsl, hmd⟩ := hs
  replace hsl := hsl.mono hm0
  have hcl := hsl.length
  have hall := tab_all hcl hmd
  have hsc := hsl.cells
  rcases hsl with ⟨rfl, hx, rfl⟩ | ⟨b, o, cap, gr, rfl, h1, h2⟩
  · have hx : l = [] := by simpa using hx
    subst hx
    simp
    exact ⟨[], .nil, by simp⟩
  · simp
    have hsl : Sl m 6 (.slice b o l.length cap gr) l.length cs := .inr ⟨b, o, cap, gr, rfl, h1, h2⟩
    have hN : Ow m.length (m ++ [.own [] 49 none]) 6 49 (.slice m.length 0 0 0 none) 0 [] := Ow.new (by simp) (by simp)
    have hm1 : m <+: m ++ [.own [] 49 none] := List.prefix_append _ _
    have hsc := (hsl.mono hm1).cells
    simp [fillA] at hsc ⊢
    generalize m ++ [.own [] 49 none] = m1 at *
    obtain ⟨t', m2, happ, hch, hO, hbl⟩ := hN.append (by have := hm1.length_le; omega) (k := l.length) (xs := cs) (bytes := 80) hcl hall (by decide) (by omega)
    simp [hsc, happ]
    rw [List.nil_append, Nat.zero_add] at hO
    exact ⟨hch.pre hm1 fun b hb h => (by simp [AVal.blk] at h; omega), cs, hO, hmd⟩
end Go.Proofs.YtheadodblifklaaGreat

namespace Go.Proofs.YtheadodblifklaaGreat
open Go Ax
set_option maxRecDepth 100000
set_option maxHeartbeats 4000000 in
theorem k138 (s : AVal) (c : List AVal) (l : List Md) (x : Md) (m : AMem) (hs : RTab m s l) (hx : RMode m c x) (hsz : ∀ y ∈ l ++ [x], y.elems.length < 2 ^ 40 ∧ y.names.length < 2 ^ 40) (hn : l.length < 2 ^ 20) :
    ACalls Tryz.prog 138 [s, .agg c] m fun v m' => m <+: m' ∧ OwT m.length m' v (l ++ [x]) := by
  have hx0 := hx
  have hcl := hx.all
  obtain ⟨e, nm, rfl, he, hnm⟩ := hx
  refine w138 ?_
  have h1 := Sl.one he
  have h2 := Sl.one hnm
  have hw : IntKind.i64.wrap ((l.length : Int) + 1) = ((l.length + 1 : Nat) : Int) := by rw [wrap64 (by omega) (by omega)]; omega
  have hc0 : (0 : Int) ≤ l.length + 1 := by omega
  have hc1 : 80 * ((l.length : Int) + 1) ≤ 281474976710656 := by omega
  have hc2 : (l.length : Int) + 1 ≤ 9223372036854775807 := by omega
  simp [h1, h2, hs.len, hw, hc0, hc1, hc2]
  have hb0 : readB (m ++ [ABlk.own [.int .i64 x.kind, .int .i64 x.size, e, nm, .int .i64 x.dims, .bool x.flex] 49 none, ABlk.own (List.replicate (l.length + 1) [AVal.int .i64 0, AVal.int .i64 0, AVal.nilslice, AVal.nilslice, AVal.int .i64 0, AVal.bool false]).flatten 49 none]) m.length = some [.int .i64 x.kind, .int .i64 x.size, e, nm, .int .i64 x.dims, .bool x.flex] := by simp [readB, ABlk.cells]
  have hm02 : m <+: m ++ [ABlk.own [.int .i64 x.kind, .int .i64 x.size, e, nm, .int .i64 x.dims, .bool x.flex] 49 none, ABlk.own (List.replicate (l.length + 1) [AVal.int .i64 0, AVal.int .i64 0, AVal.nilslice, AVal.nilslice, AVal.int .i64 0, AVal.bool false]).flatten 49 none] := List.prefix_append _ _
  have hl02 : (m ++ [ABlk.own [.int .i64 x.kind, .int .i64 x.size, e, nm, .int .i64 x.dims, .bool x.flex] 49 none, ABlk.own (List.replicate (l.length + 1) [AVal.int .i64 0, AVal.int .i64 0, AVal.nilslice, AVal.nilslice, AVal.int .i64 0, AVal.bool false]).flatten 49 none]).length = m.length + 2 := by simp
  have hO : OwT m.length (m ++ [ABlk.own [.int .i64 x.kind, .int .i64 x.size, e, nm, .int .i64 x.dims, .bool x.flex] 49 none, ABlk.own (List.replicate (l.length + 1) [AVal.int .i64 0, AVal.int .i64 0, AVal.nilslice, AVal.nilslice, AVal.int .i64 0, AVal.bool false]).flatten 49 none]) (.slice (m.length + 1) 0 0 (l.length + 1) none) [] := by
    refine ⟨[], .inr ⟨m.length + 1, 0, l.length + 1, none, (List.replicate (l.length + 1) [AVal.int .i64 0, AVal.int .i64 0, AVal.nilslice, AVal.nilslice, AVal.int .i64 0, AVal.bool false]).flatten, none, rfl, by omega, by rw [List.getElem?_append_right (by omega)]; simp, by simp [readN], by simp, by simp, by simp [List.all_flatten], .inl rfl⟩, by simp⟩
  have hob : ∀ b, (AVal.slice (m.length + 1) 0 0 (l.length + 1) none).blk = some b → b = m.length + 1 := fun b hb => by simp [AVal.blk] at hb; omega
  generalize AVal.slice (m.length + 1) 0 0 (l.length + 1) none = out at *
  generalize m ++ [ABlk.own [.int .i64 x.kind, .int .i64 x.size, e, nm, .int .i64 x.dims, .bool x.flex] 49 none, ABlk.own (List.replicate (l.length + 1) [AVal.int .i64 0, AVal.int .i64 0, AVal.nilslice, AVal.nilslice, AVal.int .i64 0, AVal.bool false]).flatten 49 none] = m2 at *
  refine W_draw (fun i w m' => i = 1 → OwB m m2.length m' w l) (by simp [maxDst]) ?_
  have : ∀ (j : Nat) (m' : AMem), noFacts j m' := fun _ _ => trivial
  refine D_pre 0 1 [1, 2, 3, 6, 4, 5] (by simp only [List.drop_zero, List.drop_succ_cons, List.take_succ_cons, List.take_zero]; rfl) rfl rfl ‹_› ?_
  simp
  intro _ _
  refine D_C rfl trivial rfl (fun m' hm' _ => (k66 s l m m' (hm02.trans hm') hs (by omega)).mono ?_) ?_ ?_ ?_
  · rintro w m'' ⟨g1, cs, g2, g3⟩
    exact ⟨g1, fun _ => ⟨cs, g2.lo hm'.length_le, g3⟩⟩
  · obtain ⟨cs, g2, g3⟩ := hs
    have hcl2 := g2.length
    exact ⟨_, _, List.prefix_append _ _, fun _ => ⟨cs, Ow.new hcl2 (tab_all hcl2 g3), g3⟩⟩
  · rintro w m' m'' hm hk h
    exact (hk h).mono hm
  rintro w m4 hm4 hw4
  clear hw4
  refine D_R rfl trivial ⟨_, List.prefix_refl _, fun _ h => by cases h⟩ ?_
  simp [bxW hb0, readN]
  refine D_A rfl trivial ?_
  simp [fillA, setN, h1, h2]
  intro b'
  refine D_P rfl trivial ?_
  simp
  refine D_W rfl rfl fun m5 hm5 hf => ?_
  have g13 := hf 1
  have g15 := hf 3
  simp [upd] at g13 g15
  have hsc : sliceCells m5 6 (.slice b' 0 1 1 none) = some (1, [.int .i64 x.kind, .int .i64 x.size, e, nm, .int .i64 x.dims, .bool x.flex]) := by simp [sliceCells, readB, g15, ABlk.cells, readN]
  obtain ⟨t16, m6, happ, hch6, hB, hbl⟩ := g13.push hm5.length_le hx0 (by omega)
  have hm26 : m2 <+: m6 := hch6.pre hm5 fun b hb h => by have := (g13.blk_lo h).1; omega
  simp [hsc, happ]
  refine D_P rfl trivial ?_
  have htl := (hB.tab (hm02.trans hm26)).len
  simp [htl]
  refine D_end fun m7 hm7 _ => ?_
  simp
  replace hB := hB.mono hm7
  replace hm26 := hm26.trans hm7
  replace hO := hO.mono hm26
  replace htl := (hB.tab (hm02.trans hm26)).len
  clear g13 g15 hsc happ hch6 hbl hm5 hb0 hm4
  have hlen : (l ++ [x]).length = l.length + 1 := by simp
  generalize hL : l ++ [x] = L at *
  have hm27 := hm26.length_le
  obtain ⟨I, hI⟩ : ∃ I : Nat → AFrame → AMem → Prop, ∀ q a m', I q a m' ↔ (∃ (k : Nat) (o : AVal), k + q = L.length ∧ a = h138_0 o t16 (.int .i64 ((l.length : Int) + 1)) (.int .i64 k) ∧ m <+: m' ∧ Ch (fun b => b = m.length + 1) m7 m' ∧ OwT m.length m' o (L.take k) ∧ ∀ b, o.blk = some b → b = m.length + 1 ∨ m7.length ≤ b) := ⟨_, fun _ _ _ => Iff.rfl⟩
  refine W_loop I L.length ((hI _ _ _).2 ⟨0, out, by simp, by simp, hm02.trans hm26, .refl _ _, by simpa using hO, fun b hb => .inl (hob b hb)⟩) ?_
  clear hO hob
  rintro q a m8 hIn
  obtain ⟨k, o, hk, rfl, hm8, hch8, hO, hob⟩ := (hI _ _ _).1 hIn
  clear hIn
  simp
  refine bbind_dec (fun hkl => ?_) fun hkl => ?_
  · have hkl : k < L.length := by omega
    have hw := step64 (k := k) (n := L.length) hkl (by omega)
    obtain ⟨q, rfl⟩ : ∃ q', q = q' + 1 := ⟨q - 1, by omega⟩
    have hT8 := (hB.ch hch8 fun b hb e => by have := (hB.blk_lo hb).1; omega).tab hm8
    obtain ⟨bx', ox, c, h4, h5, _, _, h6⟩ := hT8.atC hkl
    simp [h4, h5]
    have hcl := h6.all
    rw [store_new _ _ c _ _ 6 hcl.1 rfl hcl.2]
    have hb7 : (m8 ++ [ABlk.own c 49 none])[m8.length]? = some (.own c 49 none) := by simp
    have hm89 : m8 <+: m8 ++ [ABlk.own c 49 none] := List.prefix_append _ _
    have hl9 : (m8 ++ [ABlk.own c 49 none]).length = m8.length + 1 := by simp
    have hsy := hsz _ (List.getElem_mem hkl)
    simp
    generalize hy : L[k] = y at *
    generalize m8 ++ [ABlk.own c 49 none] = m9 at *
    generalize hb7e : m8.length = b7 at *
    obtain ⟨e2, nm2, c0, c1, c2, c3, c4, c5, he2, hnm2, rfl⟩ := h6.get
    replace he2 := he2.mono hm89
    replace hnm2 := hnm2.mono hm89
    refine W_draw (fun i v m' => (i = 2 → OwL (AVal.int .i64) m9.length m' 3 v y.elems) ∧ (i = 5 → OwL AVal.str m9.length m' 9 v y.names)) (by simp [maxDst]) ?_
    have : ∀ (j : Nat) (m' : AMem), noFacts j m' := fun _ _ => trivial
    refine D_pre 0 2 [2, 3, 4, 5, 6, 7, 8, 9] (by simp only [List.drop_zero, List.drop_succ_cons, List.take_succ_cons, List.take_zero]; rfl) rfl rfl ‹_› ?_
    simp [bx (own_read hb7)]
    intro _ _
    refine D_C rfl trivial rfl (fun m' hm' _ => (k30 e2 y.elems m' (he2.mono hm') (by omega)).mono ?_) ?_ ?_ ?_
    · rintro w m'' ⟨g1, g2⟩
      exact ⟨g1, fun _ => g2.lo' hm'.length_le, by simp⟩
    · exact ⟨_, _, List.prefix_append _ _, fun _ => OwL.new m9 3 y.elems, by simp⟩
    · rintro w m' m'' hm hk
      exact ⟨fun h => (hk.1 h).mono hm, fun h => (hk.2 h).mono hm⟩
    rintro v2 m10 hm10 hv2
    have v2s := (Ow.sl (hv2.1 rfl)).self
    clear hv2 hm10
    refine D_P rfl trivial ?_
    simp
    refine D_R rfl trivial ⟨_, List.prefix_refl _, fun _ h => by cases h⟩ ?_
    simp [bx (own_read hb7)]
    refine D_C rfl trivial rfl (fun m' hm' _ => (k142 nm2 y.names m' (hnm2.mono hm') (by omega)).mono ?_) ?_ ?_ ?_
    · rintro w m'' ⟨g1, g2, _⟩
      exact ⟨g1, by simp, fun _ => g2.lo' hm'.length_le⟩
    · exact ⟨_, _, List.prefix_append _ _, by simp, fun _ => OwL.new m9 9 y.names⟩
    · rintro w m' m'' hm hk
      exact ⟨fun h => (hk.1 h).mono hm, fun h => (hk.2 h).mono hm⟩
    rintro v5 m10 hm10 hv5
    have v5s := (Ow.sl (hv5.2 rfl)).self
    clear hv5 hm10
    refine D_P rfl trivial ?_
    simp
    refine D_W rfl rfl fun m10 hm10 hf => ?_
    have g2 := hf 2
    have g5 := hf 5
    simp [upd] at g2 g5
    have hb10 := own_mono hb7 hm10
    obtain ⟨m11, hst, hb11, hch11⟩ := fld_store (i := 2) hb10 (by simp) v2s.2 v2s.1
    simp [hst]
    refine D_P rfl trivial ?_
    simp
    refine D_W rfl rfl fun m12 hm12 _ => ?_
    have hb12 := own_mono hb11 hm12
    obtain ⟨m13, hst13, hb13, hch13⟩ := fld_store (i := 3) hb12 (by simp) v5s.2 v5s.1
    simp [hst13]
    refine D_end fun m14 hm14 _ => ?_
    have hb14 := own_mono hb13 hm14
    simp at hb14
    have hchx : Ch (fun b => b = b7) m10 m14 := ((hch11.trans (.of_prefix hm12)).trans hch13).trans (.of_prefix hm14)
    have g2' := g2.ch hchx fun b hb e => by have := (g2.blk_lo hb).1; omega
    have g5' := g5.ch hchx fun b hb e => by have := (g5.blk_lo hb).1; omega
    have hm814 : m8 <+: m14 := hchx.pre (hm89.trans hm10) fun b hb e => by omega
    have hO14 := hO.mono hm814
    have hsc : sliceCells (m14 ++ [ABlk.own [.int .i64 y.kind, .int .i64 y.size, v2, v5, .int .i64 y.dims, .bool y.flex] 49 none]) 6 (.slice m14.length 0 1 1 none) = some (1, [.int .i64 y.kind, .int .i64 y.size, v2, v5, .int .i64 y.dims, .bool y.flex]) := by simp [sliceCells, readB, ABlk.cells, readN]
    have hm1415 : m14 <+: m14 ++ [ABlk.own [.int .i64 y.kind, .int .i64 y.size, v2, v5, .int .i64 y.dims, .bool y.flex] 49 none] := List.prefix_append _ _
    have hol : ∀ b, o.blk = some b → m.length ≤ b ∧ b < m8.length := fun b hb => hO.blk_lo hb
    simp [bxW (own_read hb14), readN, fillA, setN, v2s.1, v5s.1]
    generalize m14 ++ [ABlk.own [.int .i64 y.kind, .int .i64 y.size, v2, v5, .int .i64 y.dims, .bool y.flex] 49 none] = m15 at *
    have hm815 := hm814.trans hm1415
    have hl815 := hm815.length_le
    obtain ⟨o', m16, happ, hch16, hO16, hob16⟩ := (hO14.mono hm1415).push (c := [.int .i64 y.kind, .int .i64 y.size, v2, v5, .int .i64 y.dims, .bool y.flex]) (x := y) (by have := hm8.length_le; omega) (fun m' hc => ⟨v2, v5, rfl, ((g2'.mono hm1415).ch hc fun b hb e => by have := (g2.blk_lo hb).1; have := hol b e; omega).ints, Ow.sl ((g5'.mono hm1415).ch hc fun b hb e => by have := (g5.blk_lo hb).1; have := hol b e; omega)⟩) (by simp; omega)
    simp [hsc, happ, hw]
    refine ⟨q, by omega, (hI _ _ _).2 ⟨k + 1, o', by omega, by simp, hch16.pre (hm8.trans hm815) fun b hb e => by have := hol b e; omega, (hch8.andThen (.of_prefix (S := fun _ => False) hm815) fun b hb h => h.elim).andThen hch16 fun b hb h => ?_, ?_, fun b hb => ?_⟩⟩
    · rcases hob b h with h | h
      · exact h
      · omega
    · rw [List.take_add_one, List.getElem?_eq_getElem hkl, hy]
      exact hO16
    · rcases hob16 b hb with h | h
      · exact hob b h
      · have := hch8.len; right; omega
  · have hkl : k = L.length := by omega
    subst hkl
    rw [List.take_length] at hO
    simp
    exact ⟨hm8, hO⟩
end Go.Proofs.YtheadodblifklaaGreat

namespace Go.Proofs.YtheadodblifklaaGreat
open Go Ax
set_option maxRecDepth 100000
def slice3E (esz : Nat) (v hi mx : AVal) : Option AVal := match v with
  | .nilslice => (bdE (some hi) 0).bind fun h => (bdE (some mx) 0).bind fun m => evSlice esz .nilslice 0 h (some m)
  | .slice b o n k ex => (bdE (some hi) n).bind fun h => (bdE (some mx) 0).bind fun m => evSlice esz (.slice b o n k ex) 0 h (some m)
  | _ => none
theorem ev_slice3 (a : AFrame) (esz : Nat) (x hi mx : Arg) : POp.ev a (.slice esz x none (some hi) (some mx)) = slice3E esz (a.ev x) (a.ev hi) (a.ev mx) := by
  simp only [POp.ev, bnd_eq, slice3E]
  cases a.ev x <;> rfl
theorem RTab.slice3 {m : AMem} {s : AVal} {L : List Md} (h : RTab m s L) {n : Nat} (hn : n ≤ L.length) : ∃ s', slice3E 6 s (.int .i64 n) (.int .i64 n) = some s' ∧ RTab m s' (L.take n) := by
  obtain ⟨cs, h1, h2⟩ := h
  have hcl := h1.length
  have hmd : ∀ (i : Nat) x, (L.take n)[i]? = some x → RMode m (((cs.take (n * 6)).drop (i * 6)).take 6) x := by
    intro i x hx
    have hi : i < n := by
      have := (List.getElem?_eq_some_iff.1 hx).1
      simp at this; omega
    rw [List.getElem?_take, if_pos hi] at hx
    have := h2 i x hx
    rw [List.drop_take, List.take_take, Nat.min_eq_left (by omega)]
    exact this
  have hlt : (L.take n).length = n := by simp; omega
  rcases h1 with ⟨rfl, hl, rfl⟩ | ⟨b, o, cap, gr, rfl, ⟨hc, hg⟩, h3⟩
  · obtain rfl : n = 0 := by omega
    exact ⟨.nilslice, by simp [slice3E, bdE, evSlice], [], by simpa using Sl.nil, by simp⟩
  · refine ⟨.slice b o n n none, ?_, cs.take (n * 6), ?_, hmd⟩
    · simp [slice3E, bdE, evSlice]
      omega
    · rw [hlt]
      refine .inr ⟨b, o, n, none, rfl, ⟨Nat.le_refl _, .inl rfl⟩, ?_⟩
      by_cases h0 : n = 0
      · subst h0; exact .inl ⟨rfl, by simp⟩
      · rcases h3 with ⟨h3, _⟩ | ⟨_, bl, h4, h5⟩
        · omega
        · refine .inr ⟨h0, bl, h4, ?_⟩
          have := readN_sub h5 (i := 0) (k := n * 6) (by omega)
          simpa using this
noncomputable def findI (l : List Md) (x : Md) : Option Nat :=
  if (l.length : Int) ∈ x.elems then none
  else if checkI (l ++ [x]) ≠ 0 then none
  else if fidx (fun i => RR (l ++ [x]) i == RR (l ++ [x]) l.length) 0 (l.length + 1) = l.length then none
  else some (fidx (fun i => RR (l ++ [x]) i == RR (l ++ [x]) l.length) 0 (l.length + 1)).toNat
noncomputable def putI (l : List Md) (x : Md) : List Md × Int × Int :=
  if checkI l ≠ 0 then ([], 0, checkI l)
  else match findI l x with
    | some i => (l, i, 0)
    | none => if checkI (l ++ [x]) ≠ 0 then ([], 0, checkI (l ++ [x])) else (l ++ [x], l.length, 0)
theorem k137 (s : AVal) (c : List AVal) (l : List Md) (x : Md) (m : AMem) (hs : RTab m s l) (hx : RMode m c x) (hsz : ∀ y ∈ l ++ [x], smallN y) (h40 : ∀ y ∈ l ++ [x], y.elems.length < 2 ^ 40 ∧ y.names.length < 2 ^ 40) (hn : l.length < 13) :
    ACalls Tryz.prog 137 [s, .agg c] m fun v m' => m <+: m' ∧ v = .tuple [.int .i64 ((findI l x).getD 0 : Nat), .bool (findI l x).isSome] := by
  have hx0 := hx
  have hcl := hx.all
  obtain ⟨e, nm, rfl, he, hnm⟩ := hx
  refine w137 ?_
  have h1 := Sl.one he
  have h2 := Sl.one hnm
  simp [h1, h2, hs.len]
  have hb0 := readB_new m [.int .i64 x.kind, .int .i64 x.size, e, nm, .int .i64 x.dims, .bool x.flex] 49 none
  have hm01 : m <+: m ++ [.own [.int .i64 x.kind, .int .i64 x.size, e, nm, .int .i64 x.dims, .bool x.flex] 49 none] := List.prefix_append _ _
  generalize m ++ [.own [.int .i64 x.kind, .int .i64 x.size, e, nm, .int .i64 x.dims, .bool x.flex] 49 none] = m1 at *
  generalize m.length = b3 at *
  have hxs := hsz x (by simp)
  refine C_of (k171 e x.elems _ m1 (he.mono hm01) hxs.1) ?_
  rintro _ m2 ⟨rfl, rfl⟩
  by_cases hin : (l.length : Int) ∈ x.elems
  · simp [hin, findI]
    exact hm01
  · simp [hin, bxW hb0, readN]
    refine C_of (k138 s _ l x m2 (hs.mono hm01) (hx0.mono hm01) h40 (by omega)) ?_
    rintro v3 m3 ⟨hm3, hT⟩
    have hlL : (l ++ [x]).length = l.length + 1 := by simp
    simp
    refine C_of (k49 v3 (l ++ [x]) m3 hT.tab hsz (by omega)) ?_
    rintro _ m4 ⟨rfl, hm4⟩
    have hfind : findI l x = if checkI (l ++ [x]) ≠ 0 then none else if fidx (fun i => RR (l ++ [x]) i == RR (l ++ [x]) l.length) 0 (l.length + 1) = l.length then none else some (fidx (fun i => RR (l ++ [x]) i == RR (l ++ [x]) l.length) 0 (l.length + 1)).toNat := by
      unfold findI
      rw [if_neg hin]
    have hm04 := (hm01.trans hm3).trans hm4
    by_cases hc : checkI (l ++ [x]) = 0
    · have ok := okT_of hc
      simp [hc]
      refine C_of (k52 v3 (l ++ [x]) m4 (hT.mono hm4).tab ok.good (by omega) hsz ok.h64) ?_
      rintro v5 m5 ⟨hm5, ds, kd, hX, hD⟩
      have hXi := ints_of_nat hX
      have hdl := hD.len
      obtain ⟨b1, o1, g1, g2⟩ := hXi.at (i := l.length) (by simp; omega)
      simp [hs.len, g1, g2]
      have hnd : l.length < ds.length := by omega
      refine C_of (k98 v5 _ (ds[l.length] : Nat) m5 hXi (by simp; omega)) ?_
      rintro _ m6 ⟨rfl, rfl⟩
      have hF : fidx (fun i => (ds.map fun z : Nat => (z : Int))[i]? == some ((ds[l.length] : Nat) : Int)) 0 (ds.map fun z : Nat => (z : Int)).length = fidx (fun i => RR (l ++ [x]) i == RR (l ++ [x]) l.length) 0 (l.length + 1) := by
        rw [List.length_map, hdl, hlL]
        refine fidx_congr _ _ fun j _ hj => ?_
        have hso := hD.sameOrd.eq (a := j) (b := l.length) (by omega) (by omega)
        have e1 : ds.getD j 0 = ds[j]'(by omega) := by simp [List.getD, show j < ds.length by omega]
        have e2 : ds.getD l.length 0 = ds[l.length] := by simp [List.getD, hnd]
        rw [e1, e2] at hso
        rw [Bool.eq_iff_iff]
        simp [show j < ds.length by omega]
        rw [← hso]
        omega
      rw [hF]
      have hge : 0 ≤ fidx (fun i => RR (l ++ [x]) i == RR (l ++ [x]) l.length) 0 (l.length + 1) := (fidx_nonneg _ _ _).2 ⟨l.length, by omega, by omega, by simp⟩
      rw [if_neg (by simp [hc])] at hfind
      generalize fidx (fun i => RR (l ++ [x]) i == RR (l ++ [x]) l.length) 0 (l.length + 1) = F at *
      by_cases hFl : F = l.length
      · rw [if_pos hFl] at hfind
        subst hFl
        simp [hs.len, hfind]
        exact hm04.trans hm5
      · rw [if_neg hFl] at hfind
        simp [hs.len, hfind, beqF hFl]
        exact ⟨hm04.trans hm5, by omega⟩
    · have : findI l x = none := by rw [hfind, if_pos hc]
      simp [bneT hc, this]
      exact hm04
theorem RTab.nil0 (m : AMem) : RTab m .nilslice [] := ⟨[], Sl.nil, by simp⟩
theorem k97 (s : AVal) (c : List AVal) (l : List Md) (x : Md) (m : AMem) (hs : RTab m s l) (hx : RMode m c x) (hsz : ∀ y ∈ l ++ [x], smallN y) (h40 : ∀ y ∈ l ++ [x], y.elems.length < 2 ^ 40 ∧ y.names.length < 2 ^ 40) (hn : l.length < 13) :
    ACalls Tryz.prog 97 [s, .agg c] m fun v m' => m <+: m' ∧ ∃ t, v = .tuple [t, .int .i64 (putI l x).2.1, .int .i64 (putI l x).2.2] ∧ RTab m' t (putI l x).1 := by
  have hx0 := hx
  have hcl := hx.all
  obtain ⟨e, nm, rfl, he, hnm⟩ := hx
  refine w97 ?_
  have h1 := Sl.one he
  have h2 := Sl.one hnm
  simp [h1, h2]
  have hb0 := readB_new m [.int .i64 x.kind, .int .i64 x.size, e, nm, .int .i64 x.dims, .bool x.flex] 49 none
  have hm01 : m <+: m ++ [.own [.int .i64 x.kind, .int .i64 x.size, e, nm, .int .i64 x.dims, .bool x.flex] 49 none] := List.prefix_append _ _
  generalize m ++ [.own [.int .i64 x.kind, .int .i64 x.size, e, nm, .int .i64 x.dims, .bool x.flex] 49 none] = m1 at *
  generalize m.length = b3 at *
  have hlL : (l ++ [x]).length = l.length + 1 := by simp
  refine C_of (k49 s l m1 (hs.mono hm01) (fun y hy => hsz y (by simp [hy])) (by omega)) ?_
  rintro _ m2 ⟨rfl, hm2⟩
  have hm02 := hm01.trans hm2
  by_cases hc : checkI l = 0
  · have hp : putI l x = match findI l x with
      | some i => (l, (i : Int), 0)
      | none => if checkI (l ++ [x]) ≠ 0 then ([], 0, checkI (l ++ [x])) else (l ++ [x], (l.length : Int), 0) := by
      unfold putI
      rw [if_neg (by simp [hc])]
    simp [hc, bxW (readB_mono hm2 hb0), readN]
    refine C_of (k137 s _ l x m2 (hs.mono hm02) (hx0.mono hm02) hsz h40 hn) ?_
    rintro _ m3 ⟨hm3, rfl⟩
    have hm03 := hm02.trans hm3
    cases hf : findI l x with
    | some i =>
      rw [hf] at hp
      simp only at hp
      simp [bxW (readB_mono (hm2.trans hm3) hb0), readN]
      refine C_of (k138 s _ l x m3 (hs.mono hm03) (hx0.mono hm03) h40 (by omega)) ?_
      rintro v4 m4 ⟨hm4, hT⟩
      obtain ⟨s', g1, g2⟩ := RTab.slice3 hT.tab (n := l.length) (by omega)
      rw [List.take_left'] at g2
      · simp [hs.len, ev_slice3, g1, hp]
        exact ⟨hm03.trans hm4, g2⟩
      · rfl
    | none =>
      rw [hf] at hp
      simp only at hp
      simp [bxW (readB_mono (hm2.trans hm3) hb0), readN]
      refine C_of (k138 s _ l x m3 (hs.mono hm03) (hx0.mono hm03) h40 (by omega)) ?_
      rintro v4 m4 ⟨hm4, hT⟩
      simp
      refine C_of (k49 v4 (l ++ [x]) m4 hT.tab hsz (by omega)) ?_
      rintro _ m5 ⟨rfl, hm5⟩
      have hm05 := (hm03.trans hm4).trans hm5
      by_cases hc2 : checkI (l ++ [x]) = 0
      · rw [if_neg (by simp [hc2])] at hp
        simp [hc2, hp, hs.len]
        exact ⟨hm05, (hT.mono hm5).tab⟩
      · rw [if_pos hc2] at hp
        simp [bneT hc2, hp]
        exact ⟨hm05, RTab.nil0 _⟩
  · have hp : putI l x = ([], 0, checkI l) := by
      unfold putI
      rw [if_pos hc]
    simp [bneT hc, hp]
    exact ⟨hm02, RTab.nil0 _⟩
end Go.Proofs.YtheadodblifklaaGreat

namespace Go.Proofs.YtheadodblifklaaGreat
open Go Ax
set_option maxRecDepth 100000
theorem k55 (s ro t : AVal) (l : List Md) (rk zs : List Nat) (x b1 b2 : Nat) (m : AMem) (hs : RTab m s l) (hro : RInts m ro (rk.map fun z : Nat => (z : Int))) (ht : RInts m t (zs.map fun z : Nat => (z : Int))) (hz : ∀ z ∈ zs, z < rk.length) (hx : x < rk.length) (hn : zs.length < 2 ^ 62) (hb1 : readB m b1 = some [s, ro]) (hb2 : readB m b2 = some [t]) :
    ACalls Tryz.prog 55 [.int .i64 x, .ptr b1 0, .ptr b2 0] m fun v m' => v = .bool (zs.any fun z => rk.getD z 0 == rk.getD x 0) ∧ m <+: m' := by
  refine w55 ?_
  simp [bxW hb1, readN, bx hb2]
  refine C_of (k46 s ro t rk zs x m hs.self hro ht hz hx hn) ?_
  rintro _ m2 ⟨rfl, hm2⟩
  simp [hm2]
def unionOf (zs : List Nat) : Md := ⟨12, 0, zs.map fun z : Nat => (z : Int), [], 0, false⟩
noncomputable def ofI (l : List Md) (zs : List Nat) : List Md × Int × Int :=
  if zs.length = 1 then ((putI l (mdAt l (zs.getD 0 0))).1, fidx (fun i => RR l i == RR l (zs.getD 0 0)) 0 l.length, (putI l (mdAt l (zs.getD 0 0))).2.2)
  else putI l (unionOf zs)
set_option maxHeartbeats 4000000 in
theorem k56 (s ro t : AVal) (l : List Md) (ds zs : List Nat) (kd : Nat) (m : AMem) (hs : RTab m s l) (hro : RInts m ro (ds.map fun z : Nat => (z : Int))) (hD : DenseOf l.length (fun a b => RR l a < RR l b) ds kd) (ht : RInts m t (zs.map fun z : Nat => (z : Int))) (hz : ∀ z ∈ zs, z < l.length) (hzn : zs.length ≤ 20) (hsz : ∀ y ∈ l, smallN y) (h40 : ∀ y ∈ l, y.elems.length < 2 ^ 40 ∧ y.names.length < 2 ^ 40) (hn : l.length < 13) :
    ACalls Tryz.prog 56 [.agg [s, ro], t] m fun v m' => m <+: m' ∧ ∃ t', v = .tuple [t', .int .i64 (ofI l zs).2.1, .int .i64 (ofI l zs).2.2] ∧ RTab m' t' (ofI l zs).1 := by
  refine w56 ?_
  obtain ⟨hsl, hsc⟩ := hs.self
  obtain ⟨hr1, hr2⟩ := Sl.self hro
  have htl := ht.len
  rw [List.length_map] at htl
  simp [hsl, hsc, hr1, hr2, htl]
  have hb0 := readB_new m [s, ro] 53 none
  have hm1 : m <+: m ++ [.own [s, ro] 53 none] := List.prefix_append _ _
  generalize m ++ [.own [s, ro] 53 none] = m1 at *
  generalize m.length = b2 at *
  by_cases h1 : zs.length = 1
  · have hz0 : zs.getD 0 0 < l.length := by
      have : zs.getD 0 0 = zs[0] := by simp [List.getD, h1]
      rw [this]; exact hz _ (List.getElem_mem _)
    have ho : ofI l zs = ((putI l (mdAt l (zs.getD 0 0))).1, fidx (fun i => RR l i == RR l (zs.getD 0 0)) 0 l.length, (putI l (mdAt l (zs.getD 0 0))).2.2) := by unfold ofI; rw [if_pos h1]
    rw [ho]
    obtain ⟨bt, ot, g1, g2⟩ := ht.at (i := 0) (by simp; omega)
    have e0 : (zs.map fun z : Nat => (z : Int))[0]'(by simp; omega) = ((zs.getD 0 0 : Nat) : Int) := by simp [List.getD, h1]
    rw [e0] at g2
    generalize zs.getD 0 0 = z0 at *
    have hmd := mdAt_eq hz0
    obtain ⟨bx', ox, c, g3, g4, _, _, g5⟩ := hs.atC hz0
    rw [← hmd] at g5
    simp [h1]
    refine W_draw (fun _ _ _ => True) (by simp [maxDst]) ?_
    refine D_pc 0 9 [9, 10, 11, 12, 13, 14, 15, 16] ?_
    have g2' := loadE_mono hm1 g2
    have g4' := loadE_mono hm1 g4
    have g10 := g1 .i64
    simp at g10
    simp [bx hb0, g10, g2', g3, g4']
    intro _ _
    refine D_X rfl rfl fun m2 hm2 _ => ?_
    simp
    have hmm : mdAt l z0 ∈ l := by rw [hmd]; exact List.getElem_mem hz0
    have hm02 := hm1.trans hm2
    refine C_of (k97 s c l (mdAt l z0) m2 (hs.mono hm02) (g5.mono hm02) (fun y hy => ?_) (fun y hy => ?_) hn) ?_
    · rcases List.mem_append.1 hy with h | h
      · exact hsz y h
      · simp at h; subst h; exact hsz _ hmm
    · rcases List.mem_append.1 hy with h | h
      · exact h40 y h
      · simp at h; subst h; exact h40 _ hmm
    rintro _ m3 ⟨hm3, t', rfl, hT⟩
    refine ⟨by simp [lateOf], ?_⟩
    refine D_pc 10 7 [] ?_
    simp
    intro _ _
    refine D_end fun m4 hm4 _ => ?_
    have hm14 := (hm2.trans hm3).trans hm4
    have hb4 := readB_mono hm14 hb0
    simp
    refine W_draw (fun _ _ _ => True) (by simp [maxDst]) ?_
    refine D_pc 0 10 [11, 10, 12, 13, 14] ?_
    obtain ⟨br, or_, g6, g7⟩ := ranksAt hro (x := z0) (by rw [hD.len]; exact hz0)
    have g7 := g7 m4 (hm1.trans hm14)
    have g2'' := loadE_mono hm14 g2'
    simp [bx hb4, g10, g2'', g6, g7]
    intro _ _
    refine D_P rfl trivial ?_
    simp
    refine D_X rfl rfl fun m5 hm5 _ => ?_
    simp
    have hdl := hD.len
    refine C_of (k98 ro _ (ds.getD z0 0 : Nat) m5 (hro.mono ((hm1.trans hm14).trans hm5)) (by simp; omega)) ?_
    rintro _ m6 ⟨rfl, rfl⟩
    have hF : fidx (fun i => (ds.map fun z : Nat => (z : Int))[i]? == some ((ds.getD z0 0 : Nat) : Int)) 0 (ds.map fun z : Nat => (z : Int)).length = fidx (fun i => RR l i == RR l z0) 0 l.length := by
      rw [List.length_map, hdl]
      refine fidx_congr _ _ fun j _ hj => ?_
      have hso := hD.sameOrd.eq (a := j) (b := z0) (by omega) (by omega)
      have e1 : ds.getD j 0 = ds[j]'(by omega) := by simp [List.getD, show j < ds.length by omega]
      rw [Bool.eq_iff_iff]
      simp only [List.getElem?_map, List.getElem?_eq_getElem (show j < ds.length by omega), Option.map_some, beq_iff_eq, Option.some.injEq]
      rw [← hso, e1]
      omega
    rw [hF]
    refine ⟨by simp [lateOf], ?_⟩
    refine D_pc 12 3 [] ?_
    simp
    intro _ _
    refine D_end fun m7 hm7 _ => ?_
    simp
    exact ⟨((hm1.trans hm14).trans hm5).trans hm7, hT.mono ((hm4.trans hm5).trans hm7)⟩
  · have ho : ofI l zs = putI l (unionOf zs) := by unfold ofI; rw [if_neg h1]
    rw [ho]
    have h1' : ¬ (zs.length : Int) = 1 := by omega
    have hts := Sl.self ht
    simp [beqF h1', bx hb0, fillA, setN, hts.1, hts.2]
    have hsm : ∀ y ∈ l ++ [unionOf zs], smallN y := fun y hy => by
      rcases List.mem_append.1 hy with h | h
      · exact hsz y h
      · simp at h; subst h; exact ⟨by simp [unionOf]; omega, by simp [unionOf], by simp [unionOf]⟩
    have h40' : ∀ y ∈ l ++ [unionOf zs], y.elems.length < 2 ^ 40 ∧ y.names.length < 2 ^ 40 := fun y hy => by
      rcases List.mem_append.1 hy with h | h
      · exact h40 y h
      · simp at h; subst h; exact ⟨by simp [unionOf]; omega, by simp [unionOf]⟩
    refine C_of (k97 s _ l (unionOf zs) m1 (hs.mono hm1) ⟨t, .nilslice, rfl, ht.mono hm1, Sl.nil⟩ hsm h40' hn) ?_
    rintro _ m3 ⟨hm3, t', rfl, hT⟩
    simp
    exact ⟨hm1.trans hm3, hT⟩
end Go.Proofs.YtheadodblifklaaGreat

namespace Go.Proofs.YtheadodblifklaaGreat
open Go Ax
set_option maxRecDepth 100000
open Classical in
noncomputable def leftI (l : List Md) (u v : Nat) : List Nat := (basesOf l u).filter fun z => !decide (hasRR l v z)
noncomputable def withoutI (l : List Md) (u v : Int) : List Md × Int × Int :=
  if rightI l [u, v] ≠ 0 then ([], 0, rightI l [u, v])
  else if isU (mdAt l u.toNat) = false then ([], 0, 13)
  else if (leftI l u.toNat v.toNat).length = 0 then ([], 0, 12)
  else ofI l (leftI l u.toNat v.toNat)
set_option maxHeartbeats 4000000 in
open Classical in
theorem k24 (s : AVal) (l : List Md) (u v : Int) (m : AMem) (hs : RTab m s l) (hsz : ∀ x ∈ l, smallN x) (h40 : ∀ y ∈ l, y.elems.length < 2 ^ 40 ∧ y.names.length < 2 ^ 40) (hn : l.length < 13) :
    ACalls Tryz.prog 24 [s, .int .i64 u, .int .i64 v] m fun w m' => m <+: m' ∧ ∃ t, w = .tuple [t, .int .i64 (withoutI l u v).2.1, .int .i64 (withoutI l u v).2.2] ∧ RTab m' t (withoutI l u v).1 := by
  refine w24 ?_
  obtain ⟨hsl, hsc⟩ := hs.self
  simp [fillA, setN]
  have hA := two_ints m u v
  have hm1 : m <+: m ++ [.own [.int .i64 u, .int .i64 v] 3 none] := List.prefix_append _ _
  generalize AVal.slice m.length 0 2 2 none = t1 at *
  generalize m ++ [.own [.int .i64 u, .int .i64 v] 3 none] = m1 at *
  refine C_of (k35 s t1 l [u, v] m1 (hs.mono hm1) hA.ints hsz (fun x hx => (h40 x hx).2) (by omega) (by simp)) ?_
  rintro _ m2 ⟨hm2, ⟨hr, rfl⟩ | ⟨hr, ro, ds, k, rfl, hX, hD⟩⟩
  · simp
    rw [tabBox _ _ _ rfl rfl]
    have hm3 : m2 <+: m2 ++ [.own [.nilslice, .nilslice] 53 none] := List.prefix_append _ _
    generalize m2 ++ [.own [.nilslice, .nilslice] 53 none] = m3 at *
    have hW : withoutI l u v = ([], 0, rightI l [u, v]) := by unfold withoutI; rw [if_pos hr]
    simp [bneT hr, hW]
    exact ⟨(hm1.trans hm2).trans hm3, RTab.nil0 _⟩
  obtain ⟨hc, a, b, rfl, rfl, ha, hb⟩ := right2 hr
  have ok := okT_of hc
  have hrs := (Ow.sl hX).self
  have hso := dense_same hD
  have hW : withoutI l a b = if isU (mdAt l a) = false then ([], 0, 13) else if (leftI l a b).length = 0 then ([], 0, 12) else ofI l (leftI l a b) := by
    unfold withoutI
    rw [if_neg (by simp [hr])]
    simp only [Int.toNat_natCast]
  simp
  rw [tabBox _ _ _ hsl hrs.1]
  have hb8 := readB_new m2 [s, ro] 53 none
  have hm3 : m2 <+: m2 ++ [.own [s, ro] 53 none] := List.prefix_append _ _
  generalize m2 ++ [.own [s, ro] 53 none] = m3 at *
  generalize m2.length = b8 at *
  have hm03 := (hm1.trans hm2).trans hm3
  have hRo := (ints_of_nat hX).mono hm3
  simp [bxW hb8, readN]
  refine C_of (k41 s ro l a m3 (hs.mono hm03) hrs ha) ?_
  rintro _ m4 ⟨rfl, hm4⟩
  simp
  have hm04 := hm03.trans hm4
  cases hu : isU (mdAt l a)
  · rw [if_pos hu] at hW
    simp [hW]
    exact ⟨hm04, RTab.nil0 _⟩
  rw [if_neg (by rw [hu]; simp)] at hW
  have hb84 := readB_mono hm4 hb8
  simp [bxW hb84, readN]
  refine C_of (k44n s ro l b hb m4 (hs.mono hm04) hrs ok.good ok.len ok.h64) ?_
  rintro v5 m5 ⟨hm5, P, hP, hPn, hPm⟩
  have hps := (Ow.sl hP).self
  have hPb : IsBases l b P := ⟨hPn, hPm⟩
  have hPl := hPb.length ok.good hb
  have hPlt := hPb.lt ok.good hb
  have hany : ∀ w, w < l.length → (P.any fun z => ds.getD z 0 == ds.getD w 0) = decide (hasRR l b w) := fun w hw => any_hasRR ok.good hso hb hw hPm
  simp
  rw [store_new1 _ _ _ _ _ hps.2 hps.1]
  have hb10 := readB_new m5 [v5] 33 none
  have hm6 : m5 <+: m5 ++ [.own [v5] 33 none] := List.prefix_append _ _
  generalize m5 ++ [.own [v5] 33 none] = m6 at *
  generalize m5.length = b10 at *
  have hb86 := readB_mono (hm5.trans hm6) hb84
  have hm06 := (hm04.trans hm5).trans hm6
  have hm36 := (hm4.trans hm5).trans hm6
  have hP6 := (ints_of_nat hP).mono hm6
  simp
  refine W_draw (fun _ _ _ => True) (by simp [maxDst]) ?_
  refine D_pc 0 3 [5, 3, 4, 6, 7] ?_
  simp [bxW hb86, readN]
  intro _ _
  refine D_P rfl trivial ?_
  simp
  refine D_X rfl rfl fun m7 hm7 _ => ?_
  simp
  have hm07 := hm06.trans hm7
  refine C_of (k44n s ro l a ha m7 (hs.mono hm07) hrs ok.good ok.len ok.h64) ?_
  rintro v8 m8 ⟨hm8, O, hO, hOn, hOm⟩
  have hb88 := readB_mono (hm7.trans hm8) hb86
  refine ⟨by simp [lateOf, ROp.ev, hb88, readN], ?_⟩
  refine D_X rfl rfl fun m9 hm9 _ => ?_
  simp
  have hm69 := (hm7.trans hm8).trans hm9
  have hm09 := hm06.trans hm69
  have hR9 := hRo.mono (hm36.trans hm69)
  have hOb : IsBases l a O := ⟨hOn, hOm⟩
  refine C_of (k43 s ro v8 l ds O m9 (hs.mono hm09) hR9 ((ints_of_nat hO).mono hm9) hOn (by have := hOb.length ok.good ha; omega) (fun z hz => by rw [hD.len]; exact hOb.lt ok.good ha z hz)) ?_
  rintro v10 m10 ⟨hm10, zs, hZ, hsb⟩
  refine ⟨by simp [lateOf], ?_⟩
  have hzs := once_eq ok.good hso ha hu hOm hsb
  have hzl : ∀ z ∈ zs, z < l.length := fun z hz => hOb.lt ok.good ha z (hsb.sub z hz)
  have hzn : zs.length ≤ l.length := nodup_le l.length zs (hsb.asc.imp fun hab => by intro e; subst e; omega) hzl
  refine D_X rfl rfl fun m11 hm11 _ => ?_
  simp
  refine C_of (k53 v10 3 m9.length m9 (Nat.le_refl _) 55 [] [.ptr b8 0, .ptr b10 0] (fun z => P.any fun y => ds.getD y 0 == ds.getD z.toNat 0) (zs.map fun z : Nat => (z : Int)) ?_ (by simp; omega) m11 (hm10.trans hm11) (natsI.2 (hZ.mono hm11))) ?_
  · intro z hz m' hm'
    obtain ⟨z, hz', rfl⟩ := List.mem_map.1 hz
    have hmt := hm69.trans hm'
    exact k55 s ro v5 l ds P z b8 b10 m' (hs.mono (hm06.trans hmt)) (hRo.mono (hm36.trans hmt)) (hP6.mono hmt) (fun y hy => by rw [hD.len]; exact hPlt y hy) (by rw [hD.len]; exact hzl z hz') (by omega) (readB_mono hmt hb86) (readB_mono hmt hb10)
  rintro v12 m12 ⟨hm12, _, hF, _⟩
  refine ⟨by simp [lateOf], ?_⟩
  have hfl : ((zs.map fun z : Nat => (z : Int)).filter fun a => !(P.any fun y => ds.getD y 0 == ds.getD a.toNat 0)) = (leftI l a b).map fun z : Nat => (z : Int) := by
    rw [List.filter_map]
    unfold leftI
    rw [← hzs]
    congr 1
    refine List.filter_congr fun z hz => ?_
    simp only [Function.comp, Int.toNat_natCast]
    rw [hany z (hzl z hz)]
  rw [hfl] at hF
  refine D_P rfl trivial ?_
  simp
  refine D_end fun m13 hm13 _ => ?_
  replace hF := hF.mono hm13
  have hll : (leftI l a b).length ≤ l.length := by
    unfold leftI
    rw [← hzs]
    exact Nat.le_trans (List.length_filter_le _ _) hzn
  have hlz : ∀ z ∈ leftI l a b, z < l.length := fun z hz => by
    unfold leftI at hz
    rw [← hzs] at hz
    exact hzl z (List.mem_filter.1 hz).1
  have hm913 := hm12.trans hm13
  have hm013 := hm09.trans hm913
  have hln := hF.len
  rw [List.length_map] at hln
  simp [hln]
  by_cases h0 : leftI l a b = []
  · rw [if_pos (by rw [h0]; rfl)] at hW
    simp [h0, hW]
    exact ⟨hm013, RTab.nil0 _⟩
  · have h0' : ¬ (leftI l a b).length = 0 := by simpa using h0
    have h0i : ¬ ((leftI l a b).length : Int) = 0 := by omega
    rw [if_neg h0'] at hW
    simp [beqF h0i, bxW (readB_mono (hm69.trans hm913) hb86), readN]
    refine C_of (k56 s ro v12 l ds (leftI l a b) k m13 (hs.mono hm013) (hRo.mono (hm36.trans (hm69.trans hm913))) hD hF.ints hlz (by omega) hsz h40 hn) ?_
    rintro _ m14 ⟨hm14, t', rfl, hT⟩
    rw [hW]
    simp
    exact ⟨hm013.trans hm14, hT⟩
end Go.Proofs.YtheadodblifklaaGreat

namespace Go.Proofs.YtheadodblifklaaGreat
open Go Ax
open Relation
set_option maxRecDepth 100000
def mdU (k : Int) (es : List Int) : Md := ⟨k, 0, es, [], 0, false⟩
def tab5 : List Md := [mdU 3 [], mdU 1 [], mdU 12 [0, 1], mdU 2 [], mdU 12 [3, 2]]
def tab6 : List Md := [mdU 3 [], mdU 1 [], mdU 12 [0, 1], mdU 2 [], mdU 12 [3, 2], mdU 12 [1, 0]]
theorem noCycle {l : List Md} (hd : ∀ (a : Nat) x, l[a]? = some x → ∀ e ∈ x.elems, 0 ≤ e ∧ e < (a : Int)) {p : Md → Bool} {a b : Nat} (h : TransGen (stepR l p) a b) : b < a := by
  have one : ∀ a b, stepR l p a b → b < a := by
    rintro a b ⟨x, h1, _, h2⟩
    have := hd a x h1 _ h2
    omega
  induction h with
  | single h => exact one _ _ h
  | tail _ h ih => have := one _ _ h; omega
theorem check_of {l : List Md} (hn : l.length ≤ 512) (h1 : ∀ x ∈ l, oneI x l.length = 0) (hv : l.any (voidsB l) = false) (hd : ∀ (a : Nat) x, l[a]? = some x → ∀ e ∈ x.elems, 0 ≤ e ∧ e < (a : Int)) (hr : ∀ x ∈ l, rowStruct x = false) : checkI l = 0 := by
  unfold checkI
  rw [if_neg (by omega), if_neg, if_neg (by rw [hv]; simp), if_neg, if_neg]
  · rintro ⟨x, _, _, e, _, hf⟩
    have : ∀ m, ¬ FlexP l m := by
      intro m h
      cases h with
      | flex h1 h2 => rw [hr _ (List.mem_of_getElem? h1)] at h2; cases h2
      | step h1 _ => obtain ⟨x, h1, h2, _⟩ := h1; rw [hr _ (List.mem_of_getElem? h1)] at h2; cases h2
    exact this _ hf
  · rintro ⟨r, _, h | h⟩
    · have := noCycle hd h; omega
    · have := noCycle hd h; omega
  · intro h
    apply h
    rw [firstI_zero]
    intro y hy
    obtain ⟨x, hx, rfl⟩ := List.mem_map.1 hy
    exact h1 x hx
theorem check5 : checkI tab5 = 0 := by
  refine check_of (by decide) (by decide) (by decide) ?_ (by decide)
  intro a x hx
  match a, hx with
  | 0, hx => simp [tab5, mdU] at hx; subst hx; simp
  | 1, hx => simp [tab5, mdU] at hx; subst hx; simp
  | 2, hx => simp [tab5, mdU] at hx; subst hx; simp
  | 3, hx => simp [tab5, mdU] at hx; subst hx; simp
  | 4, hx => simp [tab5, mdU] at hx; subst hx; simp
  | a + 5, hx => simp [tab5] at hx
theorem check6 : checkI tab6 = 0 := by
  refine check_of (by decide) (by decide) (by decide) ?_ (by decide)
  intro a x hx
  match a, hx with
  | 0, hx => simp [tab6, mdU] at hx; subst hx; simp
  | 1, hx => simp [tab6, mdU] at hx; subst hx; simp
  | 2, hx => simp [tab6, mdU] at hx; subst hx; simp
  | 3, hx => simp [tab6, mdU] at hx; subst hx; simp
  | 4, hx => simp [tab6, mdU] at hx; subst hx; simp
  | 5, hx => simp [tab6, mdU] at hx; subst hx; simp
  | a + 6, hx => simp [tab6] at hx
theorem R_kindlt {l : List Md} {a b : Nat} (ha : a < l.length) (hb : b < l.length) (h : (mdAt l a).kind < (mdAt l b).kind) : ∀ d, R l (d + 1) a < R l (d + 1) b
  | 0 => by
    rw [R_lt l 0 ha]
    unfold cmpR thenC
    simp only [R]
    have h00 : cmpI 0 0 = 0 := by decide
    rw [if_neg (by simp [h00])]
    simp only [if_true]
    unfold firstC firstL
    rw [firstNZ_cons]
    have : cmpI (mdAt l a).kind (mdAt l b).kind < 0 := cmpI_lt.2 h
    rw [if_pos (by omega)]
    exact this
  | d + 1 => R_refine l (d + 1) ha (R_kindlt ha hb h d)
theorem RR_kindlt {l : List Md} {a b : Nat} (ha : a < l.length) (hb : b < l.length) (h : (mdAt l a).kind < (mdAt l b).kind) : RR l a < RR l b := R_kindlt ha hb h _
theorem R_twin {l : List Md} {a b : Nat} (hf : ∀ y, firstC y (mdAt l a) = firstC y (mdAt l b)) (hk : ∀ r, keyOf l r a = keyOf l r b) : ∀ d, R l d a = R l d b
  | 0 => rfl
  | d + 1 => by
    simp only [R, cntC]
    congr 1
    funext j
    have : cmpR l (R l d) d j a = cmpR l (R l d) d j b := by
      unfold cmpR thenC
      simp only [R_twin hf hk d, hf, hk]
    rw [this]
theorem step5 {a b : Nat} : stepR tab5 isU a b ↔ (a = 2 ∧ (b = 0 ∨ b = 1)) ∨ (a = 4 ∧ (b = 3 ∨ b = 2)) := by
  unfold stepR
  match a with
  | 0 => simp [tab5, mdU, isU]
  | 1 => simp [tab5, mdU, isU]
  | 2 => simp [tab5, mdU, isU]; omega
  | 3 => simp [tab5, mdU, isU]
  | 4 => simp [tab5, mdU, isU]; omega
  | a + 5 => simp [tab5]
theorem step6 {a b : Nat} : stepR tab6 isU a b ↔ (a = 2 ∧ (b = 0 ∨ b = 1)) ∨ (a = 4 ∧ (b = 3 ∨ b = 2)) ∨ (a = 5 ∧ (b = 1 ∨ b = 0)) := by
  unfold stepR
  match a with
  | 0 => simp [tab6, mdU, isU]
  | 1 => simp [tab6, mdU, isU]
  | 2 => simp [tab6, mdU, isU]; omega
  | 3 => simp [tab6, mdU, isU]
  | 4 => simp [tab6, mdU, isU]; omega
  | 5 => simp [tab6, mdU, isU]; omega
  | a + 6 => simp [tab6]
theorem part5 {j : Nat} : IsPart tab5 4 j ↔ j = 0 ∨ j = 1 ∨ j = 3 := by
  have key : ∀ j, TransGen (stepR tab5 isU) 4 j → j = 0 ∨ j = 1 ∨ j = 2 ∨ j = 3 := by
    intro j h
    induction h with
    | single h => rw [step5] at h; omega
    | tail _ h ih => rw [step5] at h; omega
  have s43 : stepR tab5 isU 4 3 := by rw [step5]; omega
  have s42 : stepR tab5 isU 4 2 := by rw [step5]; omega
  have s20 : stepR tab5 isU 2 0 := by rw [step5]; omega
  have s21 : stepR tab5 isU 2 1 := by rw [step5]; omega
  unfold IsPart
  constructor
  · rintro ⟨h1, h2⟩
    rcases key j h1 with rfl | rfl | rfl | rfl
    · omega
    · omega
    · have := h2 (mdU 12 [0, 1]) rfl; simp [isU, mdU] at this
    · omega
  · rintro (rfl | rfl | rfl)
    · exact ⟨.tail (.single s42) s20, by simp [tab5, isU, mdU]⟩
    · exact ⟨.tail (.single s42) s21, by simp [tab5, isU, mdU]⟩
    · exact ⟨.single s43, by simp [tab5, isU, mdU]⟩
theorem part6 {x j : Nat} (hx : x = 2 ∨ x = 5) : IsPart tab6 x j ↔ j = 0 ∨ j = 1 := by
  have key : ∀ j, TransGen (stepR tab6 isU) x j → j = 0 ∨ j = 1 := by
    intro j h
    induction h with
    | single h => rw [step6] at h; omega
    | tail _ h ih => rw [step6] at h; omega
  have s0 : stepR tab6 isU x 0 := by rw [step6]; omega
  have s1 : stepR tab6 isU x 1 := by rw [step6]; omega
  unfold IsPart
  constructor
  · rintro ⟨h1, h2⟩
    exact key j h1
  · rintro (rfl | rfl)
    · exact ⟨.single s0, by simp [tab6, isU, mdU]⟩
    · exact ⟨.single s1, by simp [tab6, isU, mdU]⟩
theorem twin6 : RR tab6 5 = RR tab6 2 := by
  refine R_twin (fun y => ?_) (fun r => ?_) _
  · simp [mdAt, tab6, mdU, firstC, firstL, lenC]
  · unfold keyOf
    have h1 : isU (mdAt tab6 5) = true := rfl
    have h2 : isU (mdAt tab6 2) = true := rfl
    rw [if_pos h1, if_pos h2]
    congr 1
    apply List.filter_congr
    intro v _
    have : (∃ j, IsPart tab6 5 j ∧ r j = v) ↔ ∃ j, IsPart tab6 2 j ∧ r j = v := by simp only [part6 (.inl rfl), part6 (.inr rfl)]
    rw [decide_eq_decide]
    exact this
theorem bases5 : basesOf tab5 4 = [1, 3, 0] := by
  have h : BasesOk tab5 4 [1, 3, 0] := by
    refine ⟨fun _ => ⟨[0, 1, 3], fun j => by rw [part5]; simp, ?_⟩, fun h => by simp [mdAt, tab5, isU, mdU] at h⟩
    have h13 : RR tab5 1 < RR tab5 3 := RR_kindlt (by decide) (by decide) (by decide)
    have h30 : RR tab5 3 < RR tab5 0 := RR_kindlt (by decide) (by decide) (by decide)
    refine ⟨?_, by simp, ?_⟩
    · simp
      omega
    · simp
  exact h.eq.symm
theorem right5 {u v : Int} (h : (0 ≤ u ∧ u < 5) ∧ 0 ≤ v ∧ v < 5) : rightI tab5 [u, v] = 0 := by
  unfold rightI
  rw [if_neg (by rw [check5]; simp), if_neg]
  simp [outB, tab5]
  omega
theorem has5 : hasV tab5 4 0 = .tuple [.bool true, .int .i64 0] := by
  have h13 : RR tab5 1 < RR tab5 3 := RR_kindlt (by decide) (by decide) (by decide)
  have h30 : RR tab5 3 < RR tab5 0 := RR_kindlt (by decide) (by decide) (by decide)
  have h1 : (RR tab5 1 == RR tab5 0) = false := by simp; omega
  have h3 : (RR tab5 3 == RR tab5 0) = false := by simp; omega
  unfold hasV hasB
  rw [right5 (by omega)]
  simp [bases5, atI, fidx, h1, h3]
  simp [mdAt, tab5, isU, mdU]
theorem idx5 : idxV tab5 4 0 = .tuple [.int .i64 2, .int .i64 0] := by
  have h13 : RR tab5 1 < RR tab5 3 := RR_kindlt (by decide) (by decide) (by decide)
  have h30 : RR tab5 3 < RR tab5 0 := RR_kindlt (by decide) (by decide) (by decide)
  have h1 : (RR tab5 1 == RR tab5 0) = false := by simp; omega
  have h3 : (RR tab5 3 == RR tab5 0) = false := by simp; omega
  unfold idxV
  rw [right5 (by omega)]
  simp [bases5, atI, fidx, h1, h3]
  simp [mdAt, tab5, isU, mdU]
end Go.Proofs.YtheadodblifklaaGreat

namespace Go.Proofs.YtheadodblifklaaGreat
open Go Ax
set_option maxRecDepth 100000
theorem rrNe {l : List Md} {a b : Nat} (ha : a < l.length) (hb : b < l.length) (h : (mdAt l a).kind ≠ (mdAt l b).kind) : (RR l a == RR l b) = false := by
  have : RR l a ≠ RR l b := fun e => h (RR_kind ha hb e)
  simpa using this
open Classical in
theorem left5 : leftI tab5 4 3 = [1, 0] := by
  have h1 := rrNe (l := tab5) (a := 3) (b := 1) (by decide) (by decide) (by decide)
  have h0 := rrNe (l := tab5) (a := 3) (b := 0) (by decide) (by decide) (by decide)
  have hb : ∀ z, hasRR tab5 3 z ↔ RR tab5 3 = RR tab5 z := fun z => by
    unfold hasRR
    have : ∀ j, IsBase tab5 3 j ↔ j = 3 := fun j => by
      unfold IsBase
      have h : isU (mdAt tab5 3) = false := by decide
      rw [h, if_neg (by simp)]
    simp only [this]
    exact ⟨fun ⟨j, h1, h2⟩ => by rw [← h1]; exact h2, fun h => ⟨3, rfl, h⟩⟩
  unfold leftI
  rw [bases5]
  simp at h1 h0
  simp [List.filter_cons, hb, h1, h0]
theorem without5 : withoutI tab5 4 3 = (tab5, 2, 0) := by
  unfold withoutI
  rw [right5 (by omega), if_neg (by simp), if_neg (by decide)]
  have e : leftI tab5 (Int.toNat 4) (Int.toNat 3) = [1, 0] := left5
  rw [e, if_neg (by decide)]
  unfold ofI
  rw [if_neg (by decide)]
  unfold putI
  rw [check5, if_neg (by simp)]
  have hf : findI tab5 (unionOf [1, 0]) = some 2 := by
    unfold findI
    have h6 : tab5 ++ [unionOf [1, 0]] = tab6 := rfl
    have h0 := rrNe (l := tab6) (a := 0) (b := 5) (by decide) (by decide) (by decide)
    have h1 := rrNe (l := tab6) (a := 1) (b := 5) (by decide) (by decide) (by decide)
    have hl : tab5.length = 5 := rfl
    rw [h6, check6, hl, if_neg (by decide), if_neg (by simp)]
    have : fidx (fun i => RR tab6 i == RR tab6 5) 0 (5 + 1) = 2 := by
      rw [twin6] at h0 h1
      simp at h0 h1
      simp [fidx, twin6, h0, h1]
    rw [this]
    rfl
  rw [hf]
  rfl
set_option maxHeartbeats 4000000 in
theorem k10 (m : AMem) : ACalls Tryz.prog 10 [] m fun v m' => v = .bool true ∧ m <+: m' := by
  refine w10 ?_
  simp [fillA, setN]
  have hT : RTab (m ++ [ABlk.own [.int .i64 0, .int .i64 1] 3 none, ABlk.own [.int .i64 3, .int .i64 2] 3 none,
      ABlk.own [.int .i64 3, .int .i64 0, .nilslice, .nilslice, .int .i64 0, .bool false, .int .i64 1, .int .i64 0, .nilslice, .nilslice, .int .i64 0, .bool false, .int .i64 12, .int .i64 0, .slice m.length 0 2 2 none, .nilslice, .int .i64 0, .bool false, .int .i64 2, .int .i64 0, .nilslice, .nilslice, .int .i64 0, .bool false, .int .i64 12, .int .i64 0, .slice (m.length + 1) 0 2 2 none, .nilslice, .int .i64 0, .bool false] 49 none]) (.slice (m.length + 2) 0 5 5 none) tab5 := by
    refine ⟨_, .inr ⟨_, _, _, _, rfl, ⟨by decide, .inl rfl⟩, .inr ⟨by decide, _, by simp [readB, ABlk.cells, List.getElem?_append_right]; rfl, rfl⟩⟩, fun i x hx => ?_⟩
    have i1 : RInts (m ++ [ABlk.own [.int .i64 0, .int .i64 1] 3 none, ABlk.own [.int .i64 3, .int .i64 2] 3 none, ABlk.own [.int .i64 3, .int .i64 0, .nilslice, .nilslice, .int .i64 0, .bool false, .int .i64 1, .int .i64 0, .nilslice, .nilslice, .int .i64 0, .bool false, .int .i64 12, .int .i64 0, .slice m.length 0 2 2 none, .nilslice, .int .i64 0, .bool false, .int .i64 2, .int .i64 0, .nilslice, .nilslice, .int .i64 0, .bool false, .int .i64 12, .int .i64 0, .slice (m.length + 1) 0 2 2 none, .nilslice, .int .i64 0, .bool false] 49 none]) (.slice m.length 0 2 2 none) [0, 1] :=
      .inr ⟨_, _, _, _, rfl, ⟨by decide, .inl rfl⟩, .inr ⟨by decide, _, by simp [readB, ABlk.cells]; rfl, rfl⟩⟩
    have i2 : RInts (m ++ [ABlk.own [.int .i64 0, .int .i64 1] 3 none, ABlk.own [.int .i64 3, .int .i64 2] 3 none, ABlk.own [.int .i64 3, .int .i64 0, .nilslice, .nilslice, .int .i64 0, .bool false, .int .i64 1, .int .i64 0, .nilslice, .nilslice, .int .i64 0, .bool false, .int .i64 12, .int .i64 0, .slice m.length 0 2 2 none, .nilslice, .int .i64 0, .bool false, .int .i64 2, .int .i64 0, .nilslice, .nilslice, .int .i64 0, .bool false, .int .i64 12, .int .i64 0, .slice (m.length + 1) 0 2 2 none, .nilslice, .int .i64 0, .bool false] 49 none]) (.slice (m.length + 1) 0 2 2 none) [3, 2] :=
      .inr ⟨_, _, _, _, rfl, ⟨by decide, .inl rfl⟩, .inr ⟨by decide, _, by simp [readB, ABlk.cells, List.getElem?_append_right]; rfl, rfl⟩⟩
    match i, hx with
    | 0, hx => simp [tab5, mdU] at hx; subst hx; exact ⟨_, _, rfl, Sl.nil, Sl.nil⟩
    | 1, hx => simp [tab5, mdU] at hx; subst hx; exact ⟨_, _, rfl, Sl.nil, Sl.nil⟩
    | 2, hx => simp [tab5, mdU] at hx; subst hx; exact ⟨_, _, rfl, i1, Sl.nil⟩
    | 3, hx => simp [tab5, mdU] at hx; subst hx; exact ⟨_, _, rfl, Sl.nil, Sl.nil⟩
    | 4, hx => simp [tab5, mdU] at hx; subst hx; exact ⟨_, _, rfl, i2, Sl.nil⟩
    | i + 5, hx => simp [tab5] at hx
  have hm1 := List.prefix_append m [ABlk.own [.int .i64 0, .int .i64 1] 3 none, ABlk.own [.int .i64 3, .int .i64 2] 3 none,
      ABlk.own [.int .i64 3, .int .i64 0, .nilslice, .nilslice, .int .i64 0, .bool false, .int .i64 1, .int .i64 0, .nilslice, .nilslice, .int .i64 0, .bool false, .int .i64 12, .int .i64 0, .slice m.length 0 2 2 none, .nilslice, .int .i64 0, .bool false, .int .i64 2, .int .i64 0, .nilslice, .nilslice, .int .i64 0, .bool false, .int .i64 12, .int .i64 0, .slice (m.length + 1) 0 2 2 none, .nilslice, .int .i64 0, .bool false] 49 none]
  generalize m ++ [ABlk.own [.int .i64 0, .int .i64 1] 3 none, ABlk.own [.int .i64 3, .int .i64 2] 3 none,
      ABlk.own [.int .i64 3, .int .i64 0, .nilslice, .nilslice, .int .i64 0, .bool false, .int .i64 1, .int .i64 0, .nilslice, .nilslice, .int .i64 0, .bool false, .int .i64 12, .int .i64 0, .slice m.length 0 2 2 none, .nilslice, .int .i64 0, .bool false, .int .i64 2, .int .i64 0, .nilslice, .nilslice, .int .i64 0, .bool false, .int .i64 12, .int .i64 0, .slice (m.length + 1) 0 2 2 none, .nilslice, .int .i64 0, .bool false] 49 none] = m1 at *
  generalize AVal.slice (m.length + 2) 0 5 5 none = s at *
  have hsz : ∀ x ∈ tab5, smallN x := by
    intro x hx
    simp [tab5, mdU] at hx
    rcases hx with rfl | rfl | rfl | rfl | rfl <;> simp [smallN]
  have h40 : ∀ x ∈ tab5, x.elems.length < 2 ^ 40 ∧ x.names.length < 2 ^ 40 := by
    intro x hx
    simp [tab5, mdU] at hx
    rcases hx with rfl | rfl | rfl | rfl | rfl <;> simp
  have hc1 := k12 s tab5 4 0 m1 hT hsz (fun x hx => (h40 x hx).2) (by decide)
  refine C_of hc1 ?_
  rintro _ m2 ⟨rfl, hm2⟩
  rw [has5]
  simp
  have hc2 := k14 s tab5 4 0 m2 (hT.mono hm2) hsz (fun x hx => (h40 x hx).2) (by decide)
  refine C_of hc2 ?_
  rintro _ m3 ⟨rfl, hm3⟩
  rw [idx5]
  simp
  have hc3 := k24 s tab5 4 3 m3 (hT.mono (hm2.trans hm3)) hsz h40 (by decide)
  refine C_of hc3 ?_
  rintro _ m4 ⟨hm4, t, rfl, _⟩
  rw [without5]
  simp
  exact ⟨by decide, ((hm1.trans hm2).trans hm3).trans hm4⟩
end Go.Proofs.YtheadodblifklaaGreat

namespace Go.Proofs.YtheadodblifklaaGreat
open Go Ax
set_option maxRecDepth 100000
theorem agg_store {m : AMem} {b n : Nat} {z cs : List AVal} {ty : TypeId} {g : Option Nat} (h : m[b]? = some (.own z ty g)) (h1 : cs.length = n) (h2 : z.length = n) (h3 : cs.all AVal.one = true) : ∃ m', storeE m n (.ptr b 0) (.agg cs) = some (.undef, m') ∧ m'[b]? = some (.own cs ty g) ∧ Ch (fun c => c = b) m m' := by
  refine ⟨m.set b (.own cs ty g), ?_, List.getElem?_set_self (List.getElem?_eq_some_iff.1 h).1, Ch.setS _ rfl⟩
  have hs : setN z 0 cs = cs := by
    apply List.ext_getElem?
    intro i
    rw [setN_get _ _ _ _ (by omega)]
    by_cases hi : i < cs.length
    · rw [if_pos (by omega)]; simp
    · rw [if_neg (by omega), List.getElem?_eq_none (by omega), List.getElem?_eq_none (by omega)]
  simp only [storeE, AVal.cells, h1, writeB, h]
  simp [h3, hs, h1, h2]
def OwM (lo : Nat) (m : AMem) (c : List AVal) (x : Md) : Prop := ∃ e nm, c = [.int .i64 x.kind, .int .i64 x.size, e, nm, .int .i64 x.dims, .bool x.flex] ∧ OwL (AVal.int .i64) lo m 3 e x.elems ∧ OwL AVal.str lo m 9 nm x.names
theorem OwM.mode {lo : Nat} {m : AMem} {c : List AVal} {x : Md} (h : OwM lo m c x) : RMode m c x := by
  obtain ⟨e, nm, rfl, h1, h2⟩ := h
  exact ⟨e, nm, rfl, h1.ints, Ow.sl h2⟩
theorem OwM.mono {lo : Nat} {m m' : AMem} {c : List AVal} {x : Md} (h : OwM lo m c x) (hm : m <+: m') : OwM lo m' c x := by
  obtain ⟨e, nm, rfl, h1, h2⟩ := h
  exact ⟨e, nm, rfl, h1.mono hm, h2.mono hm⟩
theorem OwM.lo {lo lo' : Nat} {m : AMem} {c : List AVal} {x : Md} (h : OwM lo m c x) (hl : lo' ≤ lo) : OwM lo' m c x := by
  obtain ⟨e, nm, rfl, h1, h2⟩ := h
  exact ⟨e, nm, rfl, h1.lo' hl, h2.lo' hl⟩
theorem OwM.ch {S : Nat → Prop} {lo : Nat} {m m' : AMem} {c : List AVal} {x : Md} (h : OwM lo m c x) (hc : Ch S m m') (hs : ∀ b, S b → b < lo) : OwM lo m' c x := by
  obtain ⟨e, nm, rfl, h1, h2⟩ := h
  exact ⟨e, nm, rfl, h1.ch hc fun b hb hS => by have := (h1.blk_lo hb).1; have := hs b hS; omega, h2.ch hc fun b hb hS => by have := (h2.blk_lo hb).1; have := hs b hS; omega⟩
theorem cellsInts {m : AMem} {s : AVal} {xs : List Int} (h : RInts m s xs) : sliceCells m 1 s = some (xs.length, xs.map fun x => .int .i64 x) := Sl.cells h
theorem cellsStrs {m : AMem} {s : AVal} {xs : List ByteArray} (h : RStrs m s xs) : sliceCells m 1 s = some (xs.length, xs.map fun x => .str x) := Sl.cells h
set_option maxHeartbeats 2000000 in
theorem k141 (c : List AVal) (x : Md) (m : AMem) (hx : RMode m c x) (hsz : x.elems.length < 2 ^ 40 ∧ x.names.length < 2 ^ 40) :
    ACalls Tryz.prog 141 [.agg c] m fun v m' => m <+: m' ∧ ∃ c', v = .agg c' ∧ OwM m.length m' c' x := by
  obtain ⟨e, nm, rfl, he, hnm⟩ := hx
  refine w141 ?_
  have h1 := Sl.one he
  have h2 := Sl.one hnm
  simp [h1, h2]
  have hbA : (m ++ [ABlk.own [.int .i64 x.kind, .int .i64 x.size, e, nm, .int .i64 x.dims, .bool x.flex] 49 none, ABlk.own [.int .i64 0, .int .i64 0, .nilslice, .nilslice, .int .i64 0, .bool false] 49 none])[m.length]? = some (ABlk.own [.int .i64 x.kind, .int .i64 x.size, e, nm, .int .i64 x.dims, .bool x.flex] 49 none) := by simp
  have hbB : (m ++ [ABlk.own [.int .i64 x.kind, .int .i64 x.size, e, nm, .int .i64 x.dims, .bool x.flex] 49 none, ABlk.own [.int .i64 0, .int .i64 0, .nilslice, .nilslice, .int .i64 0, .bool false] 49 none])[m.length + 1]? = some (ABlk.own [.int .i64 0, .int .i64 0, .nilslice, .nilslice, .int .i64 0, .bool false] 49 none) := by rw [List.getElem?_append_right (by omega)]; simp
  have hm01 : m <+: m ++ [ABlk.own [.int .i64 x.kind, .int .i64 x.size, e, nm, .int .i64 x.dims, .bool x.flex] 49 none, ABlk.own [.int .i64 0, .int .i64 0, .nilslice, .nilslice, .int .i64 0, .bool false] 49 none] := List.prefix_append _ _
  have hl : (m ++ [ABlk.own [.int .i64 x.kind, .int .i64 x.size, e, nm, .int .i64 x.dims, .bool x.flex] 49 none, ABlk.own [.int .i64 0, .int .i64 0, .nilslice, .nilslice, .int .i64 0, .bool false] 49 none]).length = m.length + 2 := by simp
  generalize m ++ [ABlk.own [.int .i64 x.kind, .int .i64 x.size, e, nm, .int .i64 x.dims, .bool x.flex] 49 none, ABlk.own [.int .i64 0, .int .i64 0, .nilslice, .nilslice, .int .i64 0, .bool false] 49 none] = m1 at *
  -- the numbers
  have hN := OwL.new (f := AVal.int .i64) m1 3 []
  have hm12 : m1 <+: m1 ++ [.own ([].map (AVal.int .i64)) 3 none] := List.prefix_append _ _
  simp [fillA] at hN ⊢
  replace hm12 : m1 <+: m1 ++ [.own [] 3 none] := hm12
  have hl2 := hm12.length_le
  generalize m1 ++ [.own [] 3 none] = m2 at *
  have hr2 := bx (own_read (own_mono hbA hm12)) 2
  simp at hr2
  obtain ⟨t1, m3, happ, hch3, hO, hbl⟩ := hN.append (by omega) (by_ := 8) (by decide) x.elems (by simp; omega)
  have hm03 : m <+: m3 := hch3.pre (hm01.trans hm12) fun b hb h => by simp [AVal.blk] at h; omega
  have hbA3 := own_ch (own_mono hbA hm12) hch3 fun h => by simp [AVal.blk] at h; omega
  have hbB3 := own_ch (own_mono hbB hm12) hch3 fun h => by simp [AVal.blk] at h; omega
  have hO1 : OwL (AVal.int .i64) m1.length m3 3 t1 x.elems := by simpa using hO
  have ts := (Ow.sl hO1).self
  obtain ⟨m4, hst4, hbA4, hch4⟩ := fld_store (i := 2) hbA3 (by simp) ts.2 ts.1
  simp [hr2, cellsInts (he.mono (hm01.trans hm12)), happ, hst4]
  have hm04 : m <+: m4 := hch4.pre hm03 fun b hb h => by omega
  have hbB4 := own_ch hbB3 hch4 fun h => by omega
  have hO4 := hO1.ch hch4 fun b hb h => by have := (hO1.blk_lo hb).1; omega
  have hl34 : m3.length ≤ m4.length := hch4.len
  have hl23 : m2.length ≤ m3.length := hch3.len
  simp at hbA4
  clear hst4 happ hN hr2 hch3 hch4 hO hO1 hbA3 hbB3
  -- the texts
  have hN := OwL.new (f := AVal.str) m4 9 []
  have hm45 : m4 <+: m4 ++ [.own ([].map AVal.str) 9 none] := List.prefix_append _ _
  simp [fillA] at hN ⊢
  replace hm45 : m4 <+: m4 ++ [.own [] 9 none] := hm45
  have hl5 := hm45.length_le
  generalize m4 ++ [.own [] 9 none] = m5 at *
  have hr5 := bx (own_read (own_mono hbA4 hm45)) 3
  simp at hr5
  obtain ⟨t2, m6, happ, hch6, hO, hbl2⟩ := hN.append (by omega) (by_ := 16) (by decide) x.names (by simp; omega)
  have hm06 : m <+: m6 := hch6.pre (hm04.trans hm45) fun b hb h => by simp [AVal.blk] at h; have := hm04.length_le; omega
  have hbA6 := own_ch (own_mono hbA4 hm45) hch6 fun h => by simp [AVal.blk] at h; have := hm04.length_le; omega
  have hbB6 := own_ch (own_mono hbB4 hm45) hch6 fun h => by simp [AVal.blk] at h; omega
  have hO6 : OwL AVal.str m4.length m6 9 t2 x.names := by simpa using hO
  have hI6 := (hO4.mono hm45).ch hch6 fun b hb h => by simp [AVal.blk] at h; have := (hO4.blk_lo hb).2; omega
  have ts2 := (Ow.sl hO6).self
  obtain ⟨m7, hst7, hbA7, hch7⟩ := fld_store (i := 3) hbA6 (by simp) ts2.2 ts2.1
  simp [hr5, cellsStrs (hnm.mono (hm04.trans hm45)), happ, hst7]
  have hm07 : m <+: m7 := hch7.pre hm06 fun b hb h => by omega
  have hbB7 := own_ch hbB6 hch7 fun h => by omega
  have hO7 := hO6.ch hch7 fun b hb h => by have := (hO6.blk_lo hb).1; omega
  have hI7 := hI6.ch hch7 fun b hb h => by have := (hI6.blk_lo hb).1; omega
  simp at hbA7
  have hrA := bxW (own_read hbA7) 6
  simp [readN] at hrA
  have hall : [AVal.int .i64 x.kind, .int .i64 x.size, t1, t2, .int .i64 x.dims, .bool x.flex].all AVal.one = true := by simp [ts.1, ts2.1]
  obtain ⟨m8, hst8, hbB8, hch8⟩ := agg_store (n := 6) hbB7 (cs := [.int .i64 x.kind, .int .i64 x.size, t1, t2, .int .i64 x.dims, .bool x.flex]) rfl rfl hall
  have hrB := bxW (own_read hbB8) 6
  simp [readN] at hrB
  simp [hrA, hst8, hrB]
  exact ⟨hch8.pre hm07 fun b hb h => by omega, t1, t2, rfl, (hI7.ch hch8 fun b hb h => by have := (hI7.blk_lo hb).1; omega).lo' (by omega), (hO7.ch hch8 fun b hb h => by have := (hO7.blk_lo hb).1; omega).lo' (by omega)⟩
theorem OwT.pushM {lo : Nat} {m : AMem} {s : AVal} {l : List Md} (h : OwT lo m s l) (hlo : lo ≤ m.length) {c : List AVal} {x : Md} {q : Nat} (hx : OwM q m c x) (hq : ∀ b, s.blk = some b → b < q) (hn : l.length < 2 ^ 30) :
    ∃ s' m', appendE m 6 80 49 s 1 c = some (s', m') ∧ Ch (fun b => s.blk = some b) m m' ∧ OwT lo m' s' (l ++ [x]) ∧ (∀ b, s'.blk = some b → s.blk = some b ∨ m.length ≤ b) :=
  h.push hlo (fun _ hc => (hx.ch hc fun b hb => hq b hb).mode) hn
theorem lit6 (m : AMem) (c : List AVal) (hc : c.length = 6) (g : Option Nat) : sliceCells (m ++ [.own c 49 g]) 6 (.slice m.length 0 1 1 none) = some (1, c) := by
  simp [sliceCells, readB, ABlk.cells, readN, hc, List.take_of_length_le]
theorem lit6' {m : AMem} {b : Nat} {c : List AVal} {g : Option Nat} (h : m[b]? = some (.own c 49 g)) (hc : c.length = 6) : sliceCells m 6 (.slice b 0 1 1 none) = some (1, c) := by
  simp [sliceCells, readB, h, ABlk.cells, readN, hc, List.take_of_length_le]
set_option maxHeartbeats 2000000 in
theorem k139 (s : AVal) (l : List Md) (m : AMem) (hs : RTab m s l) (hsz : ∀ x ∈ l, x.elems.length < 2 ^ 40 ∧ x.names.length < 2 ^ 40) (hn : l.length < 2 ^ 20) :
    ACalls Tryz.prog 139 [s] m fun v m' => m <+: m' ∧ OwT m.length m' v l := by
  refine w139 ?_
  simp
  obtain ⟨I, hI⟩ : ∃ I : Nat → AFrame → AMem → Prop, ∀ q f m', I q f m' ↔ (∃ (k : Nat) (o : AVal), k + q = l.length ∧ f = h139_0 s o (.int .i64 k) ∧ m <+: m' ∧ OwT m.length m' o (l.take k)) := ⟨_, fun _ _ _ => Iff.rfl⟩
  refine W_loop I l.length ((hI _ _ _).2 ⟨0, .nilslice, by simp, by simp, List.prefix_refl _, [], .nil, by simp⟩) ?_
  rintro q f m1 hIn
  obtain ⟨k, o, hk, rfl, hm1, hO⟩ := (hI _ _ _).1 hIn
  clear hIn
  simp [(hs.mono hm1).len]
  refine bbind_dec (fun hkl => ?_) fun hkl => ?_
  · have hkl : k < l.length := by omega
    have hw := step64 (k := k) (n := l.length) hkl (by omega)
    obtain ⟨q, rfl⟩ : ∃ q', q = q' + 1 := ⟨q - 1, by omega⟩
    obtain ⟨bx', ox, c, h4, h5, _, _, h6⟩ := (hs.mono hm1).atC hkl
    simp [h4, h5]
    refine C_of (k141 c l[k] m1 h6 (hsz _ (List.getElem_mem hkl))) ?_
    rintro _ m2 ⟨hm2, c', rfl, hM⟩
    have hcl := hM.mode.all
    have hm23 : m2 <+: m2 ++ [ABlk.own c' 49 none] := List.prefix_append _ _
    have hsc := lit6 m2 c' hcl.1 none
    have hOb : ∀ b, o.blk = some b → b < m1.length := fun b hb => (hO.blk_lo hb).2
    obtain ⟨e, nm, hce, _, _⟩ := id hM
    have hfill : fillA [.int .i64 0, .int .i64 0, .nilslice, .nilslice, .int .i64 0, .bool false] [(0, 6, .agg c')] = some c' := by
      subst hce
      have h := hcl.2
      simp only [List.all_cons, List.all_nil, Bool.and_eq_true] at h
      simp [fillA, setN, h.2.2.1, h.2.2.2.1]
    simp [hfill]
    generalize m2 ++ [ABlk.own c' 49 none] = m3 at *
    have hm13 := hm2.trans hm23
    obtain ⟨o', m4, happ, hch, hO4, _⟩ := (hO.mono hm13).pushM (by have := (hm1.trans hm13).length_le; omega) (hM.mono hm23) hOb (by simp; omega)
    simp [hsc, happ, hw]
    refine ⟨q, by omega, (hI _ _ _).2 ⟨k + 1, o', by omega, by simp, hch.pre (hm1.trans hm13) fun b hb h => by have := (hO.blk_lo h).1; omega, ?_⟩⟩
    rw [List.take_add_one, List.getElem?_eq_getElem hkl]
    exact hO4
  · have hkl : k = l.length := by omega
    subst hkl
    rw [List.take_length] at hO
    simp
    exact ⟨hm1, hO⟩
end Go.Proofs.YtheadodblifklaaGreat

namespace Go.Proofs.YtheadodblifklaaGreat.Ax
open Go Go.ChangeShapes Go.WideShapes Go.ChangeAt Go.RowKit
set_option maxRecDepth 100000
def RoMem (m : AMem) : Prop := ∀ (b : Nat) blk, m[b]? = some blk → blk.isOwn = false
theorem Sim.nil (w : World) : Sim [] [] w := ⟨rfl, by simp, by simp, by simp⟩
theorem RoMem.nil : RoMem [] := by intro b blk h; simp at h
theorem Sim.ro {ρ : List RB} {m : AMem} {w : World} (h : Sim ρ m w) (hm : RoMem m) {a : RB} (cs : List AVal) (ha : a.block < w.heap.size) (hc : ∀ (i : Nat) x, cs[i]? = some x → ∃ v, w.cell? (at_ a i) = some v ∧ VR ρ x v) :
    Sim (ρ ++ [a]) (m ++ [.ro cs]) w ∧ RoMem (m ++ [.ro cs]) := by
  have hp : ρ <+: ρ ++ [a] := List.prefix_append _ _
  have hr : RoMem (m ++ [.ro cs]) := by
    intro b blk hb
    rcases Nat.lt_or_ge b m.length with hlt | hge
    · rw [List.getElem?_append_left hlt] at hb; exact hm b blk hb
    · rw [List.getElem?_append_right hge] at hb
      cases hk : b - m.length with
      | zero => rw [hk] at hb; simp at hb; subst hb; rfl
      | succ k => rw [hk] at hb; simp at hb
  refine ⟨⟨by simp [h.len], ?_, ?_, ?_⟩, hr⟩
  · intro b blk a' hb ha'
    rcases Nat.lt_or_ge b m.length with hlt | hge
    · rw [List.getElem?_append_left hlt] at hb
      rw [List.getElem?_append_left (by rw [h.len]; exact hlt)] at ha'
      exact (h.ok b blk a' hb ha').mono hp
    · rw [List.getElem?_append_right hge] at hb
      rw [List.getElem?_append_right (by rw [h.len]; exact hge), h.len] at ha'
      cases hk : b - m.length with
      | zero =>
        rw [hk] at hb ha'
        simp only [List.getElem?_cons_zero, Option.some.injEq] at hb ha'
        subst hb ha'
        intro i x hx
        obtain ⟨v, h1, h2⟩ := hc i x hx
        exact ⟨v, h1, VR.mono hp x v h2⟩
      | succ k => rw [hk] at hb; simp at hb
  · intro b b' blk blk' a1 a2 _ hb _ _ _ ho
    rw [hr b blk hb] at ho
    simp at ho
  · intro b a' ha'
    rcases Nat.lt_or_ge b ρ.length with hlt | hge
    · rw [List.getElem?_append_left hlt] at ha'; exact h.bound b a' ha'
    · rw [List.getElem?_append_right hge] at ha'
      cases hk : b - ρ.length with
      | zero => rw [hk] at ha'; simp at ha'; subst ha'; exact ha
      | succ k => rw [hk] at ha'; simp at ha'
theorem slice_in {ρ : List RB} {m : AMem} {w : World} (h : Sim ρ m w) (hm : RoMem m) (hne : 0 < w.heap.size) {a : Addr} {len cap esz : Nat} (hlc : len ≤ cap)
    (hcell : cap ≠ 0 → ∃ v, w.cell? a = some v) {xs : List AVal} (hx : xs.length = len * esz) (hc : ∀ (i : Nat) x, xs[i]? = some x → ∃ v, w.cell? (a.add i) = some v ∧ VR ρ x v) :
    ∃ ρ' m' s, ρ <+: ρ' ∧ m <+: m' ∧ RoMem m' ∧ Sim ρ' m' w ∧ VR ρ' s (.slice (some a) len cap) ∧ Sl m' esz s len xs := by
  by_cases hcap : cap = 0
  · subst hcap
    obtain rfl : len = 0 := by omega
    obtain rfl : xs = [] := List.eq_nil_of_length_eq_zero (by simpa using hx)
    obtain ⟨h1, h2⟩ := h.ro hm (a := ⟨0, 0, 0, 0⟩) [] hne (by simp)
    refine ⟨_, _, .slice m.length 0 0 0 none, List.prefix_append _ _, List.prefix_append _ _, h2, h1, ?_, .inr ⟨_, _, _, _, rfl, ⟨by omega, .inl rfl⟩, .inl ⟨rfl, rfl⟩⟩⟩
    simp only [VR]
    exact ⟨⟨0, 0, 0, 0⟩, a, 0, rfl, by rw [← h.len]; simp, by simp, by omega, by simp, by omega, by simp⟩
  · obtain ⟨v0, hv0⟩ := hcell hcap
    have hs := World.cell?_spot hv0
    obtain ⟨b, off, sp⟩ := a
    simp only at hs
    subst hs
    have hb : b < w.heap.size := by
      rcases Nat.lt_or_ge b w.heap.size with hlt | hge
      · exact hlt
      · unfold World.cell? at hv0
        simp only [Array.getElem?_eq_none hge] at hv0
        simp at hv0
    obtain ⟨h1, h2⟩ := h.ro hm (a := ⟨b, off, 0, 0⟩) xs hb fun i x hx => by
      obtain ⟨v, h1, h2⟩ := hc i x hx
      rw [Go.WideShapes.add_plain] at h1
      exact ⟨v, h1, h2⟩
    refine ⟨_, _, .slice m.length 0 len cap none, List.prefix_append _ _, List.prefix_append _ _, h2, h1, ?_, .inr ⟨_, _, _, _, rfl, ⟨hlc, .inl rfl⟩, ?_⟩⟩
    · simp only [VR]
      exact ⟨⟨b, off, 0, 0⟩, _, cap, rfl, by rw [← h.len]; simp, by simp, hlc, by simp, by omega, by simp⟩
    · by_cases hl : len = 0
      · subst hl
        exact .inl ⟨rfl, List.eq_nil_of_length_eq_zero (by simpa using hx)⟩
      · refine .inr ⟨hl, xs, by simp [readB, ABlk.cells], ?_⟩
        have h0 : 0 + len * esz ≤ xs.length := by omega
        unfold readN
        rw [if_pos h0, List.drop_zero, List.take_of_length_le (by omega)]
def Enters (w : World) (vs : List Value) (Rep : AMem → List AVal → Prop) : Prop :=
  ∀ ρ m, Sim ρ m w → RoMem m → ∃ ρ' m' xs, ρ <+: ρ' ∧ m <+: m' ∧ RoMem m' ∧ Sim ρ' m' w ∧ VRs ρ' xs vs ∧ Rep m' xs
variable {H : Type} {enc : TypeId × Value → H} {P : Program} {w : World} {base : Nat} {spare : Nat → Bool} {held : Bool}
theorem enters_ints (hne : 0 < w.heap.size) {t e : TypeId} {fuel : Nat} {cs : List Value} {x : DataW H × List MemPlace} (ht : P.underlying t = some (.slice e)) (he : P.underlying e = some (.int .i64)) (hc : P.cellsOf e = 1)
    (h : DataW.trod enc P w base (fun _ => true) held fuel t cs = some x) :
    ∃ zs : List Int, Enters w cs (fun m xs => ∃ s, xs = [s] ∧ RInts m s zs) ∧ (P.bytesOf e = 8 → ∀ B, (x.1.weights P t).all (· ≤ B) = true → zs.length ≤ B) := by
  rcases open_ints ht he hc h with ⟨rfl, rfl⟩ | ⟨a, len, cap, zs, rfl, _, hlc, _, hz, rfl, hcell, _⟩
  · exact ⟨[], fun ρ m hs hm => ⟨ρ, m, [.nilslice], List.prefix_refl _, List.prefix_refl _, hm, hs, by simp [VRs, VR], .nilslice, rfl, Sl.nil⟩, by simp⟩
  · simp only [if_true] at hz
    refine ⟨zs.take len, fun ρ m hs hm => ?_, ?_⟩
    · obtain ⟨ρ', m', s, h1, h2, h3, h4, h5, h6⟩ := slice_in (esz := 1) hs hm hne hlc (fun hcap => ⟨_, by have := hcell 0 (by omega); simpa [Addr.add] using this⟩) (xs := (zs.take len).map fun x => .int .i64 x) (by simp; omega)
        (fun i x hx => by
          simp only [List.getElem?_map, Option.map_eq_some_iff] at hx
          obtain ⟨z, hz', rfl⟩ := hx
          have hi : i < zs.length := by
            have := (List.getElem?_eq_some_iff.1 hz').1
            simp at this; omega
          have hg : zs[i]? = some z := by
            rw [List.getElem?_take] at hz'
            split at hz'
            · exact hz'
            · simp at hz'
          exact ⟨_, hcell i hi, by simp [VR, List.getD, hg]⟩)
      refine ⟨ρ', m', [s], h1, h2, h3, h4, by simp only [VRs]; exact ⟨_, _, rfl, h5, rfl⟩, s, rfl, ?_⟩
      have hl : (zs.take len).length = len := by simp; omega
      unfold RInts
      rw [hl]
      exact h6
    · intro hb B hB
      simp only [DataW.weights, ht, List.all_cons, Bool.and_eq_true, decide_eq_true_eq] at hB
      have := hB.1
      rw [hb] at this
      simp [lits] at this ⊢
      omega
theorem enters_strs (hne : 0 < w.heap.size) {t e : TypeId} {fuel : Nat} {cs : List Value} {x : DataW H × List MemPlace} (ht : P.underlying t = some (.slice e)) (he : P.underlying e = some .string) (hc : P.cellsOf e = 1)
    (h : DataW.trod enc P w base (fun _ => true) held fuel t cs = some x) :
    ∃ zs : List ByteArray, Enters w cs (fun m xs => ∃ s, xs = [s] ∧ RStrs m s zs) ∧ (P.bytesOf e = 16 → ∀ B, (x.1.weights P t).all (· ≤ B) = true → zs.length ≤ B ∧ ∀ z ∈ zs, z.size ≤ B) := by
  rcases open_strings ht he hc h with ⟨rfl, rfl⟩ | ⟨a, len, cap, zs, rfl, _, hlc, _, hz, rfl, hcell, _⟩
  · exact ⟨[], fun ρ m hs hm => ⟨ρ, m, [.nilslice], List.prefix_refl _, List.prefix_refl _, hm, hs, by simp [VRs, VR], .nilslice, rfl, Sl.nil⟩, by simp⟩
  · simp only [if_true] at hz
    refine ⟨zs.take len, fun ρ m hs hm => ?_, ?_⟩
    · obtain ⟨ρ', m', s, h1, h2, h3, h4, h5, h6⟩ := slice_in (esz := 1) hs hm hne hlc (fun hcap => ⟨_, by have := hcell 0 (by omega); simpa [Addr.add] using this⟩) (xs := (zs.take len).map fun x => .str x) (by simp; omega)
        (fun i x hx => by
          simp only [List.getElem?_map, Option.map_eq_some_iff] at hx
          obtain ⟨z, hz', rfl⟩ := hx
          have hi : i < zs.length := by
            have := (List.getElem?_eq_some_iff.1 hz').1
            simp at this; omega
          have hg : zs[i]? = some z := by
            rw [List.getElem?_take] at hz'
            split at hz'
            · exact hz'
            · simp at hz'
          exact ⟨_, hcell i hi, by simp [VR, List.getD, hg]⟩)
      refine ⟨ρ', m', [s], h1, h2, h3, h4, by simp only [VRs]; exact ⟨_, _, rfl, h5, rfl⟩, s, rfl, ?_⟩
      have hl : (zs.take len).length = len := by simp; omega
      unfold RStrs
      rw [hl]
      exact h6
    · intro hb B hB
      simp only [DataW.weights, ht, List.all_cons, Bool.and_eq_true, decide_eq_true_eq, List.all_append] at hB
      obtain ⟨h1, h2, _⟩ := hB
      rw [hb] at h1
      refine ⟨by simp [strs] at h1 ⊢; omega, fun z hz' => ?_⟩
      have key : ∀ l : List ByteArray, (DataW.weightsAll (H := H) P e (strs l)).all (· ≤ B) = true → ∀ z ∈ l, z.size ≤ B := by
        intro l
        induction l with
        | nil => simp
        | cons y ys ih =>
          intro hl z hz
          simp only [strs, List.map_cons, DataW.weightsAll, DataW.weights, List.cons_append, List.nil_append, List.all_cons, Bool.and_eq_true, decide_eq_true_eq] at hl
          rcases List.mem_cons.1 hz with rfl | hz
          · have := hl.1; simpa using this
          · exact ih (by simpa [strs] using hl.2) z hz
      exact key _ h2 z hz'
structure ModeT (P : Program) where
  tT : TypeId
  tM : TypeId
  tI : TypeId
  eI : TypeId
  tS : TypeId
  eS : TypeId
  k0 : TypeId
  k1 : TypeId
  k4 : TypeId
  k5 : TypeId
  fs : Array Field
  hT : P.underlying tT = some (.slice tM)
  hM : P.underlying tM = some (.struct fs)
  hI : P.underlying tI = some (.slice eI)
  hi : P.underlying eI = some (.int .i64)
  hS : P.underlying tS = some (.slice eS)
  hs : P.underlying eS = some .string
  h0 : P.underlying k0 = some (.int .i64)
  h1 : P.underlying k1 = some (.int .i64)
  h4 : P.underlying k4 = some (.int .i64)
  h5 : P.underlying k5 = some .bool
  cM : P.cellsOf tM = 6
  ci : P.cellsOf eI = 1
  cs : P.cellsOf eS = 1
  c0 : P.cellsOf k0 = 1
  c1 : P.cellsOf k1 = 1
  cI : P.cellsOf tI = 1
  cS : P.cellsOf tS = 1
  c4 : P.cellsOf k4 = 1
  c5 : P.cellsOf k5 = 1
  bi : P.bytesOf eI = 8
  bs : P.bytesOf eS = 16
  bM : 1 ≤ P.bytesOf tM
  sz : fs.size = 6
  f0 : (fs[0]?).map (fun f => (f.type, f.offset)) = some (k0, 0)
  f1 : (fs[1]?).map (fun f => (f.type, f.offset)) = some (k1, 1)
  f2 : (fs[2]?).map (fun f => (f.type, f.offset)) = some (tI, 2)
  f3 : (fs[3]?).map (fun f => (f.type, f.offset)) = some (tS, 3)
  f4 : (fs[4]?).map (fun f => (f.type, f.offset)) = some (k4, 4)
  f5 : (fs[5]?).map (fun f => (f.type, f.offset)) = some (k5, 5)
structure MdB (B : Nat) (x : Md) : Prop where
  elems : x.elems.length ≤ B
  names : x.names.length ≤ B
  each : ∀ z ∈ x.names, z.size ≤ B
theorem field_of {fs : Array Field} {i : Nat} {t : TypeId} {o : Nat} (h : (fs[i]?).map (fun f => (f.type, f.offset)) = some (t, o)) : ∃ f, fs[i]? = some f ∧ f.type = t ∧ f.offset = o := by
  cases hf : fs[i]? with
  | none => rw [hf] at h; simp at h
  | some f => rw [hf] at h; simp at h; exact ⟨f, rfl, h.1, h.2⟩
theorem weights_parts {e : TypeId} {fs : Array Field} (ht : P.underlying e = some (.struct fs)) {xs : List (DataW H × List MemPlace)} {i : Nat} {f : Field} {y : DataW H × List MemPlace} (hf : fs[i]? = some f) (hy : xs[i]? = some y) {B : Nat}
    (h : ((DataW.agg (xs.map (·.1))).weights P e).all (· ≤ B) = true) : (y.1.weights P f.type).all (· ≤ B) = true := by
  simp only [DataW.weights, ht] at h
  rw [List.all_eq_true] at h ⊢
  intro n hn
  exact h n (DataW.weights_mem_each (j := i) (t := f.type) (d := y.1) (by simp [hf]) (by simp [hy]) n hn)
theorem enters_mode (hne : 0 < w.heap.size) (T : ModeT P) {fuel : Nat} {cs : List Value} {x : DataW H × List MemPlace} (h : DataW.trod enc P w base (fun _ => true) held fuel T.tM cs = some x) :
    ∃ md : Md, Enters w cs (fun m xs => RMode m xs md) ∧ (∀ B, (x.1.weights P T.tM).all (· ≤ B) = true → MdB B md) := by
  obtain ⟨xs, n, _, rfl, hl, hxl, hall⟩ := DataW.trod_struct T.hM h
  rw [T.cM] at hl
  rw [T.sz] at hxl
  obtain ⟨c0, c1, c2, c3, c4, c5, rfl⟩ : ∃ c0 c1 c2 c3 c4 c5, cs = [c0, c1, c2, c3, c4, c5] := by
    match cs, hl with
    | [c0, c1, c2, c3, c4, c5], _ => exact ⟨_, _, _, _, _, _, rfl⟩
  obtain ⟨x0, x1, x2, x3, x4, x5, rfl⟩ : ∃ c0 c1 c2 c3 c4 c5, xs = [c0, c1, c2, c3, c4, c5] := by
    match xs, hxl with
    | [c0, c1, c2, c3, c4, c5], _ => exact ⟨_, _, _, _, _, _, rfl⟩
  obtain ⟨g0, a0, t0, o0⟩ := field_of T.f0
  obtain ⟨g1, a1, t1, o1⟩ := field_of T.f1
  obtain ⟨g2, a2, t2, o2⟩ := field_of T.f2
  obtain ⟨g3, a3, t3, o3⟩ := field_of T.f3
  obtain ⟨g4, a4, t4, o4⟩ := field_of T.f4
  obtain ⟨g5, a5, t5, o5⟩ := field_of T.f5
  have e0 := hall 0 g0 a0
  have e1 := hall 1 g1 a1
  have e2 := hall 2 g2 a2
  have e3 := hall 3 g3 a3
  have e4 := hall 4 g4 a4
  have e5 := hall 5 g5 a5
  rw [t0, o0, T.c0] at e0
  rw [t1, o1, T.c1] at e1
  rw [t2, o2, T.cI] at e2
  rw [t3, o3, T.cS] at e3
  rw [t4, o4, T.c4] at e4
  rw [t5, o5, T.c5] at e5
  simp only [List.drop_zero, List.drop_succ_cons, List.take_succ_cons, List.take_zero, List.getElem?_cons_zero, List.getElem?_cons_succ] at e0 e1 e2 e3 e4 e5
  obtain ⟨n0, q0, rfl, _⟩ := DataW.trod_int T.h0 e0
  obtain ⟨n1, q1, rfl, _⟩ := DataW.trod_int T.h1 e1
  obtain ⟨n4, q4, rfl, _⟩ := DataW.trod_int T.h4 e4
  obtain ⟨n5, q5, rfl⟩ := DataW.trod_bool T.h5 e5
  simp only [List.cons.injEq, and_true] at q0 q1 q4 q5
  subst q0 q1 q4 q5
  obtain ⟨el, hel, hel'⟩ := enters_ints hne T.hI T.hi T.ci e2
  obtain ⟨nm, hnm, hnm'⟩ := enters_strs hne T.hS T.hs T.cs e3
  refine ⟨⟨n0, n1, el, nm, n4, n5⟩, fun ρ m hs hm => ?_, fun B hB => ?_⟩
  · obtain ⟨ρ1, m1, ys, h1, h2, h3, h4, h5, s, rfl, h6⟩ := hel ρ m hs hm
    obtain ⟨ρ2, m2, ys, k1, k2, k3, k4, k5, s', rfl, k6⟩ := hnm ρ1 m1 h4 h3
    simp only [VRs] at h5 k5
    obtain ⟨_, _, hh, h5, rfl⟩ := h5
    obtain ⟨_, _, hk, k5, rfl⟩ := k5
    simp only [List.cons.injEq, and_true] at hh hk
    subst hh hk
    refine ⟨ρ2, m2, [.int .i64 n0, .int .i64 n1, s, s', .int .i64 n4, .bool n5], h1.trans k1, h2.trans k2, k3, k4, ?_, s, s', rfl, h6.mono k2, k6⟩
    simp only [VRs, VR]
    exact ⟨_, _, rfl, rfl, _, _, rfl, rfl, _, _, rfl, VR.mono k1 _ _ h5, _, _, rfl, k5, _, _, rfl, rfl, _, _, rfl, rfl, rfl⟩
  · have w2 := weights_parts (i := 2) T.hM a2 (y := x2) (by simp) hB
    have w3 := weights_parts (i := 3) T.hM a3 (y := x3) (by simp) hB
    rw [t2] at w2
    rw [t3] at w3
    obtain ⟨p1, p2⟩ := hnm' T.bs B w3
    exact ⟨hel' T.bi B w2, p1, p2⟩
theorem weightsAll_mem {e : TypeId} {B : Nat} : ∀ {l : List (DataW H)}, (DataW.weightsAll P e l).all (· ≤ B) = true → ∀ d ∈ l, (d.weights P e).all (· ≤ B) = true
  | [], _, d, hd => by simp at hd
  | y :: ys, h, d, hd => by
    simp only [DataW.weightsAll, List.all_append, Bool.and_eq_true] at h
    rcases List.mem_cons.1 hd with rfl | hd
    · exact h.1
    · exact weightsAll_mem h.2 d hd
theorem enters_tab (T : ModeT P) {fuel : Nat} {cs : List Value} (hne : ∀ a len cap, cs = [.slice (some a) len cap] → 0 < w.heap.size) {x : DataW H × List MemPlace} (h : DataW.trod enc P w base (fun _ => true) held fuel T.tT cs = some x) :
    ∃ l : List Md, Enters w cs (fun m xs => ∃ s, xs = [s] ∧ RTab m s l) ∧ (∀ B, (x.1.weights P T.tT).all (· ≤ B) = true → l.length ≤ B ∧ ∀ md ∈ l, MdB B md) := by
  rcases Go.Deep.open_slice T.hT h with ⟨rfl, rfl⟩ | ⟨a, len, cap, mm, n, D, Pl, rfl, _, hlc, _, hmm, rfl, hel⟩
  · exact ⟨[], fun ρ m hs hm => ⟨ρ, m, [.nilslice], List.prefix_refl _, List.prefix_refl _, hm, hs, by simp [VRs, VR], .nilslice, rfl, [], Sl.nil, by simp⟩, by simp⟩
  · replace hne := hne _ _ _ rfl
    simp only [if_true] at hmm
    subst hmm
    rw [T.cM] at hel
    have hmd : ∀ i, i < len → ∃ (cs' : List Value) (md : Md), w.cells? base (a.add (i * 6)) 6 = some cs' ∧ Enters w cs' (fun m xs => RMode m xs md) ∧ (∀ B, ((D i).weights P T.tM).all (· ≤ B) = true → MdB B md) := by
      intro i hi
      obtain ⟨cs', h1, h2⟩ := hel i (by omega)
      obtain ⟨md, h3, h4⟩ := enters_mode hne T h2
      exact ⟨cs', md, h1, h3, h4⟩
    have hl : ∃ l : List Md, l.length = len ∧ ∀ (i : Nat) md, l[i]? = some md → ∃ (cs' : List Value), w.cells? base (a.add (i * 6)) 6 = some cs' ∧ Enters w cs' (fun m xs => RMode m xs md) ∧ (∀ B, ((D i).weights P T.tM).all (· ≤ B) = true → MdB B md) := by
      have : ∀ k, k ≤ len → ∃ l : List Md, l.length = k ∧ ∀ (i : Nat) md, l[i]? = some md → ∃ (cs' : List Value), w.cells? base (a.add (i * 6)) 6 = some cs' ∧ Enters w cs' (fun m xs => RMode m xs md) ∧ (∀ B, ((D i).weights P T.tM).all (· ≤ B) = true → MdB B md) := by
        intro k
        induction k with
        | zero => exact fun _ => ⟨[], rfl, by simp⟩
        | succ k ih =>
          intro hk
          obtain ⟨l, h1, h2⟩ := ih (by omega)
          obtain ⟨cs', md, h3, h4⟩ := hmd k (by omega)
          refine ⟨l ++ [md], by simp [h1], fun i md' hi => ?_⟩
          rcases Nat.lt_or_ge i l.length with hlt | hge
          · rw [List.getElem?_append_left hlt] at hi; exact h2 i md' hi
          · rw [List.getElem?_append_right hge] at hi
            cases hj : i - l.length with
            | zero =>
              rw [hj] at hi
              simp only [List.getElem?_cons_zero, Option.some.injEq] at hi
              subst hi
              obtain rfl : i = k := by omega
              exact ⟨cs', h3, h4⟩
            | succ j => rw [hj] at hi; simp at hi
      exact this len (Nat.le_refl _)
    obtain ⟨l, hlen, hl⟩ := hl
    refine ⟨l, fun ρ m hs hm => ?_, fun B hB => ?_⟩
    · have key : ∀ k, k ≤ len → ∃ (ρ' : List RB) (m' : AMem) (xs : List AVal), ρ <+: ρ' ∧ m <+: m' ∧ RoMem m' ∧ Sim ρ' m' w ∧ xs.length = k * 6 ∧ (∀ (i : Nat) x, xs[i]? = some x → ∃ v, w.cell? (a.add i) = some v ∧ VR ρ' x v) ∧
          ∀ (i : Nat) md, i < k → l[i]? = some md → RMode m' ((xs.drop (i * 6)).take 6) md := by
        intro k
        induction k with
        | zero => exact fun _ => ⟨ρ, m, [], List.prefix_refl _, List.prefix_refl _, hm, hs, rfl, by simp, by omega⟩
        | succ k ih =>
          intro hk
          obtain ⟨ρ1, m1, xs, h1, h2, h3, h4, h5, h6, h7⟩ := ih (by omega)
          obtain ⟨md, hmdk⟩ : ∃ md, l[k]? = some md := ⟨l[k], List.getElem?_eq_getElem (by omega)⟩
          obtain ⟨cs', c1, c2, _⟩ := hl k md hmdk
          obtain ⟨ρ2, m2, ys, g1, g2, g3, g4, g5, g6⟩ := c2 ρ1 m1 h4 h3
          obtain ⟨_, c3, c4⟩ := World.cells?_some c1
          have hys : ys.length = 6 := by rw [← g5.length]; exact c3
          refine ⟨ρ2, m2, xs ++ ys, h1.trans g1, h2.trans g2, g3, g4, by simp [h5, hys]; omega, fun i x hx => ?_, fun i md' hi hmd' => ?_⟩
          · rcases Nat.lt_or_ge i xs.length with hlt | hge
            · rw [List.getElem?_append_left hlt] at hx
              obtain ⟨v, hv, hr⟩ := h6 i x hx
              exact ⟨v, hv, VR.mono g1 x v hr⟩
            · rw [List.getElem?_append_right hge] at hx
              have hj : i - xs.length < 6 := by rw [← hys]; exact (List.getElem?_eq_some_iff.1 hx).1
              obtain ⟨v, hv, hr⟩ := g5.get _ x hx
              refine ⟨v, ?_, hr⟩
              have := c4 (i - xs.length) hj
              rw [Addr.add_add, hv] at this
              rw [← this]
              congr 2
              omega
          · rcases Nat.lt_or_ge i k with hlt | hge
            · have := (h7 i md' hlt hmd').mono g2
              rw [List.drop_append_of_le_length (by omega), List.take_append_of_le_length (by simp; omega)]
              exact this
            · obtain rfl : i = k := by omega
              rw [hmdk] at hmd'
              simp only [Option.some.injEq] at hmd'
              subst hmd'
              rw [List.drop_append, h5, Nat.sub_self, List.drop_eq_nil_of_le (by omega)]
              simp only [List.nil_append, List.drop_zero]
              rw [List.take_of_length_le (by omega)]
              exact g6
      obtain ⟨ρ1, m1, xs, h1, h2, h3, h4, h5, h6, h7⟩ := key len (Nat.le_refl _)
      obtain ⟨ρ', m', s, g1, g2, g3, g4, g5, g6⟩ := slice_in (esz := 6) h4 h3 hne hlc (fun hcap => by
        obtain ⟨cs', c1, _⟩ := hel 0 (by omega)
        obtain ⟨_, c3, c4⟩ := World.cells?_some c1
        have := c4 0 (by omega)
        rw [Addr.add_add] at this
        rw [List.getElem?_eq_getElem (by omega)] at this
        exact ⟨_, by simpa [Addr.add] using this⟩) h5 h6
      refine ⟨ρ', m', [s], h1.trans g1, h2.trans g2, g3, g4, by simp only [VRs]; exact ⟨_, _, rfl, g5, rfl⟩, s, rfl, xs, by rw [hlen]; exact g6, fun i md hi => (h7 i md (by have := (List.getElem?_eq_some_iff.1 hi).1; omega) hi).mono g2⟩
    · simp only [DataW.weights, T.hT, List.all_cons, Bool.and_eq_true, decide_eq_true_eq, List.all_append] at hB
      obtain ⟨b1, b2, _⟩ := hB
      refine ⟨?_, fun md hmd => ?_⟩
      · have := T.bM
        simp only [List.length_map, List.length_range] at b1
        have h3 : len ≤ (len + (mm - len)) * P.bytesOf T.tM := by
          calc len ≤ (len + (mm - len)) * 1 := by omega
            _ ≤ _ := Nat.mul_le_mul_left _ this
        omega
      · obtain ⟨i, hi, rfl⟩ := List.getElem_of_mem hmd
        obtain ⟨cs', _, _, c5⟩ := hl i l[i] (List.getElem?_eq_getElem hi)
        exact c5 B (weightsAll_mem b2 (D i) (List.mem_map.2 ⟨i, by simp; omega, rfl⟩))
theorem below_of_evol {ρ ρ' : List RB} {m m' : AMem} {w' : World} (hm : RoMem m) (h : Evol ρ m w ρ' m' w') : Below w.heap.size w w' :=
  ⟨h.os, h.tape, h.output, h.size, fun k hk => h.frame k hk fun ⟨b, blk, a, hb, ho, _⟩ => by rw [hm b blk hb] at ho; cases ho⟩
theorem heap_pos {r : Reach} {b0 : Nat} {t e : TypeId} {a : Addr} {len cap : Nat} (ht : P.underlying t = some (.slice e)) (hval : Value.okWide P w r b0 t (.slice (some a) len cap)) : 0 < w.heap.size := by
  simp only [Value.okWide, ht, Cell.okWide, Cell.ok, World.has] at hval
  obtain ⟨_, _, _, _, row, cells, h, _⟩ := hval
  unfold World.shape? at h
  rcases Nat.eq_zero_or_pos w.heap.size with h0 | h0
  · rw [Array.getElem?_eq_none (by omega)] at h
    simp at h
  · exact h0
end Go.Proofs.YtheadodblifklaaGreat.Ax

namespace Go.Proofs.YtheadodblifklaaGreat
open Go Ax
set_option maxRecDepth 100000
structure Fits (l : List Md) : Prop where
  n : l.length ≤ 13
  n12 : l.length ≤ 12
  sm : ∀ x ∈ l, smallN x
  h40 : ∀ x ∈ l, x.elems.length < 2 ^ 40 ∧ x.names.length < 2 ^ 40
theorem fits_of {l : List Md} (hb : ∀ md ∈ l, MdB reachBytes md) (h : (decide ((l.length : Int) ≤ 12) && l.all fun x => decide (x.elems.length ≤ 6) && decide (x.names.length ≤ 6)) = true) : Fits l := by
  rw [Bool.and_eq_true, decide_eq_true_iff, List.all_eq_true] at h
  obtain ⟨h1, h2⟩ := h
  refine ⟨by omega, by omega, fun x hx => ?_, fun x hx => ?_⟩
  · have := h2 x hx
    rw [Bool.and_eq_true, decide_eq_true_iff, decide_eq_true_iff] at this
    refine ⟨by omega, by omega, fun s hs => ?_⟩
    have h3 := (hb x hx).each s hs
    have h4 : reachBytes < 2 ^ 62 := by decide
    omega
  · have := h2 x hx
    rw [Bool.and_eq_true, decide_eq_true_iff, decide_eq_true_iff] at this
    omega
end Go.Proofs.YtheadodblifklaaGreat

