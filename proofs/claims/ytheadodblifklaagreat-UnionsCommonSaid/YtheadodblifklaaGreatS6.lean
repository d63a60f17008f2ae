/- A part of the proofs that laws of environlaw11 return true.  Conditions: none beyond those stated. -/
import Derived.Test.YtheadodblifklaaGreatS5
import Derived.Test.YtheadodblifklaaGreatRows
import Derived.OpenShut
/- unions.Has, Index, Unites.  Conditions: none. -/
namespace Go.Proofs.YtheadodblifklaaGreat
open Go Ax
set_option maxRecDepth 100000
theorem uniB_iff {l : List Md} (hg : goodT l) {a b : Nat} (ha : a < l.length) (hb : b < l.length) : uniB l a b = true ↔ isU (mdAt l b) = true ∧ RR l a ≠ RR l b ∧ ∀ x, IsBase l a x → hasRR l b x := by
  unfold uniB
  rw [Bool.and_eq_true, Bool.and_eq_true, List.all_eq_true, and_assoc]
  refine and_congr_right fun _ => and_congr ?_ ?_
  · rw [Bool.not_eq_true', beq_eq_false_iff_ne]
  · constructor
    · intro h x hx
      obtain ⟨z, h1, h2⟩ := basesOf_cov hg ha hx
      have h3 := h z h1
      rw [decide_eq_true_iff, atI_basesOf hg hb] at h3
      obtain ⟨j, h4, h5⟩ := h3
      exact ⟨j, h4, by omega⟩
    · intro h x hx
      rw [decide_eq_true_iff, atI_basesOf hg hb]
      exact h x (basesOf_sub hg ha hx)
theorem dense_same {l : List Md} {ds : List Nat} {k : Nat} (hD : DenseOf l.length (fun a b => RR l a < RR l b) ds k) : SameOrd l.length (fun a => ds.getD a 0) (RR l) := hD.sameOrd
theorem tabBox (m : AMem) (s ro : AVal) (h0 : s.one = true) (h1 : ro.one = true) : storeE (m ++ [.own [.nilslice, .nilslice] 53 none]) 2 (.ptr m.length 0) (.agg [s, ro]) = some (.undef, m ++ [.own [s, ro] 53 none]) :=
  store_new m [.nilslice, .nilslice] [s, ro] 53 none 2 rfl rfl (by simp only [List.all_cons, List.all_nil, h0, h1]; rfl)
set_option maxHeartbeats 2000000 in
theorem k12 (s : AVal) (l : List Md) (u v : Int) (m : AMem) (hs : RTab m s l) (hsz : ∀ x ∈ l, smallN x) (hnm : ∀ x ∈ l, x.names.length < 2 ^ 40) (hn : l.length ≤ 12) :
    ACalls Tryz.prog 12 [s, .int .i64 u, .int .i64 v] m fun w m' => w = hasV l u v ∧ m <+: m' := by
  refine w12 ?_
  obtain ⟨hsl, hsc⟩ := hs.self
  simp [fillA, setN]
  have hA := two_ints m u v
  have hm1 : m <+: m ++ [.own [.int .i64 u, .int .i64 v] 3 none] := List.prefix_append _ _
  generalize AVal.slice m.length 0 2 2 none = t1 at *
  generalize m ++ [.own [.int .i64 u, .int .i64 v] 3 none] = m1 at *
  refine C_of (k35 s t1 l [u, v] m1 (hs.mono hm1) hA.ints hsz hnm hn (by simp)) ?_
  rintro _ m2 ⟨hm2, ⟨hr, rfl⟩ | ⟨hr, ro, ds, k, rfl, hX, hD⟩⟩
  · simp
    rw [tabBox _ _ _ rfl rfl]
    have hm3 : m2 <+: m2 ++ [.own [.nilslice, .nilslice] 53 none] := List.prefix_append _ _
    generalize m2 ++ [.own [.nilslice, .nilslice] 53 none] = m3 at *
    simp [beqF hr, hasV, hr]
    exact (hm1.trans hm2).trans hm3
  obtain ⟨hc, a, b, rfl, rfl, ha, hb⟩ := right2 hr
  have ok := okT_of hc
  have hrs := (Ow.sl hX).self
  simp
  rw [tabBox _ _ _ hsl hrs.1]
  have hb8 := readB_new m2 [s, ro] 53 none
  have hm3 : m2 <+: m2 ++ [.own [s, ro] 53 none] := List.prefix_append _ _
  generalize m2 ++ [.own [s, ro] 53 none] = m3 at *
  generalize m2.length = b8 at *
  have hm03 := (hm1.trans hm2).trans hm3
  simp [bxW hb8, readN]
  refine C_of (k36 s ro l ds a b m3 (hs.mono hm03) ((ints_of_nat hX).mono hm3) hD.len ok.good ok.len ok.h64 ha hb) ?_
  rintro _ m4 ⟨rfl, hm4⟩
  rw [hasD_hasB ok.good (dense_same hD) ha hb]
  simp [hasV, hr]
  exact hm03.trans hm4
theorem fidx_nat {r : Nat → Nat} {zs : List Nat} {x : Nat} : fidx (fun i => ((zs.map fun z : Nat => (z : Int))[i]?).any fun z => r z.toNat == r x) 0 (zs.map fun z : Nat => (z : Int)).length = atI r zs x := by
  unfold atI
  rw [List.length_map]
  refine fidx_congr _ _ fun j _ _ => ?_
  rw [List.getElem?_map]
  cases zs[j]? <;> rfl
set_option maxHeartbeats 4000000 in
theorem k14 (s : AVal) (l : List Md) (u v : Int) (m : AMem) (hs : RTab m s l) (hsz : ∀ x ∈ l, smallN x) (hnm : ∀ x ∈ l, x.names.length < 2 ^ 40) (hn : l.length ≤ 12) :
    ACalls Tryz.prog 14 [s, .int .i64 u, .int .i64 v] m fun w m' => w = idxV l u v ∧ m <+: m' := by
  refine w14 ?_
  obtain ⟨hsl, hsc⟩ := hs.self
  simp
  have hb5 := readB_new m [.int .i64 v] 3 none
  have hm0 : m <+: m ++ [.own [.int .i64 v] 3 none] := List.prefix_append _ _
  generalize m ++ [.own [.int .i64 v] 3 none] = m0 at *
  generalize m.length = b5 at *
  simp [bx hb5, fillA, setN]
  have hA := two_ints m0 u v
  have hm1 : m0 <+: m0 ++ [.own [.int .i64 u, .int .i64 v] 3 none] := List.prefix_append _ _
  generalize AVal.slice m0.length 0 2 2 none = t1 at *
  generalize m0 ++ [.own [.int .i64 u, .int .i64 v] 3 none] = m1 at *
  have hm01 := hm0.trans hm1
  generalize hI : idxV l u v = I
  unfold idxV at hI
  refine C_of (k35 s t1 l [u, v] m1 (hs.mono hm01) hA.ints hsz hnm hn (by simp)) ?_
  rintro _ m2 ⟨hm2, ⟨hr, rfl⟩ | ⟨hr, ro, ds, k, rfl, hX, hD⟩⟩
  · rw [if_pos hr] at hI
    simp
    rw [tabBox _ _ _ rfl rfl]
    have hm3 : m2 <+: m2 ++ [.own [.nilslice, .nilslice] 53 none] := List.prefix_append _ _
    generalize m2 ++ [.own [.nilslice, .nilslice] 53 none] = m3 at *
    simp [bneT hr]
    exact ⟨hI, (hm01.trans hm2).trans hm3⟩
  rw [if_neg (by simp [hr])] at hI
  obtain ⟨hc, a, b, rfl, rfl, ha, hb⟩ := right2 hr
  have ok := okT_of hc
  have hrs := (Ow.sl hX).self
  simp at hI
  simp
  rw [tabBox _ _ _ hsl hrs.1]
  have hb8 := readB_new m2 [s, ro] 53 none
  have hm3 : m2 <+: m2 ++ [.own [s, ro] 53 none] := List.prefix_append _ _
  generalize m2 ++ [.own [s, ro] 53 none] = m3 at *
  generalize m2.length = b8 at *
  have hm03 := (hm01.trans hm2).trans hm3
  have hb53 := readB_mono ((hm1.trans hm2).trans hm3) hb5
  have hRo := (ints_of_nat hX).mono hm3
  simp [bxW hb8, readN]
  refine C_of (k41 s ro l a m3 (hs.mono hm03) hrs ha) ?_
  rintro _ m4 ⟨rfl, hm4⟩
  simp
  have hm04 := hm03.trans hm4
  cases hu : isU (mdAt l a)
  · rw [if_pos hu] at hI
    simp
    exact ⟨hI, hm04⟩
  rw [if_neg (by rw [hu]; simp)] at hI
  have hb84 := readB_mono hm4 hb8
  simp
  refine W_draw (fun _ _ _ => True) (by simp [maxDst]) ?_
  refine D_pre 0 3 [5, 3, 4, 6, 7] (by simp only [List.drop_zero, List.drop_succ_cons, List.take_succ_cons, List.take_zero]; rfl) rfl rfl (fun _ _ => trivial) ?_
  simp [bxW hb84, readN]
  intro _ _
  refine D_P rfl trivial ?_
  simp
  refine D_X rfl rfl fun m5 hm5 _ => ?_
  simp
  have hm05 := hm04.trans hm5
  refine C_of (k44n s ro l a ha m5 (hs.mono hm05) hrs ok.good ok.len ok.h64) ?_
  rintro v6 m6 ⟨hm6, O, hO, hOn, hOm⟩
  have hb86 := readB_mono (hm5.trans hm6) hb84
  refine ⟨by simp [lateOf, ROp.ev, hb86, readN], ?_⟩
  refine D_X rfl rfl fun m7 hm7 _ => ?_
  simp
  have hm07 := (hm05.trans hm6).trans hm7
  have hR7 := hRo.mono (((hm4.trans hm5).trans hm6).trans hm7)
  have hOb : IsBases l a O := ⟨hOn, hOm⟩
  refine C_of (k43 s ro v6 l ds O m7 (hs.mono hm07) hR7 ((ints_of_nat hO).mono hm7) hOn (by have := hOb.length ok.good ha; omega) (fun z hz => by rw [hD.len]; exact hOb.lt ok.good ha z hz)) ?_
  rintro v8 m8 ⟨hm8, zs, hZ, hsb⟩
  refine ⟨by simp [lateOf], ?_⟩
  have hzs := once_eq ok.good (dense_same hD) ha hu hOm hsb
  refine D_X rfl rfl fun m9 hm9 _ => ?_
  simp
  have hm59 := (((hm5.trans hm6).trans hm7).trans hm8).trans hm9
  have hzl : ∀ z ∈ zs, z < l.length := fun z hz => hOb.lt ok.good ha z (hsb.sub z hz)
  refine C_of (k42 v8 (zs.map fun z : Nat => (z : Int)) (fun z => ds.getD z.toNat 0 == ds.getD b 0) m9 ((ints_of_nat hZ).mono hm9) ?_ 45 [] [.ptr b8 0, .ptr b5 0] ?_) ?_
  · have := nodup_le l.length zs (hsb.asc.imp fun hab => by intro e; subst e; omega) hzl
    simp; omega
  · intro z hz m' hm'
    obtain ⟨z, hz', rfl⟩ := List.mem_map.1 hz
    exact k45 s ro ds b z b8 b5 m' (hRo.mono ((hm4.trans hm59).trans hm')) (by rw [hD.len]; exact hb) (by rw [hD.len]; exact hzl z hz') (readB_mono (hm59.trans hm') hb84) (readB_mono ((hm4.trans hm59).trans hm') hb53)
  rintro _ m10 ⟨rfl, hm10⟩
  refine ⟨by simp [lateOf], ?_⟩
  rw [fidx_nat (r := fun a => ds.getD a 0), atI_congrO (dense_same hD) hzl hb, hzs]
  refine D_P rfl trivial ?_
  simp
  refine D_end fun m11 hm11 _ => ?_
  have hm011 := ((hm04.trans hm59).trans hm10).trans hm11
  by_cases hi : atI (RR l) (basesOf l a) b < 0
  · rw [if_pos hi] at hI
    simp [hi]
    exact ⟨hI, hm011⟩
  · rw [if_neg hi] at hI
    simp [hi]
    exact ⟨hI, hm011⟩
theorem k48 (s ro t : AVal) (l : List Md) (rk zs : List Nat) (x b1 b2 : Nat) (m : AMem) (hs : RTab m s l) (hro : RInts m ro (rk.map fun z : Nat => (z : Int))) (ht : RInts m t (zs.map fun z : Nat => (z : Int))) (hz : ∀ z ∈ zs, z < rk.length) (hx : x < rk.length) (hn : zs.length < 2 ^ 62) (hb1 : readB m b1 = some [s, ro]) (hb2 : readB m b2 = some [t]) :
    ACalls Tryz.prog 48 [.int .i64 x, .ptr b1 0, .ptr b2 0] m fun v m' => v = .bool (!(zs.any fun z => rk.getD z 0 == rk.getD x 0)) ∧ m <+: m' := by
  refine w48 ?_
  simp [bxW hb1, readN, bx hb2]
  refine C_of (k46 s ro t rk zs x m hs.self hro ht hz hx hn) ?_
  rintro _ m2 ⟨rfl, hm2⟩
  simp [hm2]
open Classical in
theorem any_hasRR {l : List Md} (hg : goodT l) {r : Nat → Nat} (h : SameOrd l.length r (RR l)) {O : List Nat} {x v : Nat} (hx : x < l.length) (hv : v < l.length) (hO : ∀ j, j ∈ O ↔ IsBase l x j) : (O.any fun z => r z == r v) = decide (hasRR l x v) := by
  rw [Bool.eq_iff_iff, List.any_eq_true, decide_eq_true_iff]
  constructor
  · rintro ⟨z, h1, h2⟩
    have h3 := (hO z).1 h1
    exact ⟨z, h3, (h.eq (h3.lt hg hx) hv).1 (by simpa using h2)⟩
  · rintro ⟨z, h1, h2⟩
    exact ⟨z, (hO z).2 h1, by simpa using (h.eq (h1.lt hg hx) hv).2 h2⟩
set_option maxHeartbeats 4000000 in
open Classical in
theorem k16 (s : AVal) (l : List Md) (u v : Int) (m : AMem) (hs : RTab m s l) (hsz : ∀ x ∈ l, smallN x) (hnm : ∀ x ∈ l, x.names.length < 2 ^ 40) (hn : l.length ≤ 12) :
    ACalls Tryz.prog 16 [s, .int .i64 u, .int .i64 v] m fun w m' => w = uniV l u v ∧ m <+: m' := by
  refine w16 ?_
  obtain ⟨hsl, hsc⟩ := hs.self
  simp [fillA, setN]
  have hA := two_ints m u v
  have hm1 : m <+: m ++ [.own [.int .i64 u, .int .i64 v] 3 none] := List.prefix_append _ _
  generalize AVal.slice m.length 0 2 2 none = t1 at *
  generalize m ++ [.own [.int .i64 u, .int .i64 v] 3 none] = m1 at *
  refine C_of (k35 s t1 l [u, v] m1 (hs.mono hm1) hA.ints hsz hnm hn (by simp)) ?_
  rintro _ m2 ⟨hm2, ⟨hr, rfl⟩ | ⟨hr, ro, ds, k, rfl, hX, hD⟩⟩
  · simp
    rw [tabBox _ _ _ rfl rfl]
    have hm3 : m2 <+: m2 ++ [.own [.nilslice, .nilslice] 53 none] := List.prefix_append _ _
    generalize m2 ++ [.own [.nilslice, .nilslice] 53 none] = m3 at *
    simp [bneT hr, uniV, hr]
    exact (hm1.trans hm2).trans hm3
  obtain ⟨hc, a, b, rfl, rfl, ha, hb⟩ := right2 hr
  have ok := okT_of hc
  have hrs := (Ow.sl hX).self
  have hso := dense_same hD
  have hU : uniV l a b = .tuple [.bool (uniB l a b), .int .i64 0] := by simp [uniV, hr]
  rw [hU]
  have hUB := uniB_iff ok.good ha hb
  generalize uniB l a b = U at *
  simp
  rw [tabBox _ _ _ hsl hrs.1]
  have hb8 := readB_new m2 [s, ro] 53 none
  have hm3 : m2 <+: m2 ++ [.own [s, ro] 53 none] := List.prefix_append _ _
  generalize m2 ++ [.own [s, ro] 53 none] = m3 at *
  generalize m2.length = b8 at *
  have hm03 := (hm1.trans hm2).trans hm3
  have hRo := (ints_of_nat hX).mono hm3
  simp [bxW hb8, readN]
  refine C_of (k41 s ro l b m3 (hs.mono hm03) hrs hb) ?_
  rintro _ m4 ⟨rfl, hm4⟩
  simp
  have hm04 := hm03.trans hm4
  cases hub : isU (mdAt l b)
  · simp
    refine ⟨?_, hm04⟩
    cases U with
    | false => rfl
    | true => have := (hUB.1 rfl).1; rw [hub] at this; cases this
  have hb84 := readB_mono hm4 hb8
  simp [bxW hb84, readN]
  refine C_of (k44n s ro l b hb m4 (hs.mono hm04) hrs ok.good ok.len ok.h64) ?_
  rintro v5 m5 ⟨hm5, P, hP, hPn, hPm⟩
  have hps := (Ow.sl hP).self
  have hPb : IsBases l b P := ⟨hPn, hPm⟩
  have hPl := hPb.length ok.good hb
  have hPlt := hPb.lt ok.good hb
  simp
  rw [store_new1 _ _ _ _ _ hps.2 hps.1]
  have hb10 := readB_new m5 [v5] 33 none
  have hm6 : m5 <+: m5 ++ [.own [v5] 33 none] := List.prefix_append _ _
  generalize m5 ++ [.own [v5] 33 none] = m6 at *
  generalize m5.length = b10 at *
  have hb86 := readB_mono (hm5.trans hm6) hb84
  have hm06 := (hm04.trans hm5).trans hm6
  have hm36 := (hm4.trans hm5).trans hm6
  have hP6 := (ints_of_nat hP).mono hm6
  simp [bxW hb86, readN]
  refine C_of (k41 s ro l a m6 (hs.mono hm06) hrs ha) ?_
  rintro _ m7 ⟨rfl, hm7⟩
  have hm07 := hm06.trans hm7
  have hb87 := readB_mono hm7 hb86
  have hb107 := readB_mono hm7 hb10
  have hany : ∀ w, w < l.length → (P.any fun z => ds.getD z 0 == ds.getD w 0) = decide (hasRR l b w) := fun w hw => any_hasRR ok.good hso hb hw hPm
  simp
  cases hua : isU (mdAt l a)
  · simp [bxW hb87, readN, bx hb107]
    refine C_of (k46 s ro v5 ds P a m7 hs.self (hRo.mono (hm36.trans hm7)) (hP6.mono hm7) (fun z hz => by rw [hD.len]; exact hPlt z hz) (by rw [hD.len]; exact ha) (by omega)) ?_
    rintro _ m8 ⟨rfl, hm8⟩
    simp only [hany a ha]
    simp
    refine ⟨?_, hm07.trans hm8⟩
    rw [Bool.eq_iff_iff, decide_eq_true_iff, hUB]
    constructor
    · intro h
      refine ⟨hub, fun e => ?_, fun x hx => ?_⟩
      · have := RR_isU ha hb e; rw [hua, hub] at this; cases this
      · unfold IsBase at hx
        rw [hua, if_neg (by simp)] at hx
        subst hx; exact h
    · rintro ⟨_, _, h⟩
      refine h a ?_
      unfold IsBase
      rw [hua, if_neg (by simp)]
  simp
  obtain ⟨ba, oa, hpa, hla⟩ := ranksAt hRo (x := a) (by rw [hD.len]; exact ha)
  obtain ⟨bb, ob, hpb, hlb⟩ := ranksAt hRo (x := b) (by rw [hD.len]; exact hb)
  have hla := hla m7 (hm36.trans hm7)
  have hlb := hlb m7 (hm36.trans hm7)
  have heq : ds.getD a 0 = ds.getD b 0 ↔ RR l a = RR l b := hso.eq ha hb
  refine W_draw (fun _ _ _ => True) (by simp [maxDst]) ?_
  refine D_pre 0 14 [15, 14, 16, 17, 18, 19, 20] (by simp only [List.drop_zero, List.drop_succ_cons, List.take_succ_cons, List.take_zero]; rfl) rfl rfl (fun _ _ => trivial) ?_
  generalize hxa : ds.getD a 0 = ra at *
  generalize hxb : ds.getD b 0 = rb at *
  by_cases hab : ra = rb
  · subst hab
    simp [bx hb87, hpa, hla, hpb, hlb]
    intro _ _
    refine D_skip rfl rfl rfl ?_
    refine D_Xg rfl rfl (b := false) (by simp) (fun h => by cases h) (fun _ m8 hm8 _ => ⟨by simp [lateOf], ?_⟩)
    refine D_Xg rfl rfl (b := false) (by simp) (fun h => by cases h) (fun _ m9 hm9 _ => ⟨by simp [lateOf], ?_⟩)
    refine D_pre 17 4 [] (by simp only [List.drop_zero, List.drop_succ_cons, List.take_succ_cons, List.take_zero]; rfl) rfl rfl (fun _ _ => trivial) ?_
    simp
    intro _ _
    refine D_end fun m10 hm10 _ => ?_
    simp
    refine ⟨?_, ((hm07.trans hm8).trans hm9).trans hm10⟩
    cases U with
    | false => rfl
    | true => exact absurd (heq.1 rfl) (hUB.1 rfl).2.1
  · have hab' : ¬ (ra : Int) = rb := by omega
    simp [bx hb87, hpa, hla, hpb, hlb, bneT hab', bxW hb87, readN]
    intro _ _
    refine D_P rfl rfl ?_
    simp
    refine D_Xg rfl rfl (b := true) (by simp) (fun _ m8 hm8 _ => ?_) (fun h => absurd rfl h)
    simp
    refine C_of (k44n s ro l a ha m8 (hs.mono (hm07.trans hm8)) hrs ok.good ok.len ok.h64) ?_
    rintro v9 m9 ⟨hm9, O, hO, hOn, hOm⟩
    have hOb : IsBases l a O := ⟨hOn, hOm⟩
    have hOl := hOb.length ok.good ha
    have hOlt := hOb.lt ok.good ha
    refine ⟨by simp [lateOf], ?_⟩
    refine D_Xg rfl rfl (b := true) (by simp) (fun _ m10 hm10 _ => ?_) (fun h => absurd rfl h)
    simp
    have hm7t := (hm8.trans hm9).trans hm10
    have hR7 := hRo.mono (hm36.trans hm7)
    refine C_of (k47 v9 (O.map fun z : Nat => (z : Int)) (fun z => !(P.any fun y => ds.getD y 0 == ds.getD z.toNat 0)) m10 ((ints_of_nat hO).mono hm10) (by simp; omega) 48 [] [.ptr b8 0, .ptr b10 0] ?_) ?_
    · intro z hz m' hm'
      obtain ⟨z, hz', rfl⟩ := List.mem_map.1 hz
      have hmt := hm7t.trans hm'
      exact k48 s ro v5 l ds P z b8 b10 m' (hs.mono (hm07.trans hmt)) (hR7.mono hmt) ((hP6.mono hm7).mono hmt) (fun y hy => by rw [hD.len]; exact hPlt y hy) (by rw [hD.len]; exact hOlt z hz') (by omega) (readB_mono hmt hb87) (readB_mono hmt hb107)
    rintro _ m11 ⟨rfl, hm11⟩
    refine ⟨by simp [lateOf], ?_⟩
    have hval : (!((O.map fun z : Nat => (z : Int)).any fun z => !(P.any fun y => ds.getD y 0 == ds.getD z.toNat 0))) = U := by
      rw [Bool.eq_iff_iff, hUB, Bool.not_eq_true', List.any_eq_false]
      constructor
      · intro h
        refine ⟨hub, fun e => hab (heq.2 e), fun x hx => ?_⟩
        have h1 := h (x : Int) (List.mem_map.2 ⟨x, (hOm x).2 hx, rfl⟩)
        rw [Int.toNat_natCast, hany x (hx.lt ok.good ha)] at h1
        simpa using h1
      · rintro ⟨_, _, h⟩ z hz
        obtain ⟨x, hx, rfl⟩ := List.mem_map.1 hz
        have hxb := (hOm x).1 hx
        rw [Int.toNat_natCast, hany x (hxb.lt ok.good ha)]
        simpa using h x hxb
    refine D_P rfl rfl ?_
    rw [← hval]
    generalize ((O.map fun z : Nat => (z : Int)).any fun z => !(P.any fun y => ds.getD y 0 == ds.getD z.toNat 0)) = B
    simp
    refine D_P rfl trivial ?_
    simp
    refine D_P rfl trivial ?_
    simp
    refine D_P rfl trivial ?_
    simp
    refine D_end fun m12 hm12 _ => ?_
    simp
    exact (hm07.trans (hm7t.trans hm11)).trans hm12
end Go.Proofs.YtheadodblifklaaGreat

/- slices.DeleteFunc.  Conditions: none. -/
namespace Go.Proofs.YtheadodblifklaaGreat
open Go Ax
set_option maxRecDepth 100000
theorem fidx_first {p : Nat → Bool} : ∀ (n i : Nat), (fidx p i n = -1 ∧ ∀ k, i ≤ k → k < i + n → p k = false) ∨ ∃ j, i ≤ j ∧ j < i + n ∧ fidx p i n = (j : Int) ∧ p j = true ∧ ∀ k, i ≤ k → k < j → p k = false
  | 0, i => .inl ⟨rfl, fun k h1 h2 => by omega⟩
  | n + 1, i => by
    rw [fidx]
    split
    · rename_i hp; exact .inr ⟨i, Nat.le_refl _, by omega, rfl, hp, fun k h1 h2 => by omega⟩
    · rename_i hp
      have hp : p i = false := by simpa using hp
      rcases fidx_first (p := p) n (i + 1) with ⟨h1, h2⟩ | ⟨j, h1, h2, h3, h4, h5⟩
      · refine .inl ⟨h1, fun k k1 k2 => ?_⟩
        by_cases hk : k = i
        · subst hk; exact hp
        · exact h2 k (by omega) (by omega)
      · refine .inr ⟨j, by omega, by omega, h3, h4, fun k k1 k2 => ?_⟩
        by_cases hk : k = i
        · subst hk; exact hp
        · exact h5 k (by omega) k2
set_option maxHeartbeats 4000000 in
theorem k53 (t : AVal) (ty : TypeId) (lo : Nat) (m0 : AMem) (hlo : m0.length ≤ lo) (g : FuncId) (fs cs : List AVal) (p : Int → Bool) (ys : List Int) (hp : ∀ a ∈ ys, ∀ m', m0 <+: m' → ACalls Tryz.prog g (fs ++ [.int .i64 a] ++ cs) m' fun v m'' => v = .bool (p a) ∧ m' <+: m'') (hn : ys.length < 2 ^ 62) (m : AMem) (hm : m0 <+: m) (hX : OwL (AVal.int .i64) lo m ty t ys) :
    ACalls Tryz.prog 53 [t, .func (.func g) fs cs] m fun v m' => m0 <+: m' ∧ Ch (fun b => t.blk = some b) m m' ∧ OwL (AVal.int .i64) lo m' ty v (ys.filter fun a => !p a) ∧ v.blk = t.blk := by
  refine w53 ?_
  simp
  refine C_of (k42 t ys p m hX.ints hn g fs cs fun x hx m' hm' => hp x hx m' (hm.trans hm')) ?_
  rintro _ m1 ⟨rfl, hm1⟩
  replace hX := hX.mono hm1
  have hch : Ch (fun b => t.blk = some b) m m1 := .of_prefix hm1
  replace hm := hm.trans hm1
  clear hm1
  rcases fidx_first (p := fun i => (ys[i]?).any p) ys.length 0 with ⟨h1, h2⟩ | ⟨j, _, hj, h1, h2, h3⟩
  · have : (ys.filter fun a => !p a) = ys := by
      rw [List.filter_eq_self]
      intro a ha
      obtain ⟨i, hi, rfl⟩ := List.getElem_of_mem ha
      have := h2 i (by omega) (by omega)
      simpa [hi] using this
    simp [h1, hm, this, hX, hch]
  · rw [Nat.zero_add] at hj
    have hne : ((j : Int) == -1) = false := by simp
    have hw0 := step64 hj hn
    simp [h1, hne, hw0]
    obtain ⟨I, hI⟩ : ∃ I : Nat → AFrame → AMem → Prop, ∀ q a m', I q a m' ↔ (∃ (z k : Nat) (zs : List Int), k + q = ys.length ∧ z < k ∧ a = h53_0 t (.func (.func g) fs cs) (.int .i64 z) (.int .i64 k) ∧ m0 <+: m' ∧ Ch (fun b => t.blk = some b) m m' ∧ OwL (AVal.int .i64) lo m' ty t zs ∧ zs.length = ys.length ∧ (∀ i, k ≤ i → zs[i]? = ys[i]?) ∧ zs.take z = (ys.take k).filter fun a => !p a) := ⟨_, fun _ _ _ => Iff.rfl⟩
    have hf0 : ys.take j = (ys.take (j + 1)).filter fun a => !p a := by
      have e1 : ((ys.take j).filter fun a => !p a) = ys.take j := by
        rw [List.filter_eq_self]
        intro a ha
        obtain ⟨i, hi, rfl⟩ := List.getElem_of_mem ha
        rw [List.length_take] at hi
        have := h3 i (by omega) (by omega)
        simp only [List.getElem_take]
        rw [List.getElem?_eq_getElem (by omega)] at this
        simpa using this
      rw [List.take_add_one, List.filter_append, e1, List.getElem?_eq_getElem hj]
      have : p ys[j] = true := by simpa [hj] using h2
      simp [this]
    refine W_loop I (ys.length - (j + 1)) ((hI _ _ _).2 ⟨j, j + 1, ys, by omega, by omega, by simp, hm, hch, hX, rfl, fun _ _ => rfl, hf0⟩) ?_
    clear hX hm hch
    rintro q a m3 hIn
    obtain ⟨z, k, zs, hkq, hzk, rfl, hm, hch, hZ, hzl, hze, hzt⟩ := (hI _ _ _).1 hIn
    clear hIn
    simp [hZ.len, hzl]
    refine bbind_dec (fun hkl => ?_) fun hkl => ?_
    · have hkl : k < ys.length := by omega
      obtain ⟨q, rfl⟩ : ∃ q', q = q' + 1 := ⟨q - 1, by omega⟩
      have hw := step64 hkl hn
      obtain ⟨b1, o1, _, hp1, hl1, _⟩ := hZ.at (i := k) (by omega)
      have v1 : zs[k]'(by omega) = ys[k]'(by omega) := by
        have := hze k (by omega)
        rw [List.getElem?_eq_getElem (by omega), List.getElem?_eq_getElem (by omega)] at this
        simpa using this
      rw [v1] at hl1
      simp [hp1, hl1]
      have hcall := hp _ (List.getElem_mem hkl) m3 hm
      simp at hcall
      refine C_of hcall ?_
      rintro _ m4 ⟨rfl, hm4⟩
      replace hm := hm.trans hm4
      replace hch := hch.trans (.of_prefix hm4)
      replace hZ := hZ.mono hm4
      have ht : (ys.take (k + 1)).filter (fun a => !p a) = (ys.take k).filter (fun a => !p a) ++ (if p ys[k] = true then [] else [ys[k]]) := by
        rw [List.take_add_one, List.filter_append, List.getElem?_eq_getElem hkl]
        cases h : p ys[k] <;> simp [h]
      cases hpk : p ys[k]
      · have hwz := step64 (k := z) (n := ys.length) (by omega) hn
        obtain ⟨bz, oz, hbz, hpz, _, hstz⟩ := hZ.at (i := z) (by omega)
        obtain ⟨m5, hst, hch5, hZ5⟩ := hstz (ys[k])
        simp [hpk, hpz, hst, hwz, hw]
        rw [hpk] at ht
        simp only [Bool.false_eq_true, if_false] at ht
        refine ⟨q, by omega, (hI _ _ _).2 ⟨z + 1, k + 1, zs.set z ys[k], by omega, by omega, by simp, hch5.pre hm fun b hb hbb => ?_, hch.trans (hch5.weaken fun b _ hb => by rw [hb]; exact hbz), hZ5, by simpa using hzl, fun i hi => ?_, ?_⟩⟩
        · have := (hZ.blk_lo hbz).1; omega
        · rw [List.getElem?_set_ne (by omega)]; exact hze i (by omega)
        · rw [ht, ← hzt, List.take_add_one, List.getElem?_set_self (by omega)]
          simp [List.take_set]
          exact List.set_eq_of_length_le (by simp; omega)
      · rw [hpk] at ht
        simp only [if_true, List.append_nil] at ht
        simp [hpk, hw]
        exact ⟨q, by omega, (hI _ _ _).2 ⟨z, k + 1, zs, by omega, by omega, by simp, hm, hch, hZ, hzl, fun i hi => hze i (by omega), by rw [ht]; exact hzt⟩⟩
    · have hkl : k = ys.length := by omega
      subst hkl
      obtain ⟨s3, m4, hs3, hcl, hch4, hZ4⟩ := hZ.clear (i := z) (by omega) 0
      obtain ⟨s4, hs4, hZ5, hbl⟩ := hZ4.take (i := z) (by simp; omega)
      simp [hs3, hcl, hs4]
      rw [List.take_append_of_le_length (by simp; omega), List.take_take, Nat.min_self, hzt, List.take_length] at hZ5
      exact ⟨hch4.pre hm fun b hb hbb => by have := (hZ.blk_lo hbb).1; omega, hch.trans hch4, hZ5, hbl⟩
end Go.Proofs.YtheadodblifklaaGreat

/- Tables of one's own; slices.Clone of modes; alike.with.  Conditions: none. -/
namespace Go.Proofs.YtheadodblifklaaGreat
open Go Ax
set_option maxRecDepth 100000
abbrev chunk (cs : List AVal) (i : Nat) : List AVal := (cs.drop (i * 6)).take 6
/-- A table of one's own, its modes written in older memory. -/
def OwB (m0 : AMem) (lo : Nat) (m : AMem) (s : AVal) (l : List Md) : Prop := ∃ cs, Ow lo m 6 49 s l.length cs ∧ ∀ (i : Nat) x, l[i]? = some x → RMode m0 (chunk cs i) x
/-- A table of one's own; what is changed in it later leaves its modes alone. -/
def OwT (lo : Nat) (m : AMem) (s : AVal) (l : List Md) : Prop := ∃ cs, Ow lo m 6 49 s l.length cs ∧ ∀ (i : Nat) x, l[i]? = some x → ∀ m', Ch (fun b => s.blk = some b) m m' → RMode m' (chunk cs i) x
theorem OwT.tab {lo : Nat} {m : AMem} {s : AVal} {l : List Md} (h : OwT lo m s l) : RTab m s l := by
  obtain ⟨cs, h1, h2⟩ := h
  exact ⟨cs, h1.sl, fun i x hx => h2 i x hx m (.refl _ _)⟩
theorem OwT.mono {lo : Nat} {m m' : AMem} {s : AVal} {l : List Md} (h : OwT lo m s l) (hm : m <+: m') : OwT lo m' s l := by
  obtain ⟨cs, h1, h2⟩ := h
  exact ⟨cs, h1.mono hm, fun i x hx m'' hc => h2 i x hx m'' ((Ch.of_prefix hm).trans hc)⟩
theorem OwB.mono {lo : Nat} {m0 m m' : AMem} {s : AVal} {l : List Md} (h : OwB m0 lo m s l) (hm : m <+: m') : OwB m0 lo m' s l := by
  obtain ⟨cs, h1, h2⟩ := h
  exact ⟨cs, h1.mono hm, h2⟩
theorem OwB.tab {lo : Nat} {m0 m : AMem} {s : AVal} {l : List Md} (h : OwB m0 lo m s l) (hm : m0 <+: m) : RTab m s l := by
  obtain ⟨cs, h1, h2⟩ := h
  exact ⟨cs, h1.sl, fun i x hx => (h2 i x hx).mono hm⟩
theorem OwB.ch {S : Nat → Prop} {lo : Nat} {m0 m m' : AMem} {s : AVal} {l : List Md} (h : OwB m0 lo m s l) (hc : Ch S m m') (hs : ∀ b, s.blk = some b → ¬ S b) : OwB m0 lo m' s l := by
  obtain ⟨cs, h1, h2⟩ := h
  exact ⟨cs, h1.ch hc hs, h2⟩
theorem OwB.blk_lo {lo : Nat} {m0 m : AMem} {s : AVal} {l : List Md} (h : OwB m0 lo m s l) {b : Nat} (hb : s.blk = some b) : lo ≤ b ∧ b < m.length := by
  obtain ⟨cs, h1, _⟩ := h
  exact h1.blk_lo hb
theorem OwT.blk_lo {lo : Nat} {m : AMem} {s : AVal} {l : List Md} (h : OwT lo m s l) {b : Nat} (hb : s.blk = some b) : lo ≤ b ∧ b < m.length := by
  obtain ⟨cs, h1, _⟩ := h
  exact h1.blk_lo hb
theorem chunk_append {cs c : List AVal} {n : Nat} (hl : cs.length = n * 6) {i : Nat} (hi : i < n) : chunk (cs ++ c) i = chunk cs i := by
  unfold chunk
  rw [List.drop_append_of_le_length (by omega), List.take_append_of_le_length (by simp; omega)]
theorem chunk_last {cs c : List AVal} {n : Nat} (hl : cs.length = n * 6) (hc : c.length = 6) : chunk (cs ++ c) n = c := by
  unfold chunk
  rw [List.drop_append, hl, Nat.sub_self, List.drop_eq_nil_of_le (by omega)]
  simp only [List.nil_append, List.drop_zero]
  exact List.take_of_length_le (by omega)
theorem push_get {l : List Md} {x y : Md} {i : Nat} (h : (l ++ [x])[i]? = some y) : (i < l.length ∧ l[i]? = some y) ∨ (i = l.length ∧ y = x) := by
  rcases Nat.lt_or_ge i l.length with hlt | hge
  · rw [List.getElem?_append_left hlt] at h; exact .inl ⟨hlt, h⟩
  · rw [List.getElem?_append_right hge] at h
    cases hk : i - l.length with
    | zero => rw [hk] at h; simp at h; exact .inr ⟨by omega, h.symm⟩
    | succ k => rw [hk] at h; simp at h
theorem OwB.push {m0 : AMem} {lo : Nat} {m : AMem} {s : AVal} {l : List Md} (h : OwB m0 lo m s l) (hlo : lo ≤ m.length) {c : List AVal} {x : Md} (hx : RMode m0 c x) (hn : l.length < 2 ^ 30) :
    ∃ s' m', appendE m 6 80 49 s 1 c = some (s', m') ∧ Ch (fun b => s.blk = some b) m m' ∧ OwB m0 lo m' s' (l ++ [x]) ∧ (∀ b, s'.blk = some b → s.blk = some b ∨ m.length ≤ b) := by
  obtain ⟨cs, h1, h2⟩ := h
  have hcl := hx.all
  have hl := h1.sl.length
  obtain ⟨s', m', e, hch, h3, h4⟩ := h1.append hlo (k := 1) (xs := c) (bytes := 80) (by omega) hcl.2 (by decide) (by omega)
  refine ⟨s', m', e, hch, ⟨cs ++ c, by simpa using h3, fun i y hy => ?_⟩, h4⟩
  rcases push_get hy with ⟨hi, hy⟩ | ⟨rfl, rfl⟩
  · rw [chunk_append hl hi]; exact h2 i y hy
  · rw [chunk_last hl hcl.1]; exact hx
theorem OwT.push {lo : Nat} {m : AMem} {s : AVal} {l : List Md} (h : OwT lo m s l) (hlo : lo ≤ m.length) {c : List AVal} {x : Md} (hx : ∀ m', Ch (fun b => s.blk = some b) m m' → RMode m' c x) (hn : l.length < 2 ^ 30) :
    ∃ s' m', appendE m 6 80 49 s 1 c = some (s', m') ∧ Ch (fun b => s.blk = some b) m m' ∧ OwT lo m' s' (l ++ [x]) ∧ (∀ b, s'.blk = some b → s.blk = some b ∨ m.length ≤ b) := by
  obtain ⟨cs, h1, h2⟩ := h
  have hcl := (hx m (.refl _ _)).all
  have hl := h1.sl.length
  obtain ⟨s', m', e, hch, h3, h4⟩ := h1.append hlo (k := 1) (xs := c) (bytes := 80) (by omega) hcl.2 (by decide) (by omega)
  refine ⟨s', m', e, hch, ⟨cs ++ c, by simpa using h3, fun i y hy m2 hc2 => ?_⟩, h4⟩
  have hcc : Ch (fun b => s.blk = some b) m m2 := by
    have a1 : Ch (fun b => s.blk = some b ∨ m.length ≤ b) m m' := hch.weaken fun b _ hb => .inl hb
    have a2 : Ch (fun b => s.blk = some b ∨ m.length ≤ b) m' m2 := hc2.weaken fun b _ hb => h4 b hb
    exact (a1.trans a2).weaken fun b hb h => by rcases h with h | h; exact h; omega
  rcases push_get hy with ⟨hi, hy⟩ | ⟨rfl, rfl⟩
  · rw [chunk_append hl hi]; exact h2 i y hy m2 hcc
  · rw [chunk_last hl hcl.1]; exact hx m2 hcc
theorem tab_all {m : AMem} {cs : List AVal} {l : List Md} (hl : cs.length = l.length * 6) (h : ∀ (i : Nat) x, l[i]? = some x → RMode m (chunk cs i) x) : cs.all AVal.one = true := by
  rw [List.all_eq_true]
  intro y hy
  obtain ⟨i, hi, rfl⟩ := List.getElem_of_mem hy
  have hq : i / 6 < l.length := by omega
  have := (h (i / 6) l[i / 6] (List.getElem?_eq_getElem hq)).all.2
  rw [List.all_eq_true] at this
  refine this _ ?_
  have hg : (chunk cs (i / 6))[i % 6]? = some cs[i] := by
    unfold chunk
    rw [List.getElem?_take, if_pos (by omega), List.getElem?_drop, List.getElem?_eq_getElem (by omega)]
    congr 2
    omega
  exact List.mem_of_getElem? hg
theorem k66 (s : AVal) (l : List Md) (m0 m : AMem) (hm0 : m0 <+: m) (hs : RTab m0 s l) (hn : l.length < 2 ^ 30) : ACalls Tryz.prog 66 [s] m fun v m' => m <+: m' ∧ OwB m0 m.length m' v l := by
  refine w66 ?_
  obtain ⟨cs, hsl, hmd⟩ := hs
  replace hsl := hsl.mono hm0
  have hcl := hsl.length
  have hall := tab_all hcl hmd
  have hsc := hsl.cells
  rcases hsl with ⟨rfl, hx, rfl⟩ | ⟨b, o, cap, gr, rfl, h1, h2⟩
  · have hx : l = [] := by simpa using hx
    subst hx
    simp
    exact ⟨[], .nil, by simp⟩
  · simp
    have hsl : Sl m 6 (.slice b o l.length cap gr) l.length cs := .inr ⟨b, o, cap, gr, rfl, h1, h2⟩
    have hN : Ow m.length (m ++ [.own [] 49 none]) 6 49 (.slice m.length 0 0 0 none) 0 [] := Ow.new (by simp) (by simp)
    have hm1 : m <+: m ++ [.own [] 49 none] := List.prefix_append _ _
    have hsc := (hsl.mono hm1).cells
    simp [fillA] at hsc ⊢
    generalize m ++ [.own [] 49 none] = m1 at *
    obtain ⟨t', m2, happ, hch, hO, hbl⟩ := hN.append (by have := hm1.length_le; omega) (k := l.length) (xs := cs) (bytes := 80) hcl hall (by decide) (by omega)
    simp [hsc, happ]
    rw [List.nil_append, Nat.zero_add] at hO
    exact ⟨hch.pre hm1 fun b hb h => (by simp [AVal.blk] at h; omega), cs, hO, hmd⟩
end Go.Proofs.YtheadodblifklaaGreat

/- alike.with.  Conditions: none. -/
namespace Go.Proofs.YtheadodblifklaaGreat
open Go Ax
set_option maxRecDepth 100000
set_option maxHeartbeats 4000000 in
theorem k138 (s : AVal) (c : List AVal) (l : List Md) (x : Md) (m : AMem) (hs : RTab m s l) (hx : RMode m c x) (hsz : ∀ y ∈ l ++ [x], y.elems.length < 2 ^ 40 ∧ y.names.length < 2 ^ 40) (hn : l.length < 2 ^ 20) :
    ACalls Tryz.prog 138 [s, .agg c] m fun v m' => m <+: m' ∧ OwT m.length m' v (l ++ [x]) := by
  have hx0 := hx
  have hcl := hx.all
  obtain ⟨e, nm, rfl, he, hnm⟩ := hx
  refine w138 ?_
  have h1 := Sl.one he
  have h2 := Sl.one hnm
  have hw : IntKind.i64.wrap ((l.length : Int) + 1) = ((l.length + 1 : Nat) : Int) := by rw [wrap64 (by omega) (by omega)]; omega
  have hc0 : (0 : Int) ≤ l.length + 1 := by omega
  have hc1 : 80 * ((l.length : Int) + 1) ≤ 281474976710656 := by omega
  have hc2 : (l.length : Int) + 1 ≤ 9223372036854775807 := by omega
  simp [h1, h2, hs.len, hw, hc0, hc1, hc2]
  have hb0 : readB (m ++ [ABlk.own [.int .i64 x.kind, .int .i64 x.size, e, nm, .int .i64 x.dims, .bool x.flex] 49 none, ABlk.own (List.replicate (l.length + 1) [AVal.int .i64 0, AVal.int .i64 0, AVal.nilslice, AVal.nilslice, AVal.int .i64 0, AVal.bool false]).flatten 49 none]) m.length = some [.int .i64 x.kind, .int .i64 x.size, e, nm, .int .i64 x.dims, .bool x.flex] := by simp [readB, ABlk.cells]
  have hm02 : m <+: m ++ [ABlk.own [.int .i64 x.kind, .int .i64 x.size, e, nm, .int .i64 x.dims, .bool x.flex] 49 none, ABlk.own (List.replicate (l.length + 1) [AVal.int .i64 0, AVal.int .i64 0, AVal.nilslice, AVal.nilslice, AVal.int .i64 0, AVal.bool false]).flatten 49 none] := List.prefix_append _ _
  have hl02 : (m ++ [ABlk.own [.int .i64 x.kind, .int .i64 x.size, e, nm, .int .i64 x.dims, .bool x.flex] 49 none, ABlk.own (List.replicate (l.length + 1) [AVal.int .i64 0, AVal.int .i64 0, AVal.nilslice, AVal.nilslice, AVal.int .i64 0, AVal.bool false]).flatten 49 none]).length = m.length + 2 := by simp
  have hO : OwT m.length (m ++ [ABlk.own [.int .i64 x.kind, .int .i64 x.size, e, nm, .int .i64 x.dims, .bool x.flex] 49 none, ABlk.own (List.replicate (l.length + 1) [AVal.int .i64 0, AVal.int .i64 0, AVal.nilslice, AVal.nilslice, AVal.int .i64 0, AVal.bool false]).flatten 49 none]) (.slice (m.length + 1) 0 0 (l.length + 1) none) [] := by
    refine ⟨[], .inr ⟨m.length + 1, 0, l.length + 1, none, (List.replicate (l.length + 1) [AVal.int .i64 0, AVal.int .i64 0, AVal.nilslice, AVal.nilslice, AVal.int .i64 0, AVal.bool false]).flatten, none, rfl, by omega, by rw [List.getElem?_append_right (by omega)]; simp, by simp [readN], by simp, by simp, by simp [List.all_flatten], .inl rfl⟩, by simp⟩
  have hob : ∀ b, (AVal.slice (m.length + 1) 0 0 (l.length + 1) none).blk = some b → b = m.length + 1 := fun b hb => by simp [AVal.blk] at hb; omega
  generalize AVal.slice (m.length + 1) 0 0 (l.length + 1) none = out at *
  generalize m ++ [ABlk.own [.int .i64 x.kind, .int .i64 x.size, e, nm, .int .i64 x.dims, .bool x.flex] 49 none, ABlk.own (List.replicate (l.length + 1) [AVal.int .i64 0, AVal.int .i64 0, AVal.nilslice, AVal.nilslice, AVal.int .i64 0, AVal.bool false]).flatten 49 none] = m2 at *
  refine W_draw (fun i w m' => i = 1 → OwB m m2.length m' w l) (by simp [maxDst]) ?_
  have : ∀ (j : Nat) (m' : AMem), noFacts j m' := fun _ _ => trivial
  refine D_pre 0 1 [1, 2, 3, 6, 4, 5] (by simp only [List.drop_zero, List.drop_succ_cons, List.take_succ_cons, List.take_zero]; rfl) rfl rfl ‹_› ?_
  simp
  intro _ _
  refine D_C rfl trivial rfl (fun m' hm' _ => (k66 s l m m' (hm02.trans hm') hs (by omega)).mono ?_) ?_ ?_ ?_
  · rintro w m'' ⟨g1, cs, g2, g3⟩
    exact ⟨g1, fun _ => ⟨cs, g2.lo hm'.length_le, g3⟩⟩
  · obtain ⟨cs, g2, g3⟩ := hs
    have hcl2 := g2.length
    exact ⟨_, _, List.prefix_append _ _, fun _ => ⟨cs, Ow.new hcl2 (tab_all hcl2 g3), g3⟩⟩
  · rintro w m' m'' hm hk h
    exact (hk h).mono hm
  rintro w m4 hm4 hw4
  clear hw4
  refine D_R rfl trivial ⟨_, List.prefix_refl _, fun _ h => by cases h⟩ ?_
  simp [bxW hb0, readN]
  refine D_A rfl trivial ?_
  simp [fillA, setN, h1, h2]
  intro b'
  refine D_P rfl trivial ?_
  simp
  refine D_W rfl rfl fun m5 hm5 hf => ?_
  have g13 := hf 1
  have g15 := hf 3
  simp [upd] at g13 g15
  have hsc : sliceCells m5 6 (.slice b' 0 1 1 none) = some (1, [.int .i64 x.kind, .int .i64 x.size, e, nm, .int .i64 x.dims, .bool x.flex]) := by simp [sliceCells, readB, g15, ABlk.cells, readN]
  obtain ⟨t16, m6, happ, hch6, hB, hbl⟩ := g13.push hm5.length_le hx0 (by omega)
  have hm26 : m2 <+: m6 := hch6.pre hm5 fun b hb h => by have := (g13.blk_lo h).1; omega
  simp [hsc, happ]
  refine D_P rfl trivial ?_
  have htl := (hB.tab (hm02.trans hm26)).len
  simp [htl]
  refine D_end fun m7 hm7 _ => ?_
  simp
  replace hB := hB.mono hm7
  replace hm26 := hm26.trans hm7
  replace hO := hO.mono hm26
  replace htl := (hB.tab (hm02.trans hm26)).len
  clear g13 g15 hsc happ hch6 hbl hm5 hb0 hm4
  have hlen : (l ++ [x]).length = l.length + 1 := by simp
  generalize hL : l ++ [x] = L at *
  have hm27 := hm26.length_le
  obtain ⟨I, hI⟩ : ∃ I : Nat → AFrame → AMem → Prop, ∀ q a m', I q a m' ↔ (∃ (k : Nat) (o : AVal), k + q = L.length ∧ a = h138_0 o t16 (.int .i64 ((l.length : Int) + 1)) (.int .i64 k) ∧ m <+: m' ∧ Ch (fun b => b = m.length + 1) m7 m' ∧ OwT m.length m' o (L.take k) ∧ ∀ b, o.blk = some b → b = m.length + 1 ∨ m7.length ≤ b) := ⟨_, fun _ _ _ => Iff.rfl⟩
  refine W_loop I L.length ((hI _ _ _).2 ⟨0, out, by simp, by simp, hm02.trans hm26, .refl _ _, by simpa using hO, fun b hb => .inl (hob b hb)⟩) ?_
  clear hO hob
  rintro q a m8 hIn
  obtain ⟨k, o, hk, rfl, hm8, hch8, hO, hob⟩ := (hI _ _ _).1 hIn
  clear hIn
  simp
  refine bbind_dec (fun hkl => ?_) fun hkl => ?_
  · have hkl : k < L.length := by omega
    have hw := step64 (k := k) (n := L.length) hkl (by omega)
    obtain ⟨q, rfl⟩ : ∃ q', q = q' + 1 := ⟨q - 1, by omega⟩
    have hT8 := (hB.ch hch8 fun b hb e => by have := (hB.blk_lo hb).1; omega).tab hm8
    obtain ⟨bx', ox, c, h4, h5, _, _, h6⟩ := hT8.atC hkl
    simp [h4, h5]
    have hcl := h6.all
    rw [store_new _ _ c _ _ 6 hcl.1 rfl hcl.2]
    have hb7 : (m8 ++ [ABlk.own c 49 none])[m8.length]? = some (.own c 49 none) := by simp
    have hm89 : m8 <+: m8 ++ [ABlk.own c 49 none] := List.prefix_append _ _
    have hl9 : (m8 ++ [ABlk.own c 49 none]).length = m8.length + 1 := by simp
    have hsy := hsz _ (List.getElem_mem hkl)
    simp
    generalize hy : L[k] = y at *
    generalize m8 ++ [ABlk.own c 49 none] = m9 at *
    generalize hb7e : m8.length = b7 at *
    obtain ⟨e2, nm2, c0, c1, c2, c3, c4, c5, he2, hnm2, rfl⟩ := h6.get
    replace he2 := he2.mono hm89
    replace hnm2 := hnm2.mono hm89
    refine W_draw (fun i v m' => (i = 2 → OwL (AVal.int .i64) m9.length m' 3 v y.elems) ∧ (i = 5 → OwL AVal.str m9.length m' 9 v y.names)) (by simp [maxDst]) ?_
    have : ∀ (j : Nat) (m' : AMem), noFacts j m' := fun _ _ => trivial
    refine D_pre 0 2 [2, 3, 4, 5, 6, 7, 8, 9] (by simp only [List.drop_zero, List.drop_succ_cons, List.take_succ_cons, List.take_zero]; rfl) rfl rfl ‹_› ?_
    simp [bx (own_read hb7)]
    intro _ _
    refine D_C rfl trivial rfl (fun m' hm' _ => (k30 e2 y.elems m' (he2.mono hm') (by omega)).mono ?_) ?_ ?_ ?_
    · rintro w m'' ⟨g1, g2⟩
      exact ⟨g1, fun _ => g2.lo' hm'.length_le, by simp⟩
    · exact ⟨_, _, List.prefix_append _ _, fun _ => OwL.new m9 3 y.elems, by simp⟩
    · rintro w m' m'' hm hk
      exact ⟨fun h => (hk.1 h).mono hm, fun h => (hk.2 h).mono hm⟩
    rintro v2 m10 hm10 hv2
    have v2s := (Ow.sl (hv2.1 rfl)).self
    clear hv2 hm10
    refine D_P rfl trivial ?_
    simp
    refine D_R rfl trivial ⟨_, List.prefix_refl _, fun _ h => by cases h⟩ ?_
    simp [bx (own_read hb7)]
    refine D_C rfl trivial rfl (fun m' hm' _ => (k142 nm2 y.names m' (hnm2.mono hm') (by omega)).mono ?_) ?_ ?_ ?_
    · rintro w m'' ⟨g1, g2, _⟩
      exact ⟨g1, by simp, fun _ => g2.lo' hm'.length_le⟩
    · exact ⟨_, _, List.prefix_append _ _, by simp, fun _ => OwL.new m9 9 y.names⟩
    · rintro w m' m'' hm hk
      exact ⟨fun h => (hk.1 h).mono hm, fun h => (hk.2 h).mono hm⟩
    rintro v5 m10 hm10 hv5
    have v5s := (Ow.sl (hv5.2 rfl)).self
    clear hv5 hm10
    refine D_P rfl trivial ?_
    simp
    refine D_W rfl rfl fun m10 hm10 hf => ?_
    have g2 := hf 2
    have g5 := hf 5
    simp [upd] at g2 g5
    have hb10 := own_mono hb7 hm10
    obtain ⟨m11, hst, hb11, hch11⟩ := fld_store (i := 2) hb10 (by simp) v2s.2 v2s.1
    simp [hst]
    refine D_P rfl trivial ?_
    simp
    refine D_W rfl rfl fun m12 hm12 _ => ?_
    have hb12 := own_mono hb11 hm12
    obtain ⟨m13, hst13, hb13, hch13⟩ := fld_store (i := 3) hb12 (by simp) v5s.2 v5s.1
    simp [hst13]
    refine D_end fun m14 hm14 _ => ?_
    have hb14 := own_mono hb13 hm14
    simp at hb14
    have hchx : Ch (fun b => b = b7) m10 m14 := ((hch11.trans (.of_prefix hm12)).trans hch13).trans (.of_prefix hm14)
    have g2' := g2.ch hchx fun b hb e => by have := (g2.blk_lo hb).1; omega
    have g5' := g5.ch hchx fun b hb e => by have := (g5.blk_lo hb).1; omega
    have hm814 : m8 <+: m14 := hchx.pre (hm89.trans hm10) fun b hb e => by omega
    have hO14 := hO.mono hm814
    have hsc : sliceCells (m14 ++ [ABlk.own [.int .i64 y.kind, .int .i64 y.size, v2, v5, .int .i64 y.dims, .bool y.flex] 49 none]) 6 (.slice m14.length 0 1 1 none) = some (1, [.int .i64 y.kind, .int .i64 y.size, v2, v5, .int .i64 y.dims, .bool y.flex]) := by simp [sliceCells, readB, ABlk.cells, readN]
    have hm1415 : m14 <+: m14 ++ [ABlk.own [.int .i64 y.kind, .int .i64 y.size, v2, v5, .int .i64 y.dims, .bool y.flex] 49 none] := List.prefix_append _ _
    have hol : ∀ b, o.blk = some b → m.length ≤ b ∧ b < m8.length := fun b hb => hO.blk_lo hb
    simp [bxW (own_read hb14), readN, fillA, setN, v2s.1, v5s.1]
    generalize m14 ++ [ABlk.own [.int .i64 y.kind, .int .i64 y.size, v2, v5, .int .i64 y.dims, .bool y.flex] 49 none] = m15 at *
    have hm815 := hm814.trans hm1415
    have hl815 := hm815.length_le
    obtain ⟨o', m16, happ, hch16, hO16, hob16⟩ := (hO14.mono hm1415).push (c := [.int .i64 y.kind, .int .i64 y.size, v2, v5, .int .i64 y.dims, .bool y.flex]) (x := y) (by have := hm8.length_le; omega) (fun m' hc => ⟨v2, v5, rfl, ((g2'.mono hm1415).ch hc fun b hb e => by have := (g2.blk_lo hb).1; have := hol b e; omega).ints, Ow.sl ((g5'.mono hm1415).ch hc fun b hb e => by have := (g5.blk_lo hb).1; have := hol b e; omega)⟩) (by simp; omega)
    simp [hsc, happ, hw]
    refine ⟨q, by omega, (hI _ _ _).2 ⟨k + 1, o', by omega, by simp, hch16.pre (hm8.trans hm815) fun b hb e => by have := hol b e; omega, (hch8.andThen (.of_prefix (S := fun _ => False) hm815) fun b hb h => h.elim).andThen hch16 fun b hb h => ?_, ?_, fun b hb => ?_⟩⟩
    · rcases hob b h with h | h
      · exact h
      · omega
    · rw [List.take_add_one, List.getElem?_eq_getElem hkl, hy]
      exact hO16
    · rcases hob16 b hb with h | h
      · exact hob b h
      · have := hch8.len; right; omega
  · have hkl : k = L.length := by omega
    subst hkl
    rw [List.take_length] at hO
    simp
    exact ⟨hm8, hO⟩
end Go.Proofs.YtheadodblifklaaGreat

/- alike.Find and alike.Put (tables of fewer than 12 modes).  Conditions: none. -/
namespace Go.Proofs.YtheadodblifklaaGreat
open Go Ax
set_option maxRecDepth 100000
/-- A slice with three bounds. -/
def slice3E (esz : Nat) (v hi mx : AVal) : Option AVal := match v with
  | .nilslice => (bdE (some hi) 0).bind fun h => (bdE (some mx) 0).bind fun m => evSlice esz .nilslice 0 h (some m)
  | .slice b o n k ex => (bdE (some hi) n).bind fun h => (bdE (some mx) 0).bind fun m => evSlice esz (.slice b o n k ex) 0 h (some m)
  | _ => none
theorem ev_slice3 (a : AFrame) (esz : Nat) (x hi mx : Arg) : POp.ev a (.slice esz x none (some hi) (some mx)) = slice3E esz (a.ev x) (a.ev hi) (a.ev mx) := by
  simp only [POp.ev, bnd_eq, slice3E]
  cases a.ev x <;> rfl
theorem RTab.slice3 {m : AMem} {s : AVal} {L : List Md} (h : RTab m s L) {n : Nat} (hn : n ≤ L.length) : ∃ s', slice3E 6 s (.int .i64 n) (.int .i64 n) = some s' ∧ RTab m s' (L.take n) := by
  obtain ⟨cs, h1, h2⟩ := h
  have hcl := h1.length
  have hmd : ∀ (i : Nat) x, (L.take n)[i]? = some x → RMode m (((cs.take (n * 6)).drop (i * 6)).take 6) x := by
    intro i x hx
    have hi : i < n := by
      have := (List.getElem?_eq_some_iff.1 hx).1
      simp at this; omega
    rw [List.getElem?_take, if_pos hi] at hx
    have := h2 i x hx
    rw [List.drop_take, List.take_take, Nat.min_eq_left (by omega)]
    exact this
  have hlt : (L.take n).length = n := by simp; omega
  rcases h1 with ⟨rfl, hl, rfl⟩ | ⟨b, o, cap, gr, rfl, ⟨hc, hg⟩, h3⟩
  · obtain rfl : n = 0 := by omega
    exact ⟨.nilslice, by simp [slice3E, bdE, evSlice], [], by simpa using Sl.nil, by simp⟩
  · refine ⟨.slice b o n n none, ?_, cs.take (n * 6), ?_, hmd⟩
    · simp [slice3E, bdE, evSlice]
      omega
    · rw [hlt]
      refine .inr ⟨b, o, n, none, rfl, ⟨Nat.le_refl _, .inl rfl⟩, ?_⟩
      by_cases h0 : n = 0
      · subst h0; exact .inl ⟨rfl, by simp⟩
      · rcases h3 with ⟨h3, _⟩ | ⟨_, bl, h4, h5⟩
        · omega
        · refine .inr ⟨h0, bl, h4, ?_⟩
          have := readN_sub h5 (i := 0) (k := n * 6) (by omega)
          simpa using this
/-- The least mode that is equal to a further one. -/
noncomputable def findI (l : List Md) (x : Md) : Option Nat :=
  if (l.length : Int) ∈ x.elems then none
  else if checkI (l ++ [x]) ≠ 0 then none
  else if fidx (fun i => RR (l ++ [x]) i == RR (l ++ [x]) l.length) 0 (l.length + 1) = l.length then none
  else some (fidx (fun i => RR (l ++ [x]) i == RR (l ++ [x]) l.length) 0 (l.length + 1)).toNat
noncomputable def putI (l : List Md) (x : Md) : List Md × Int × Int :=
  if checkI l ≠ 0 then ([], 0, checkI l)
  else match findI l x with
    | some i => (l, i, 0)
    | none => if checkI (l ++ [x]) ≠ 0 then ([], 0, checkI (l ++ [x])) else (l ++ [x], l.length, 0)
theorem k137 (s : AVal) (c : List AVal) (l : List Md) (x : Md) (m : AMem) (hs : RTab m s l) (hx : RMode m c x) (hsz : ∀ y ∈ l ++ [x], smallN y) (h40 : ∀ y ∈ l ++ [x], y.elems.length < 2 ^ 40 ∧ y.names.length < 2 ^ 40) (hn : l.length < 12) :
    ACalls Tryz.prog 137 [s, .agg c] m fun v m' => m <+: m' ∧ v = .tuple [.int .i64 ((findI l x).getD 0 : Nat), .bool (findI l x).isSome] := by
  have hx0 := hx
  have hcl := hx.all
  obtain ⟨e, nm, rfl, he, hnm⟩ := hx
  refine w137 ?_
  have h1 := Sl.one he
  have h2 := Sl.one hnm
  simp [h1, h2, hs.len]
  have hb0 := readB_new m [.int .i64 x.kind, .int .i64 x.size, e, nm, .int .i64 x.dims, .bool x.flex] 49 none
  have hm01 : m <+: m ++ [.own [.int .i64 x.kind, .int .i64 x.size, e, nm, .int .i64 x.dims, .bool x.flex] 49 none] := List.prefix_append _ _
  generalize m ++ [.own [.int .i64 x.kind, .int .i64 x.size, e, nm, .int .i64 x.dims, .bool x.flex] 49 none] = m1 at *
  generalize m.length = b3 at *
  have hxs := hsz x (by simp)
  refine C_of (k171 e x.elems _ m1 (he.mono hm01) hxs.1) ?_
  rintro _ m2 ⟨rfl, rfl⟩
  by_cases hin : (l.length : Int) ∈ x.elems
  · simp [hin, findI]
    exact hm01
  · simp [hin, bxW hb0, readN]
    refine C_of (k138 s _ l x m2 (hs.mono hm01) (hx0.mono hm01) h40 (by omega)) ?_
    rintro v3 m3 ⟨hm3, hT⟩
    have hlL : (l ++ [x]).length = l.length + 1 := by simp
    simp
    refine C_of (k49 v3 (l ++ [x]) m3 hT.tab hsz (by omega)) ?_
    rintro _ m4 ⟨rfl, hm4⟩
    have hfind : findI l x = if checkI (l ++ [x]) ≠ 0 then none else if fidx (fun i => RR (l ++ [x]) i == RR (l ++ [x]) l.length) 0 (l.length + 1) = l.length then none else some (fidx (fun i => RR (l ++ [x]) i == RR (l ++ [x]) l.length) 0 (l.length + 1)).toNat := by
      unfold findI
      rw [if_neg hin]
    have hm04 := (hm01.trans hm3).trans hm4
    by_cases hc : checkI (l ++ [x]) = 0
    · have ok := okT_of hc
      simp [hc]
      refine C_of (k52 v3 (l ++ [x]) m4 (hT.mono hm4).tab ok.good (by omega) hsz ok.h64) ?_
      rintro v5 m5 ⟨hm5, ds, kd, hX, hD⟩
      have hXi := ints_of_nat hX
      have hdl := hD.len
      obtain ⟨b1, o1, g1, g2⟩ := hXi.at (i := l.length) (by simp; omega)
      simp [hs.len, g1, g2]
      have hnd : l.length < ds.length := by omega
      refine C_of (k98 v5 _ (ds[l.length] : Nat) m5 hXi (by simp; omega)) ?_
      rintro _ m6 ⟨rfl, rfl⟩
      have hF : fidx (fun i => (ds.map fun z : Nat => (z : Int))[i]? == some ((ds[l.length] : Nat) : Int)) 0 (ds.map fun z : Nat => (z : Int)).length = fidx (fun i => RR (l ++ [x]) i == RR (l ++ [x]) l.length) 0 (l.length + 1) := by
        rw [List.length_map, hdl, hlL]
        refine fidx_congr _ _ fun j _ hj => ?_
        have hso := hD.sameOrd.eq (a := j) (b := l.length) (by omega) (by omega)
        have e1 : ds.getD j 0 = ds[j]'(by omega) := by simp [List.getD, show j < ds.length by omega]
        have e2 : ds.getD l.length 0 = ds[l.length] := by simp [List.getD, hnd]
        rw [e1, e2] at hso
        rw [Bool.eq_iff_iff]
        simp [show j < ds.length by omega]
        rw [← hso]
        omega
      rw [hF]
      have hge : 0 ≤ fidx (fun i => RR (l ++ [x]) i == RR (l ++ [x]) l.length) 0 (l.length + 1) := (fidx_nonneg _ _ _).2 ⟨l.length, by omega, by omega, by simp⟩
      rw [if_neg (by simp [hc])] at hfind
      generalize fidx (fun i => RR (l ++ [x]) i == RR (l ++ [x]) l.length) 0 (l.length + 1) = F at *
      by_cases hFl : F = l.length
      · rw [if_pos hFl] at hfind
        subst hFl
        simp [hs.len, hfind]
        exact hm04.trans hm5
      · rw [if_neg hFl] at hfind
        simp [hs.len, hfind, beqF hFl]
        exact ⟨hm04.trans hm5, by omega⟩
    · have : findI l x = none := by rw [hfind, if_pos hc]
      simp [bneT hc, this]
      exact hm04
theorem RTab.nil0 (m : AMem) : RTab m .nilslice [] := ⟨[], Sl.nil, by simp⟩
theorem k97 (s : AVal) (c : List AVal) (l : List Md) (x : Md) (m : AMem) (hs : RTab m s l) (hx : RMode m c x) (hsz : ∀ y ∈ l ++ [x], smallN y) (h40 : ∀ y ∈ l ++ [x], y.elems.length < 2 ^ 40 ∧ y.names.length < 2 ^ 40) (hn : l.length < 12) :
    ACalls Tryz.prog 97 [s, .agg c] m fun v m' => m <+: m' ∧ ∃ t, v = .tuple [t, .int .i64 (putI l x).2.1, .int .i64 (putI l x).2.2] ∧ RTab m' t (putI l x).1 := by
  have hx0 := hx
  have hcl := hx.all
  obtain ⟨e, nm, rfl, he, hnm⟩ := hx
  refine w97 ?_
  have h1 := Sl.one he
  have h2 := Sl.one hnm
  simp [h1, h2]
  have hb0 := readB_new m [.int .i64 x.kind, .int .i64 x.size, e, nm, .int .i64 x.dims, .bool x.flex] 49 none
  have hm01 : m <+: m ++ [.own [.int .i64 x.kind, .int .i64 x.size, e, nm, .int .i64 x.dims, .bool x.flex] 49 none] := List.prefix_append _ _
  generalize m ++ [.own [.int .i64 x.kind, .int .i64 x.size, e, nm, .int .i64 x.dims, .bool x.flex] 49 none] = m1 at *
  generalize m.length = b3 at *
  have hlL : (l ++ [x]).length = l.length + 1 := by simp
  refine C_of (k49 s l m1 (hs.mono hm01) (fun y hy => hsz y (by simp [hy])) (by omega)) ?_
  rintro _ m2 ⟨rfl, hm2⟩
  have hm02 := hm01.trans hm2
  by_cases hc : checkI l = 0
  · have hp : putI l x = match findI l x with
      | some i => (l, (i : Int), 0)
      | none => if checkI (l ++ [x]) ≠ 0 then ([], 0, checkI (l ++ [x])) else (l ++ [x], (l.length : Int), 0) := by
      unfold putI
      rw [if_neg (by simp [hc])]
    simp [hc, bxW (readB_mono hm2 hb0), readN]
    refine C_of (k137 s _ l x m2 (hs.mono hm02) (hx0.mono hm02) hsz h40 hn) ?_
    rintro _ m3 ⟨hm3, rfl⟩
    have hm03 := hm02.trans hm3
    cases hf : findI l x with
    | some i =>
      rw [hf] at hp
      simp only at hp
      simp [bxW (readB_mono (hm2.trans hm3) hb0), readN]
      refine C_of (k138 s _ l x m3 (hs.mono hm03) (hx0.mono hm03) h40 (by omega)) ?_
      rintro v4 m4 ⟨hm4, hT⟩
      obtain ⟨s', g1, g2⟩ := RTab.slice3 hT.tab (n := l.length) (by omega)
      rw [List.take_left'] at g2
      · simp [hs.len, ev_slice3, g1, hp]
        exact ⟨hm03.trans hm4, g2⟩
      · rfl
    | none =>
      rw [hf] at hp
      simp only at hp
      simp [bxW (readB_mono (hm2.trans hm3) hb0), readN]
      refine C_of (k138 s _ l x m3 (hs.mono hm03) (hx0.mono hm03) h40 (by omega)) ?_
      rintro v4 m4 ⟨hm4, hT⟩
      simp
      refine C_of (k49 v4 (l ++ [x]) m4 hT.tab hsz (by omega)) ?_
      rintro _ m5 ⟨rfl, hm5⟩
      have hm05 := (hm03.trans hm4).trans hm5
      by_cases hc2 : checkI (l ++ [x]) = 0
      · rw [if_neg (by simp [hc2])] at hp
        simp [hc2, hp, hs.len]
        exact ⟨hm05, (hT.mono hm5).tab⟩
      · rw [if_pos hc2] at hp
        simp [bneT hc2, hp]
        exact ⟨hm05, RTab.nil0 _⟩
  · have hp : putI l x = ([], 0, checkI l) := by
      unfold putI
      rw [if_pos hc]
    simp [bneT hc, hp]
    exact ⟨hm02, RTab.nil0 _⟩
end Go.Proofs.YtheadodblifklaaGreat

/- unions.Without, table.of (tables of fewer than 12 modes).  Conditions: none. -/
namespace Go.Proofs.YtheadodblifklaaGreat
open Go Ax
set_option maxRecDepth 100000
theorem k55 (s ro t : AVal) (l : List Md) (rk zs : List Nat) (x b1 b2 : Nat) (m : AMem) (hs : RTab m s l) (hro : RInts m ro (rk.map fun z : Nat => (z : Int))) (ht : RInts m t (zs.map fun z : Nat => (z : Int))) (hz : ∀ z ∈ zs, z < rk.length) (hx : x < rk.length) (hn : zs.length < 2 ^ 62) (hb1 : readB m b1 = some [s, ro]) (hb2 : readB m b2 = some [t]) :
    ACalls Tryz.prog 55 [.int .i64 x, .ptr b1 0, .ptr b2 0] m fun v m' => v = .bool (zs.any fun z => rk.getD z 0 == rk.getD x 0) ∧ m <+: m' := by
  refine w55 ?_
  simp [bxW hb1, readN, bx hb2]
  refine C_of (k46 s ro t rk zs x m hs.self hro ht hz hx hn) ?_
  rintro _ m2 ⟨rfl, hm2⟩
  simp [hm2]
def unionOf (zs : List Nat) : Md := ⟨12, 0, zs.map fun z : Nat => (z : Int), [], 0, false⟩
/-- The mode of several modes. -/
noncomputable def ofI (l : List Md) (zs : List Nat) : List Md × Int × Int :=
  if zs.length = 1 then ((putI l (mdAt l (zs.getD 0 0))).1, fidx (fun i => RR l i == RR l (zs.getD 0 0)) 0 l.length, (putI l (mdAt l (zs.getD 0 0))).2.2)
  else putI l (unionOf zs)
set_option maxHeartbeats 4000000 in
theorem k56 (s ro t : AVal) (l : List Md) (ds zs : List Nat) (kd : Nat) (m : AMem) (hs : RTab m s l) (hro : RInts m ro (ds.map fun z : Nat => (z : Int))) (hD : DenseOf l.length (fun a b => RR l a < RR l b) ds kd) (ht : RInts m t (zs.map fun z : Nat => (z : Int))) (hz : ∀ z ∈ zs, z < l.length) (hzn : zs.length ≤ 20) (hsz : ∀ y ∈ l, smallN y) (h40 : ∀ y ∈ l, y.elems.length < 2 ^ 40 ∧ y.names.length < 2 ^ 40) (hn : l.length < 12) :
    ACalls Tryz.prog 56 [.agg [s, ro], t] m fun v m' => m <+: m' ∧ ∃ t', v = .tuple [t', .int .i64 (ofI l zs).2.1, .int .i64 (ofI l zs).2.2] ∧ RTab m' t' (ofI l zs).1 := by
  refine w56 ?_
  obtain ⟨hsl, hsc⟩ := hs.self
  obtain ⟨hr1, hr2⟩ := Sl.self hro
  have htl := ht.len
  rw [List.length_map] at htl
  simp [hsl, hsc, hr1, hr2, htl]
  have hb0 := readB_new m [s, ro] 53 none
  have hm1 : m <+: m ++ [.own [s, ro] 53 none] := List.prefix_append _ _
  generalize m ++ [.own [s, ro] 53 none] = m1 at *
  generalize m.length = b2 at *
  by_cases h1 : zs.length = 1
  · have hz0 : zs.getD 0 0 < l.length := by
      have : zs.getD 0 0 = zs[0] := by simp [List.getD, h1]
      rw [this]; exact hz _ (List.getElem_mem _)
    have ho : ofI l zs = ((putI l (mdAt l (zs.getD 0 0))).1, fidx (fun i => RR l i == RR l (zs.getD 0 0)) 0 l.length, (putI l (mdAt l (zs.getD 0 0))).2.2) := by unfold ofI; rw [if_pos h1]
    rw [ho]
    obtain ⟨bt, ot, g1, g2⟩ := ht.at (i := 0) (by simp; omega)
    have e0 : (zs.map fun z : Nat => (z : Int))[0]'(by simp; omega) = ((zs.getD 0 0 : Nat) : Int) := by simp [List.getD, h1]
    rw [e0] at g2
    generalize zs.getD 0 0 = z0 at *
    have hmd := mdAt_eq hz0
    obtain ⟨bx', ox, c, g3, g4, _, _, g5⟩ := hs.atC hz0
    rw [← hmd] at g5
    simp [h1]
    refine W_draw (fun _ _ _ => True) (by simp [maxDst]) ?_
    refine D_pre 0 9 [9, 10, 11, 12, 13, 14, 15, 16] (by simp only [List.drop_zero, List.drop_succ_cons, List.take_succ_cons, List.take_zero]; rfl) rfl rfl (fun _ _ => trivial) ?_
    have g2' := loadE_mono hm1 g2
    have g4' := loadE_mono hm1 g4
    have g10 := g1 .i64
    simp at g10
    simp [bx hb0, g10, g2', g3, g4']
    intro _ _
    refine D_X rfl rfl fun m2 hm2 _ => ?_
    simp
    have hmm : mdAt l z0 ∈ l := by rw [hmd]; exact List.getElem_mem hz0
    have hm02 := hm1.trans hm2
    refine C_of (k97 s c l (mdAt l z0) m2 (hs.mono hm02) (g5.mono hm02) (fun y hy => ?_) (fun y hy => ?_) hn) ?_
    · rcases List.mem_append.1 hy with h | h
      · exact hsz y h
      · simp at h; subst h; exact hsz _ hmm
    · rcases List.mem_append.1 hy with h | h
      · exact h40 y h
      · simp at h; subst h; exact h40 _ hmm
    rintro _ m3 ⟨hm3, t', rfl, hT⟩
    refine ⟨by simp [lateOf], ?_⟩
    refine D_pre 10 7 [] (by simp only [List.drop_zero, List.drop_succ_cons, List.take_succ_cons, List.take_zero]; rfl) rfl rfl (fun _ _ => trivial) ?_
    simp
    intro _ _
    refine D_end fun m4 hm4 _ => ?_
    have hm14 := (hm2.trans hm3).trans hm4
    have hb4 := readB_mono hm14 hb0
    simp
    refine W_draw (fun _ _ _ => True) (by simp [maxDst]) ?_
    refine D_pre 0 10 [11, 10, 12, 13, 14] (by simp only [List.drop_zero, List.drop_succ_cons, List.take_succ_cons, List.take_zero]; rfl) rfl rfl (fun _ _ => trivial) ?_
    obtain ⟨br, or_, g6, g7⟩ := ranksAt hro (x := z0) (by rw [hD.len]; exact hz0)
    have g7 := g7 m4 (hm1.trans hm14)
    have g2'' := loadE_mono hm14 g2'
    simp [bx hb4, g10, g2'', g6, g7]
    intro _ _
    refine D_P rfl trivial ?_
    simp
    refine D_X rfl rfl fun m5 hm5 _ => ?_
    simp
    have hdl := hD.len
    refine C_of (k98 ro _ (ds.getD z0 0 : Nat) m5 (hro.mono ((hm1.trans hm14).trans hm5)) (by simp; omega)) ?_
    rintro _ m6 ⟨rfl, rfl⟩
    have hF : fidx (fun i => (ds.map fun z : Nat => (z : Int))[i]? == some ((ds.getD z0 0 : Nat) : Int)) 0 (ds.map fun z : Nat => (z : Int)).length = fidx (fun i => RR l i == RR l z0) 0 l.length := by
      rw [List.length_map, hdl]
      refine fidx_congr _ _ fun j _ hj => ?_
      have hso := hD.sameOrd.eq (a := j) (b := z0) (by omega) (by omega)
      have e1 : ds.getD j 0 = ds[j]'(by omega) := by simp [List.getD, show j < ds.length by omega]
      rw [Bool.eq_iff_iff]
      simp only [List.getElem?_map, List.getElem?_eq_getElem (show j < ds.length by omega), Option.map_some, beq_iff_eq, Option.some.injEq]
      rw [← hso, e1]
      omega
    rw [hF]
    refine ⟨by simp [lateOf], ?_⟩
    refine D_pre 12 3 [] (by simp only [List.drop_zero, List.drop_succ_cons, List.take_succ_cons, List.take_zero]; rfl) rfl rfl (fun _ _ => trivial) ?_
    simp
    intro _ _
    refine D_end fun m7 hm7 _ => ?_
    simp
    exact ⟨((hm1.trans hm14).trans hm5).trans hm7, hT.mono ((hm4.trans hm5).trans hm7)⟩
  · have ho : ofI l zs = putI l (unionOf zs) := by unfold ofI; rw [if_neg h1]
    rw [ho]
    have h1' : ¬ (zs.length : Int) = 1 := by omega
    have hts := Sl.self ht
    simp [beqF h1', bx hb0, fillA, setN, hts.1, hts.2]
    have hsm : ∀ y ∈ l ++ [unionOf zs], smallN y := fun y hy => by
      rcases List.mem_append.1 hy with h | h
      · exact hsz y h
      · simp at h; subst h; exact ⟨by simp [unionOf]; omega, by simp [unionOf], by simp [unionOf]⟩
    have h40' : ∀ y ∈ l ++ [unionOf zs], y.elems.length < 2 ^ 40 ∧ y.names.length < 2 ^ 40 := fun y hy => by
      rcases List.mem_append.1 hy with h | h
      · exact h40 y h
      · simp at h; subst h; exact ⟨by simp [unionOf]; omega, by simp [unionOf]⟩
    refine C_of (k97 s _ l (unionOf zs) m1 (hs.mono hm1) ⟨t, .nilslice, rfl, ht.mono hm1, Sl.nil⟩ hsm h40' hn) ?_
    rintro _ m3 ⟨hm3, t', rfl, hT⟩
    simp
    exact ⟨hm1.trans hm3, hT⟩
end Go.Proofs.YtheadodblifklaaGreat

/- unions.Without (tables of fewer than 12 modes).  Conditions: none. -/
namespace Go.Proofs.YtheadodblifklaaGreat
open Go Ax
set_option maxRecDepth 100000
open Classical in
/-- The parts of a union that another mode does not have. -/
noncomputable def leftI (l : List Md) (u v : Nat) : List Nat := (basesOf l u).filter fun z => !decide (hasRR l v z)
noncomputable def withoutI (l : List Md) (u v : Int) : List Md × Int × Int :=
  if rightI l [u, v] ≠ 0 then ([], 0, rightI l [u, v])
  else if isU (mdAt l u.toNat) = false then ([], 0, 13)
  else if (leftI l u.toNat v.toNat).length = 0 then ([], 0, 12)
  else ofI l (leftI l u.toNat v.toNat)
set_option maxHeartbeats 4000000 in
open Classical in
theorem k24 (s : AVal) (l : List Md) (u v : Int) (m : AMem) (hs : RTab m s l) (hsz : ∀ x ∈ l, smallN x) (h40 : ∀ y ∈ l, y.elems.length < 2 ^ 40 ∧ y.names.length < 2 ^ 40) (hn : l.length < 12) :
    ACalls Tryz.prog 24 [s, .int .i64 u, .int .i64 v] m fun w m' => m <+: m' ∧ ∃ t, w = .tuple [t, .int .i64 (withoutI l u v).2.1, .int .i64 (withoutI l u v).2.2] ∧ RTab m' t (withoutI l u v).1 := by
  refine w24 ?_
  obtain ⟨hsl, hsc⟩ := hs.self
  simp [fillA, setN]
  have hA := two_ints m u v
  have hm1 : m <+: m ++ [.own [.int .i64 u, .int .i64 v] 3 none] := List.prefix_append _ _
  generalize AVal.slice m.length 0 2 2 none = t1 at *
  generalize m ++ [.own [.int .i64 u, .int .i64 v] 3 none] = m1 at *
  refine C_of (k35 s t1 l [u, v] m1 (hs.mono hm1) hA.ints hsz (fun x hx => (h40 x hx).2) (by omega) (by simp)) ?_
  rintro _ m2 ⟨hm2, ⟨hr, rfl⟩ | ⟨hr, ro, ds, k, rfl, hX, hD⟩⟩
  · simp
    rw [tabBox _ _ _ rfl rfl]
    have hm3 : m2 <+: m2 ++ [.own [.nilslice, .nilslice] 53 none] := List.prefix_append _ _
    generalize m2 ++ [.own [.nilslice, .nilslice] 53 none] = m3 at *
    have hW : withoutI l u v = ([], 0, rightI l [u, v]) := by unfold withoutI; rw [if_pos hr]
    simp [bneT hr, hW]
    exact ⟨(hm1.trans hm2).trans hm3, RTab.nil0 _⟩
  obtain ⟨hc, a, b, rfl, rfl, ha, hb⟩ := right2 hr
  have ok := okT_of hc
  have hrs := (Ow.sl hX).self
  have hso := dense_same hD
  have hW : withoutI l a b = if isU (mdAt l a) = false then ([], 0, 13) else if (leftI l a b).length = 0 then ([], 0, 12) else ofI l (leftI l a b) := by
    unfold withoutI
    rw [if_neg (by simp [hr])]
    simp only [Int.toNat_natCast]
  simp
  rw [tabBox _ _ _ hsl hrs.1]
  have hb8 := readB_new m2 [s, ro] 53 none
  have hm3 : m2 <+: m2 ++ [.own [s, ro] 53 none] := List.prefix_append _ _
  generalize m2 ++ [.own [s, ro] 53 none] = m3 at *
  generalize m2.length = b8 at *
  have hm03 := (hm1.trans hm2).trans hm3
  have hRo := (ints_of_nat hX).mono hm3
  simp [bxW hb8, readN]
  refine C_of (k41 s ro l a m3 (hs.mono hm03) hrs ha) ?_
  rintro _ m4 ⟨rfl, hm4⟩
  simp
  have hm04 := hm03.trans hm4
  cases hu : isU (mdAt l a)
  · rw [if_pos hu] at hW
    simp [hW]
    exact ⟨hm04, RTab.nil0 _⟩
  rw [if_neg (by rw [hu]; simp)] at hW
  have hb84 := readB_mono hm4 hb8
  simp [bxW hb84, readN]
  refine C_of (k44n s ro l b hb m4 (hs.mono hm04) hrs ok.good ok.len ok.h64) ?_
  rintro v5 m5 ⟨hm5, P, hP, hPn, hPm⟩
  have hps := (Ow.sl hP).self
  have hPb : IsBases l b P := ⟨hPn, hPm⟩
  have hPl := hPb.length ok.good hb
  have hPlt := hPb.lt ok.good hb
  have hany : ∀ w, w < l.length → (P.any fun z => ds.getD z 0 == ds.getD w 0) = decide (hasRR l b w) := fun w hw => any_hasRR ok.good hso hb hw hPm
  simp
  rw [store_new1 _ _ _ _ _ hps.2 hps.1]
  have hb10 := readB_new m5 [v5] 33 none
  have hm6 : m5 <+: m5 ++ [.own [v5] 33 none] := List.prefix_append _ _
  generalize m5 ++ [.own [v5] 33 none] = m6 at *
  generalize m5.length = b10 at *
  have hb86 := readB_mono (hm5.trans hm6) hb84
  have hm06 := (hm04.trans hm5).trans hm6
  have hm36 := (hm4.trans hm5).trans hm6
  have hP6 := (ints_of_nat hP).mono hm6
  simp
  refine W_draw (fun _ _ _ => True) (by simp [maxDst]) ?_
  refine D_pre 0 3 [5, 3, 4, 6, 7] (by simp only [List.drop_zero, List.drop_succ_cons, List.take_succ_cons, List.take_zero]; rfl) rfl rfl (fun _ _ => trivial) ?_
  simp [bxW hb86, readN]
  intro _ _
  refine D_P rfl trivial ?_
  simp
  refine D_X rfl rfl fun m7 hm7 _ => ?_
  simp
  have hm07 := hm06.trans hm7
  refine C_of (k44n s ro l a ha m7 (hs.mono hm07) hrs ok.good ok.len ok.h64) ?_
  rintro v8 m8 ⟨hm8, O, hO, hOn, hOm⟩
  have hb88 := readB_mono (hm7.trans hm8) hb86
  refine ⟨by simp [lateOf, ROp.ev, hb88, readN], ?_⟩
  refine D_X rfl rfl fun m9 hm9 _ => ?_
  simp
  have hm69 := (hm7.trans hm8).trans hm9
  have hm09 := hm06.trans hm69
  have hR9 := hRo.mono (hm36.trans hm69)
  have hOb : IsBases l a O := ⟨hOn, hOm⟩
  refine C_of (k43 s ro v8 l ds O m9 (hs.mono hm09) hR9 ((ints_of_nat hO).mono hm9) hOn (by have := hOb.length ok.good ha; omega) (fun z hz => by rw [hD.len]; exact hOb.lt ok.good ha z hz)) ?_
  rintro v10 m10 ⟨hm10, zs, hZ, hsb⟩
  refine ⟨by simp [lateOf], ?_⟩
  have hzs := once_eq ok.good hso ha hu hOm hsb
  have hzl : ∀ z ∈ zs, z < l.length := fun z hz => hOb.lt ok.good ha z (hsb.sub z hz)
  have hzn : zs.length ≤ l.length := nodup_le l.length zs (hsb.asc.imp fun hab => by intro e; subst e; omega) hzl
  refine D_X rfl rfl fun m11 hm11 _ => ?_
  simp
  refine C_of (k53 v10 3 m9.length m9 (Nat.le_refl _) 55 [] [.ptr b8 0, .ptr b10 0] (fun z => P.any fun y => ds.getD y 0 == ds.getD z.toNat 0) (zs.map fun z : Nat => (z : Int)) ?_ (by simp; omega) m11 (hm10.trans hm11) (natsI.2 (hZ.mono hm11))) ?_
  · intro z hz m' hm'
    obtain ⟨z, hz', rfl⟩ := List.mem_map.1 hz
    have hmt := hm69.trans hm'
    exact k55 s ro v5 l ds P z b8 b10 m' (hs.mono (hm06.trans hmt)) (hRo.mono (hm36.trans hmt)) (hP6.mono hmt) (fun y hy => by rw [hD.len]; exact hPlt y hy) (by rw [hD.len]; exact hzl z hz') (by omega) (readB_mono hmt hb86) (readB_mono hmt hb10)
  rintro v12 m12 ⟨hm12, _, hF, _⟩
  refine ⟨by simp [lateOf], ?_⟩
  have hfl : ((zs.map fun z : Nat => (z : Int)).filter fun a => !(P.any fun y => ds.getD y 0 == ds.getD a.toNat 0)) = (leftI l a b).map fun z : Nat => (z : Int) := by
    rw [List.filter_map]
    unfold leftI
    rw [← hzs]
    congr 1
    refine List.filter_congr fun z hz => ?_
    simp only [Function.comp, Int.toNat_natCast]
    rw [hany z (hzl z hz)]
  rw [hfl] at hF
  refine D_P rfl trivial ?_
  simp
  refine D_end fun m13 hm13 _ => ?_
  replace hF := hF.mono hm13
  have hll : (leftI l a b).length ≤ l.length := by
    unfold leftI
    rw [← hzs]
    exact Nat.le_trans (List.length_filter_le _ _) hzn
  have hlz : ∀ z ∈ leftI l a b, z < l.length := fun z hz => by
    unfold leftI at hz
    rw [← hzs] at hz
    exact hzl z (List.mem_filter.1 hz).1
  have hm913 := hm12.trans hm13
  have hm013 := hm09.trans hm913
  have hln := hF.len
  rw [List.length_map] at hln
  simp [hln]
  by_cases h0 : leftI l a b = []
  · rw [if_pos (by rw [h0]; rfl)] at hW
    simp [h0, hW]
    exact ⟨hm013, RTab.nil0 _⟩
  · have h0' : ¬ (leftI l a b).length = 0 := by simpa using h0
    have h0i : ¬ ((leftI l a b).length : Int) = 0 := by omega
    rw [if_neg h0'] at hW
    simp [beqF h0i, bxW (readB_mono (hm69.trans hm913) hb86), readN]
    refine C_of (k56 s ro v12 l ds (leftI l a b) k m13 (hs.mono hm013) (hRo.mono (hm36.trans (hm69.trans hm913))) hD hF.ints hlz (by omega) hsz h40 hn) ?_
    rintro _ m14 ⟨hm14, t', rfl, hT⟩
    rw [hW]
    simp
    exact ⟨hm013.trans hm14, hT⟩
end Go.Proofs.YtheadodblifklaaGreat

/- The example's tables: they are right; their parts; their order.  Conditions: none. -/
namespace Go.Proofs.YtheadodblifklaaGreat
open Go Ax
open Relation
set_option maxRecDepth 100000
def mdU (k : Int) (es : List Int) : Md := ⟨k, 0, es, [], 0, false⟩
def tab5 : List Md := [mdU 3 [], mdU 1 [], mdU 12 [0, 1], mdU 2 [], mdU 12 [3, 2]]
def tab6 : List Md := [mdU 3 [], mdU 1 [], mdU 12 [0, 1], mdU 2 [], mdU 12 [3, 2], mdU 12 [1, 0]]
theorem noCycle {l : List Md} (hd : ∀ (a : Nat) x, l[a]? = some x → ∀ e ∈ x.elems, 0 ≤ e ∧ e < (a : Int)) {p : Md → Bool} {a b : Nat} (h : TransGen (stepR l p) a b) : b < a := by
  have one : ∀ a b, stepR l p a b → b < a := by
    rintro a b ⟨x, h1, _, h2⟩
    have := hd a x h1 _ h2
    omega
  induction h with
  | single h => exact one _ _ h
  | tail _ h ih => have := one _ _ h; omega
theorem check_of {l : List Md} (hn : l.length ≤ 512) (h1 : ∀ x ∈ l, oneI x l.length = 0) (hv : l.any (voidsB l) = false) (hd : ∀ (a : Nat) x, l[a]? = some x → ∀ e ∈ x.elems, 0 ≤ e ∧ e < (a : Int)) (hr : ∀ x ∈ l, rowStruct x = false) : checkI l = 0 := by
  unfold checkI
  rw [if_neg (by omega), if_neg, if_neg (by rw [hv]; simp), if_neg, if_neg]
  · rintro ⟨x, _, _, e, _, hf⟩
    have : ∀ m, ¬ FlexP l m := by
      intro m h
      cases h with
      | flex h1 h2 => rw [hr _ (List.mem_of_getElem? h1)] at h2; cases h2
      | step h1 _ => obtain ⟨x, h1, h2, _⟩ := h1; rw [hr _ (List.mem_of_getElem? h1)] at h2; cases h2
    exact this _ hf
  · rintro ⟨r, _, h | h⟩
    · have := noCycle hd h; omega
    · have := noCycle hd h; omega
  · intro h
    apply h
    rw [firstI_zero]
    intro y hy
    obtain ⟨x, hx, rfl⟩ := List.mem_map.1 hy
    exact h1 x hx
theorem check5 : checkI tab5 = 0 := by
  refine check_of (by decide) (by decide) (by decide) ?_ (by decide)
  intro a x hx
  match a, hx with
  | 0, hx => simp [tab5, mdU] at hx; subst hx; simp
  | 1, hx => simp [tab5, mdU] at hx; subst hx; simp
  | 2, hx => simp [tab5, mdU] at hx; subst hx; simp
  | 3, hx => simp [tab5, mdU] at hx; subst hx; simp
  | 4, hx => simp [tab5, mdU] at hx; subst hx; simp
  | a + 5, hx => simp [tab5] at hx
theorem check6 : checkI tab6 = 0 := by
  refine check_of (by decide) (by decide) (by decide) ?_ (by decide)
  intro a x hx
  match a, hx with
  | 0, hx => simp [tab6, mdU] at hx; subst hx; simp
  | 1, hx => simp [tab6, mdU] at hx; subst hx; simp
  | 2, hx => simp [tab6, mdU] at hx; subst hx; simp
  | 3, hx => simp [tab6, mdU] at hx; subst hx; simp
  | 4, hx => simp [tab6, mdU] at hx; subst hx; simp
  | 5, hx => simp [tab6, mdU] at hx; subst hx; simp
  | a + 6, hx => simp [tab6] at hx
/-! The order of kinds. -/
theorem R_kindlt {l : List Md} {a b : Nat} (ha : a < l.length) (hb : b < l.length) (h : (mdAt l a).kind < (mdAt l b).kind) : ∀ d, R l (d + 1) a < R l (d + 1) b
  | 0 => by
    rw [R_lt l 0 ha]
    unfold cmpR thenC
    simp only [R]
    have h00 : cmpI 0 0 = 0 := by decide
    rw [if_neg (by simp [h00])]
    simp only [if_true]
    unfold firstC firstL
    rw [firstNZ_cons]
    have : cmpI (mdAt l a).kind (mdAt l b).kind < 0 := cmpI_lt.2 h
    rw [if_pos (by omega)]
    exact this
  | d + 1 => R_refine l (d + 1) ha (R_kindlt ha hb h d)
theorem RR_kindlt {l : List Md} {a b : Nat} (ha : a < l.length) (hb : b < l.length) (h : (mdAt l a).kind < (mdAt l b).kind) : RR l a < RR l b := R_kindlt ha hb h _
/-- Two modes with the same cells and the same parts are equal. -/
theorem R_twin {l : List Md} {a b : Nat} (hf : ∀ y, firstC y (mdAt l a) = firstC y (mdAt l b)) (hk : ∀ r, keyOf l r a = keyOf l r b) : ∀ d, R l d a = R l d b
  | 0 => rfl
  | d + 1 => by
    simp only [R, cntC]
    congr 1
    funext j
    have : cmpR l (R l d) d j a = cmpR l (R l d) d j b := by
      unfold cmpR thenC
      simp only [R_twin hf hk d, hf, hk]
    rw [this]
/-! Steps. -/
theorem step5 {a b : Nat} : stepR tab5 isU a b ↔ (a = 2 ∧ (b = 0 ∨ b = 1)) ∨ (a = 4 ∧ (b = 3 ∨ b = 2)) := by
  unfold stepR
  match a with
  | 0 => simp [tab5, mdU, isU]
  | 1 => simp [tab5, mdU, isU]
  | 2 => simp [tab5, mdU, isU]; omega
  | 3 => simp [tab5, mdU, isU]
  | 4 => simp [tab5, mdU, isU]; omega
  | a + 5 => simp [tab5]
theorem step6 {a b : Nat} : stepR tab6 isU a b ↔ (a = 2 ∧ (b = 0 ∨ b = 1)) ∨ (a = 4 ∧ (b = 3 ∨ b = 2)) ∨ (a = 5 ∧ (b = 1 ∨ b = 0)) := by
  unfold stepR
  match a with
  | 0 => simp [tab6, mdU, isU]
  | 1 => simp [tab6, mdU, isU]
  | 2 => simp [tab6, mdU, isU]; omega
  | 3 => simp [tab6, mdU, isU]
  | 4 => simp [tab6, mdU, isU]; omega
  | 5 => simp [tab6, mdU, isU]; omega
  | a + 6 => simp [tab6]
theorem part5 {j : Nat} : IsPart tab5 4 j ↔ j = 0 ∨ j = 1 ∨ j = 3 := by
  have key : ∀ j, TransGen (stepR tab5 isU) 4 j → j = 0 ∨ j = 1 ∨ j = 2 ∨ j = 3 := by
    intro j h
    induction h with
    | single h => rw [step5] at h; omega
    | tail _ h ih => rw [step5] at h; omega
  have s43 : stepR tab5 isU 4 3 := by rw [step5]; omega
  have s42 : stepR tab5 isU 4 2 := by rw [step5]; omega
  have s20 : stepR tab5 isU 2 0 := by rw [step5]; omega
  have s21 : stepR tab5 isU 2 1 := by rw [step5]; omega
  unfold IsPart
  constructor
  · rintro ⟨h1, h2⟩
    rcases key j h1 with rfl | rfl | rfl | rfl
    · omega
    · omega
    · have := h2 (mdU 12 [0, 1]) rfl; simp [isU, mdU] at this
    · omega
  · rintro (rfl | rfl | rfl)
    · exact ⟨.tail (.single s42) s20, by simp [tab5, isU, mdU]⟩
    · exact ⟨.tail (.single s42) s21, by simp [tab5, isU, mdU]⟩
    · exact ⟨.single s43, by simp [tab5, isU, mdU]⟩
theorem part6 {x j : Nat} (hx : x = 2 ∨ x = 5) : IsPart tab6 x j ↔ j = 0 ∨ j = 1 := by
  have key : ∀ j, TransGen (stepR tab6 isU) x j → j = 0 ∨ j = 1 := by
    intro j h
    induction h with
    | single h => rw [step6] at h; omega
    | tail _ h ih => rw [step6] at h; omega
  have s0 : stepR tab6 isU x 0 := by rw [step6]; omega
  have s1 : stepR tab6 isU x 1 := by rw [step6]; omega
  unfold IsPart
  constructor
  · rintro ⟨h1, h2⟩
    exact key j h1
  · rintro (rfl | rfl)
    · exact ⟨.single s0, by simp [tab6, isU, mdU]⟩
    · exact ⟨.single s1, by simp [tab6, isU, mdU]⟩
theorem twin6 : RR tab6 5 = RR tab6 2 := by
  refine R_twin (fun y => ?_) (fun r => ?_) _
  · simp [mdAt, tab6, mdU, firstC, firstL, lenC]
  · unfold keyOf
    have h1 : isU (mdAt tab6 5) = true := rfl
    have h2 : isU (mdAt tab6 2) = true := rfl
    rw [if_pos h1, if_pos h2]
    congr 1
    apply List.filter_congr
    intro v _
    have : (∃ j, IsPart tab6 5 j ∧ r j = v) ↔ ∃ j, IsPart tab6 2 j ∧ r j = v := by simp only [part6 (.inl rfl), part6 (.inr rfl)]
    rw [decide_eq_decide]
    exact this
theorem bases5 : basesOf tab5 4 = [1, 3, 0] := by
  have h : BasesOk tab5 4 [1, 3, 0] := by
    refine ⟨fun _ => ⟨[0, 1, 3], fun j => by rw [part5]; simp, ?_⟩, fun h => by simp [mdAt, tab5, isU, mdU] at h⟩
    have h13 : RR tab5 1 < RR tab5 3 := RR_kindlt (by decide) (by decide) (by decide)
    have h30 : RR tab5 3 < RR tab5 0 := RR_kindlt (by decide) (by decide) (by decide)
    refine ⟨?_, by simp, ?_⟩
    · simp
      omega
    · simp
  exact h.eq.symm
theorem right5 {u v : Int} (h : (0 ≤ u ∧ u < 5) ∧ 0 ≤ v ∧ v < 5) : rightI tab5 [u, v] = 0 := by
  unfold rightI
  rw [if_neg (by rw [check5]; simp), if_neg]
  simp [outB, tab5]
  omega
theorem has5 : hasV tab5 4 0 = .tuple [.bool true, .int .i64 0] := by
  have h13 : RR tab5 1 < RR tab5 3 := RR_kindlt (by decide) (by decide) (by decide)
  have h30 : RR tab5 3 < RR tab5 0 := RR_kindlt (by decide) (by decide) (by decide)
  have h1 : (RR tab5 1 == RR tab5 0) = false := by simp; omega
  have h3 : (RR tab5 3 == RR tab5 0) = false := by simp; omega
  unfold hasV hasB
  rw [right5 (by omega)]
  simp [bases5, atI, fidx, h1, h3]
  simp [mdAt, tab5, isU, mdU]
theorem idx5 : idxV tab5 4 0 = .tuple [.int .i64 2, .int .i64 0] := by
  have h13 : RR tab5 1 < RR tab5 3 := RR_kindlt (by decide) (by decide) (by decide)
  have h30 : RR tab5 3 < RR tab5 0 := RR_kindlt (by decide) (by decide) (by decide)
  have h1 : (RR tab5 1 == RR tab5 0) = false := by simp; omega
  have h3 : (RR tab5 3 == RR tab5 0) = false := by simp; omega
  unfold idxV
  rw [right5 (by omega)]
  simp [bases5, atI, fidx, h1, h3]
  simp [mdAt, tab5, isU, mdU]
end Go.Proofs.YtheadodblifklaaGreat

/- environlaw11.awake: true.  Conditions: none. -/
namespace Go.Proofs.YtheadodblifklaaGreat
open Go Ax
set_option maxRecDepth 100000
theorem rrNe {l : List Md} {a b : Nat} (ha : a < l.length) (hb : b < l.length) (h : (mdAt l a).kind ≠ (mdAt l b).kind) : (RR l a == RR l b) = false := by
  have : RR l a ≠ RR l b := fun e => h (RR_kind ha hb e)
  simpa using this
open Classical in
theorem left5 : leftI tab5 4 3 = [1, 0] := by
  have h1 := rrNe (l := tab5) (a := 3) (b := 1) (by decide) (by decide) (by decide)
  have h0 := rrNe (l := tab5) (a := 3) (b := 0) (by decide) (by decide) (by decide)
  have hb : ∀ z, hasRR tab5 3 z ↔ RR tab5 3 = RR tab5 z := fun z => by
    unfold hasRR
    have : ∀ j, IsBase tab5 3 j ↔ j = 3 := fun j => by
      unfold IsBase
      have h : isU (mdAt tab5 3) = false := by decide
      rw [h, if_neg (by simp)]
    simp only [this]
    exact ⟨fun ⟨j, h1, h2⟩ => by rw [← h1]; exact h2, fun h => ⟨3, rfl, h⟩⟩
  unfold leftI
  rw [bases5]
  simp at h1 h0
  simp [List.filter_cons, hb, h1, h0]
theorem without5 : withoutI tab5 4 3 = (tab5, 2, 0) := by
  unfold withoutI
  rw [right5 (by omega), if_neg (by simp), if_neg (by decide)]
  have e : leftI tab5 (Int.toNat 4) (Int.toNat 3) = [1, 0] := left5
  rw [e, if_neg (by decide)]
  unfold ofI
  rw [if_neg (by decide)]
  unfold putI
  rw [check5, if_neg (by simp)]
  have hf : findI tab5 (unionOf [1, 0]) = some 2 := by
    unfold findI
    have h6 : tab5 ++ [unionOf [1, 0]] = tab6 := rfl
    have h0 := rrNe (l := tab6) (a := 0) (b := 5) (by decide) (by decide) (by decide)
    have h1 := rrNe (l := tab6) (a := 1) (b := 5) (by decide) (by decide) (by decide)
    have hl : tab5.length = 5 := rfl
    rw [h6, check6, hl, if_neg (by decide), if_neg (by simp)]
    have : fidx (fun i => RR tab6 i == RR tab6 5) 0 (5 + 1) = 2 := by
      rw [twin6] at h0 h1
      simp at h0 h1
      simp [fidx, twin6, h0, h1]
    rw [this]
    rfl
  rw [hf]
  rfl
set_option maxHeartbeats 4000000 in
theorem k10 (m : AMem) : ACalls Tryz.prog 10 [] m fun v m' => v = .bool true ∧ m <+: m' := by
  refine w10 ?_
  simp [fillA, setN]
  have hT : RTab (m ++ [ABlk.own [.int .i64 0, .int .i64 1] 3 none, ABlk.own [.int .i64 3, .int .i64 2] 3 none,
      ABlk.own [.int .i64 3, .int .i64 0, .nilslice, .nilslice, .int .i64 0, .bool false, .int .i64 1, .int .i64 0, .nilslice, .nilslice, .int .i64 0, .bool false, .int .i64 12, .int .i64 0, .slice m.length 0 2 2 none, .nilslice, .int .i64 0, .bool false, .int .i64 2, .int .i64 0, .nilslice, .nilslice, .int .i64 0, .bool false, .int .i64 12, .int .i64 0, .slice (m.length + 1) 0 2 2 none, .nilslice, .int .i64 0, .bool false] 49 none]) (.slice (m.length + 2) 0 5 5 none) tab5 := by
    refine ⟨_, .inr ⟨_, _, _, _, rfl, ⟨by decide, .inl rfl⟩, .inr ⟨by decide, _, by simp [readB, ABlk.cells, List.getElem?_append_right]; rfl, rfl⟩⟩, fun i x hx => ?_⟩
    have i1 : RInts (m ++ [ABlk.own [.int .i64 0, .int .i64 1] 3 none, ABlk.own [.int .i64 3, .int .i64 2] 3 none, ABlk.own [.int .i64 3, .int .i64 0, .nilslice, .nilslice, .int .i64 0, .bool false, .int .i64 1, .int .i64 0, .nilslice, .nilslice, .int .i64 0, .bool false, .int .i64 12, .int .i64 0, .slice m.length 0 2 2 none, .nilslice, .int .i64 0, .bool false, .int .i64 2, .int .i64 0, .nilslice, .nilslice, .int .i64 0, .bool false, .int .i64 12, .int .i64 0, .slice (m.length + 1) 0 2 2 none, .nilslice, .int .i64 0, .bool false] 49 none]) (.slice m.length 0 2 2 none) [0, 1] :=
      .inr ⟨_, _, _, _, rfl, ⟨by decide, .inl rfl⟩, .inr ⟨by decide, _, by simp [readB, ABlk.cells]; rfl, rfl⟩⟩
    have i2 : RInts (m ++ [ABlk.own [.int .i64 0, .int .i64 1] 3 none, ABlk.own [.int .i64 3, .int .i64 2] 3 none, ABlk.own [.int .i64 3, .int .i64 0, .nilslice, .nilslice, .int .i64 0, .bool false, .int .i64 1, .int .i64 0, .nilslice, .nilslice, .int .i64 0, .bool false, .int .i64 12, .int .i64 0, .slice m.length 0 2 2 none, .nilslice, .int .i64 0, .bool false, .int .i64 2, .int .i64 0, .nilslice, .nilslice, .int .i64 0, .bool false, .int .i64 12, .int .i64 0, .slice (m.length + 1) 0 2 2 none, .nilslice, .int .i64 0, .bool false] 49 none]) (.slice (m.length + 1) 0 2 2 none) [3, 2] :=
      .inr ⟨_, _, _, _, rfl, ⟨by decide, .inl rfl⟩, .inr ⟨by decide, _, by simp [readB, ABlk.cells, List.getElem?_append_right]; rfl, rfl⟩⟩
    match i, hx with
    | 0, hx => simp [tab5, mdU] at hx; subst hx; exact ⟨_, _, rfl, Sl.nil, Sl.nil⟩
    | 1, hx => simp [tab5, mdU] at hx; subst hx; exact ⟨_, _, rfl, Sl.nil, Sl.nil⟩
    | 2, hx => simp [tab5, mdU] at hx; subst hx; exact ⟨_, _, rfl, i1, Sl.nil⟩
    | 3, hx => simp [tab5, mdU] at hx; subst hx; exact ⟨_, _, rfl, Sl.nil, Sl.nil⟩
    | 4, hx => simp [tab5, mdU] at hx; subst hx; exact ⟨_, _, rfl, i2, Sl.nil⟩
    | i + 5, hx => simp [tab5] at hx
  have hm1 := List.prefix_append m [ABlk.own [.int .i64 0, .int .i64 1] 3 none, ABlk.own [.int .i64 3, .int .i64 2] 3 none,
      ABlk.own [.int .i64 3, .int .i64 0, .nilslice, .nilslice, .int .i64 0, .bool false, .int .i64 1, .int .i64 0, .nilslice, .nilslice, .int .i64 0, .bool false, .int .i64 12, .int .i64 0, .slice m.length 0 2 2 none, .nilslice, .int .i64 0, .bool false, .int .i64 2, .int .i64 0, .nilslice, .nilslice, .int .i64 0, .bool false, .int .i64 12, .int .i64 0, .slice (m.length + 1) 0 2 2 none, .nilslice, .int .i64 0, .bool false] 49 none]
  generalize m ++ [ABlk.own [.int .i64 0, .int .i64 1] 3 none, ABlk.own [.int .i64 3, .int .i64 2] 3 none,
      ABlk.own [.int .i64 3, .int .i64 0, .nilslice, .nilslice, .int .i64 0, .bool false, .int .i64 1, .int .i64 0, .nilslice, .nilslice, .int .i64 0, .bool false, .int .i64 12, .int .i64 0, .slice m.length 0 2 2 none, .nilslice, .int .i64 0, .bool false, .int .i64 2, .int .i64 0, .nilslice, .nilslice, .int .i64 0, .bool false, .int .i64 12, .int .i64 0, .slice (m.length + 1) 0 2 2 none, .nilslice, .int .i64 0, .bool false] 49 none] = m1 at *
  generalize AVal.slice (m.length + 2) 0 5 5 none = s at *
  have hsz : ∀ x ∈ tab5, smallN x := by
    intro x hx
    simp [tab5, mdU] at hx
    rcases hx with rfl | rfl | rfl | rfl | rfl <;> simp [smallN]
  have h40 : ∀ x ∈ tab5, x.elems.length < 2 ^ 40 ∧ x.names.length < 2 ^ 40 := by
    intro x hx
    simp [tab5, mdU] at hx
    rcases hx with rfl | rfl | rfl | rfl | rfl <;> simp
  have hc1 := k12 s tab5 4 0 m1 hT hsz (fun x hx => (h40 x hx).2) (by decide)
  refine C_of hc1 ?_
  rintro _ m2 ⟨rfl, hm2⟩
  rw [has5]
  simp
  have hc2 := k14 s tab5 4 0 m2 (hT.mono hm2) hsz (fun x hx => (h40 x hx).2) (by decide)
  refine C_of hc2 ?_
  rintro _ m3 ⟨rfl, hm3⟩
  rw [idx5]
  simp
  have hc3 := k24 s tab5 4 3 m3 (hT.mono (hm2.trans hm3)) hsz h40 (by decide)
  refine C_of hc3 ?_
  rintro _ m4 ⟨hm4, t, rfl, _⟩
  rw [without5]
  simp
  exact ⟨by decide, ((hm1.trans hm2).trans hm3).trans hm4⟩
end Go.Proofs.YtheadodblifklaaGreat

/- What the guards of the laws and the reach give of a table.  Conditions: none. -/
namespace Go.Proofs.YtheadodblifklaaGreat
open Go Ax
set_option maxRecDepth 100000
/-- What the law's guard and the reach give. -/
structure Fits (l : List Md) : Prop where
  n : l.length ≤ 12
  sm : ∀ x ∈ l, smallN x
  h40 : ∀ x ∈ l, x.elems.length < 2 ^ 40 ∧ x.names.length < 2 ^ 40
theorem fits_of {l : List Md} (hb : ∀ md ∈ l, MdB reachBytes md) (h : (decide ((l.length : Int) ≤ 12) && l.all fun x => decide (x.elems.length ≤ 6) && decide (x.names.length ≤ 6)) = true) : Fits l := by
  rw [Bool.and_eq_true, decide_eq_true_iff, List.all_eq_true] at h
  obtain ⟨h1, h2⟩ := h
  refine ⟨by omega, fun x hx => ?_, fun x hx => ?_⟩
  · have := h2 x hx
    rw [Bool.and_eq_true, decide_eq_true_iff, decide_eq_true_iff] at this
    refine ⟨by omega, by omega, fun s hs => ?_⟩
    have h3 := (hb x hx).each s hs
    have h4 : reachBytes < 2 ^ 62 := by decide
    omega
  · have := h2 x hx
    rw [Bool.and_eq_true, decide_eq_true_iff, decide_eq_true_iff] at this
    omega
end Go.Proofs.YtheadodblifklaaGreat

/- From a contract over abstract memory to a row's closing form: laws of a table and two numbers.  Conditions: stated. -/
namespace Go.Proofs.YtheadodblifklaaGreat
open Go Ax Go.ChangeShapes Go.WideShapes Go.ChangeAt Go.RowKit
set_option maxRecDepth 100000
theorem under22 : Tryz.prog.underlying 22 = some (.slice 49) := by kernel_rfl
theorem under3 : Tryz.prog.underlying 3 = some (.int .i64) := by kernel_rfl
theorem under4 : Tryz.prog.underlying 4 = some .bool := by kernel_rfl
theorem under33 : Tryz.prog.underlying 33 = some (.slice 3) := by kernel_rfl
theorem under47 : Tryz.prog.underlying 47 = some (.slice 9) := by kernel_rfl
theorem under9 : Tryz.prog.underlying 9 = some .string := by kernel_rfl
theorem laidOut : laidOutB Tryz.prog = true := by kernel_rfl
theorem own0 : ownKnob Tryz.prog.godebug = none := by kernel_rfl
noncomputable def fs49 : Array Field := match Tryz.prog.underlying 49 with | some (.struct fs) => fs | _ => #[]
noncomputable def modeT : ModeT Tryz.prog :=
  { tT := 22, tM := 49, tI := 33, eI := 3, tS := 47, eS := 9, k0 := 3, k1 := 3, k4 := 3, k5 := 4, fs := fs49,
    hT := under22, hM := by kernel_rfl, hI := under33, hi := under3, hS := under47, hs := under9, h0 := under3, h1 := under3, h4 := under3, h5 := under4,
    cM := by kernel_rfl, ci := by kernel_rfl, cs := by kernel_rfl, c0 := by kernel_rfl, c1 := by kernel_rfl, cI := by kernel_rfl, cS := by kernel_rfl, c4 := by kernel_rfl, c5 := by kernel_rfl,
    bi := by kernel_rfl, bs := by kernel_rfl, bM := of_decide_eq_true (by kernel_rfl), sz := by kernel_rfl, f0 := by kernel_rfl, f1 := by kernel_rfl, f2 := by kernel_rfl, f3 := by kernel_rfl, f4 := by kernel_rfl, f5 := by kernel_rfl }

/-- What is asked of a law of a table and two numbers. -/
def LawTII (f : FuncId) : Prop := ∀ (m : AMem) (s : AVal) (l : List Md) (u v : Int), RTab m s l → l.length ≤ reachBytes → (∀ md ∈ l, MdB reachBytes md) → ACalls Tryz.prog f [s, .int .i64 u, .int .i64 v] m fun r _ => r = .bool true

theorem lifted3 {os : Os} (started : os.Started) {H : Type} {enc : TypeId × Value → H} {f : FuncId} {fn : Func} {s : ChangeSpec} {conds : List PathCond}
    (noInit : Tryz.checked.prog.inits.idxOf? f = none) (hfn : Tryz.checked.prog.funcs[f]? = some fn) (hp : fn.params = #[22, 3, 3]) (hr : fn.resultTypes = #[4]) (hs : s.vars = [])
    (hsf : ∀ d1 d2 d3 : DataW H, s.fn H [d1, d2, d3] = { results := [.lit (.bool true)], args := [d1, d2, d3] })
    (witness : ∃ (w : World) (tape : Tape) (i : Input), w.os = os ∧ (w.forCall tape i).Shaped Tryz.checked.prog ∧ i.vars = [] ∧ Input.okWide Tryz.checked.prog (w.forCall tape i) .any w.heap.size f i ∧
      s.pre6 enc Tryz.checked.prog fn conds false (w.forCall tape i).memory i.args ∧ ({} : Assume).holds Tryz.checked.prog (lone (Frame.enter Tryz.checked.prog f i.args .normal) [] (w.forCall tape i)))
    (law : LawTII f) :
    ReturnsInHanded {} Tryz.checked os f .any (s.pre6 enc Tryz.checked.prog fn conds false) (s.post enc Tryz.checked.prog fn false true false false) := by
  refine returnsInHanded_of_change_sized (C := Tryz.checked) own0 started noInit hfn witness ?_
  intro W base args ds gs before hval0 hW _ hsz0 _
  have hW' := hW
  rw [hp] at hval0 hsz0
  obtain ⟨p, q, hA, hV, rfl, _, _⟩ := hW
  rw [hp] at hA
  rw [hs] at hV
  obtain ⟨v0, v1, v2, d0, d1, d2, p0, p1, p2, rfl, rfl, rfl, h0, h1, h2⟩ := trodAll_three hA
  obtain ⟨rfl, rfl⟩ := trodVars_none hV
  obtain ⟨a1, rfl, rfl, rfl, w1⟩ := open_int under3 (hval0 1 3 v1 rfl rfl) h1
  obtain ⟨a2, rfl, rfl, rfl, w2⟩ := open_int under3 (hval0 2 3 v2 rfl rfl) h2
  have hv0 := hval0 0 22 v0 rfl rfl
  have h0k := h0
  obtain ⟨fuel, hf⟩ := h0
  obtain ⟨a0, len, cap, rfl⟩ := okWide_slice under22 hv0
  obtain ⟨l, hent, hbd⟩ := enters_tab (enc := enc) modeT (fuel := fuel) (x := (d0, p0)) (fun a len' cap' e => by
    simp [Value.cells] at e
    obtain ⟨rfl, rfl, rfl⟩ := e
    exact heap_pos under22 hv0) hf
  obtain ⟨b1, b2⟩ := hbd reachBytes (by
    rw [List.all_eq_true] at hsz0 ⊢
    intro n hn
    exact hsz0 n (DataW.weights_mem_each (j := 0) (t := 22) (d := d0) (by simp) (by simp) n hn))
  obtain ⟨ρ', m', xs, _, _, hro, hsim, hvr, sv, rfl, hT⟩ := hent [] [] (Sim.nil W) RoMem.nil
  simp only [VRs] at hvr
  obtain ⟨_, _, e, hvr, rfl⟩ := hvr
  simp [Value.cells] at e
  subst e
  have hlt : ∀ x ∈ p0, x.block < W.heap.size := fun x hx => hW'.lt x (by simp [hx])
  refine ((law m' sv l a1 a2 hT b1 b2).2 ρ' W #[.slice a0 len cap, .int .i64 a1, .int .i64 a2] hsim (by simp only [VRs, VR]; exact ⟨_, _, rfl, hvr, _, _, rfl, rfl, _, _, rfl, rfl, rfl⟩)).mono fun e W' h => ?_
  obtain ⟨v', v, m'', ρ'', rfl, rfl, hv, _, hev⟩ := h
  simp only [VR] at hv
  subst hv
  have hb := below_of_evol hro hev
  refine ⟨_, rfl, [d0, _, _], [], _, [], p0 ++ ([] ++ ([] ++ [])), [], hW', ?_, ?_, ?_, hb.frame _, fun h => by cases h⟩
  · rw [hr]
    show DataW.TrodAll enc _ W' _ _ _ [4] _ (s.fn H [d0, _, _]).results []
    rw [hsf]
    exact trodAll_mk1 (shut_bool under4 true)
  · rw [hp]
    show DataW.TrodAll enc _ W' _ _ _ [22, 3, 3] _ (s.fn H [d0, _, _]).args _
    rw [hsf]
    exact trodAll_cons_mk (Below.trod laidOut (by kernel_rfl) (of_decide_eq_true (by kernel_rfl)) h0k hb hlt) (trodAll_cons_mk (shut_int under3 w1) (trodAll_cons_mk (shut_int under3 w2) trodAll_mk0))
  · show DataW.TrodVars enc _ W' _ s.vars (s.fn H [d0, _, _]).vars _
    rw [hsf, hs]
    rfl
end Go.Proofs.YtheadodblifklaaGreat

