/- environlaw11.UnionsCommon returns true for every table of modes and any two numbers, and leaves its arguments as they were.  Conditions: none beyond those stated. -/
import Derived.Test.YtheadodblifklaaGreatS6
/- unions.Common, environref11.Common.  Conditions: none. -/
namespace Go.Proofs.YtheadodblifklaaGreat
open Go Ax
set_option maxRecDepth 100000
open Classical in
/-- The parts of a mode that another mode has, too. -/
noncomputable def bothI (l : List Md) (u v : Nat) : List Nat := (basesOf l u).filter fun z => decide (hasRR l v z)
noncomputable def commonI (l : List Md) (u v : Int) : List Int := if rightI l [u, v] ≠ 0 then [] else (bothI l u.toNat v.toNat).map fun z : Nat => (z : Int)
theorem once_eq' {l : List Md} (hg : goodT l) {r : Nat → Nat} (h : SameOrd l.length r (RR l)) {x : Nat} (hx : x < l.length) {O zs : List Nat} (hO : ∀ j, j ∈ O ↔ IsBase l x j) (hs : SortedBy r O zs) : zs = basesOf l x := by
  cases hu : isU (mdAt l x)
  · refine BasesOk.eq ⟨fun h' => (by rw [hu] at h'; cases h'), fun _ => ?_⟩
    have hOx : ∀ j, j ∈ O ↔ j = x := fun j => by
      rw [hO]; unfold IsBase
      rw [hu, if_neg (by simp)]
    have hz : ∀ z ∈ zs, z = x := fun z hz => (hOx z).1 (hs.sub z hz)
    obtain ⟨z, h1, _⟩ := hs.cov x ((hOx x).2 rfl)
    match zs, hz, h1, hs.asc with
    | [y], hz, _, _ => rw [hz y (by simp)]
    | y :: w :: r', hz, _, h3 =>
      have e1 := hz y (by simp)
      have e2 := hz w (by simp)
      subst e1
      rw [List.pairwise_cons] at h3
      have := h3.1 w (by simp)
      rw [e2] at this
      omega
  · exact once_eq hg h hx hu hO hs
theorem k54 (s ro t : AVal) (l : List Md) (rk zs : List Nat) (x b1 b2 : Nat) (m : AMem) (hs : RTab m s l) (hro : RInts m ro (rk.map fun z : Nat => (z : Int))) (ht : RInts m t (zs.map fun z : Nat => (z : Int))) (hz : ∀ z ∈ zs, z < rk.length) (hx : x < rk.length) (hn : zs.length < 2 ^ 62) (hb1 : readB m b1 = some [s, ro]) (hb2 : readB m b2 = some [t]) :
    ACalls Tryz.prog 54 [.int .i64 x, .ptr b1 0, .ptr b2 0] m fun v m' => v = .bool (!(zs.any fun z => rk.getD z 0 == rk.getD x 0)) ∧ m <+: m' := by
  refine w54 ?_
  simp [bxW hb1, readN, bx hb2]
  refine C_of (k46 s ro t rk zs x m hs.self hro ht hz hx hn) ?_
  rintro _ m2 ⟨rfl, hm2⟩
  simp [hm2]
set_option maxHeartbeats 4000000 in
open Classical in
theorem k21 (s : AVal) (l : List Md) (u v : Int) (m : AMem) (hs : RTab m s l) (hsz : ∀ x ∈ l, smallN x) (hnm : ∀ x ∈ l, x.names.length < 2 ^ 40) (hn : l.length ≤ 12) :
    ACalls Tryz.prog 21 [s, .int .i64 u, .int .i64 v] m fun w m' => m <+: m' ∧ ∃ t, w = .tuple [t, .int .i64 (rightI l [u, v])] ∧ RInts m' t (commonI l u v) := by
  refine w21 ?_
  obtain ⟨hsl, hsc⟩ := hs.self
  simp [fillA, setN]
  have hA := two_ints m u v
  have hm1 : m <+: m ++ [.own [.int .i64 u, .int .i64 v] 3 none] := List.prefix_append _ _
  generalize AVal.slice m.length 0 2 2 none = t1 at *
  generalize m ++ [.own [.int .i64 u, .int .i64 v] 3 none] = m1 at *
  refine C_of (k35 s t1 l [u, v] m1 (hs.mono hm1) hA.ints hsz hnm (by omega) (by simp)) ?_
  rintro _ m2 ⟨hm2, ⟨hr, rfl⟩ | ⟨hr, ro, ds, k, rfl, hX, hD⟩⟩
  · simp
    rw [tabBox _ _ _ rfl rfl]
    have hm3 : m2 <+: m2 ++ [.own [.nilslice, .nilslice] 53 none] := List.prefix_append _ _
    generalize m2 ++ [.own [.nilslice, .nilslice] 53 none] = m3 at *
    have hW : commonI l u v = [] := by unfold commonI; rw [if_pos hr]
    simp [bneT hr, hW]
    exact ⟨(hm1.trans hm2).trans hm3, Sl.nil⟩
  obtain ⟨hc, a, b, rfl, rfl, ha, hb⟩ := right2 hr
  have ok := okT_of hc
  have hrs := (Ow.sl hX).self
  have hso := dense_same hD
  have hW : commonI l a b = (bothI l a b).map fun z : Nat => (z : Int) := by
    unfold commonI
    rw [if_neg (by simp [hr])]
    simp only [Int.toNat_natCast]
  rw [hr, hW]
  simp
  rw [tabBox _ _ _ hsl hrs.1]
  have hb8 := readB_new m2 [s, ro] 53 none
  have hm3 : m2 <+: m2 ++ [.own [s, ro] 53 none] := List.prefix_append _ _
  generalize m2 ++ [.own [s, ro] 53 none] = m4 at *
  generalize m2.length = b8 at *
  have hm04 := (hm1.trans hm2).trans hm3
  have hRo := (ints_of_nat hX).mono hm3
  simp [bxW hb8, readN]
  refine C_of (k44n s ro l b hb m4 (hs.mono hm04) hrs ok.good ok.len ok.h64) ?_
  rintro v5 m5 ⟨hm5, P, hP, hPn, hPm⟩
  have hps := (Ow.sl hP).self
  have hPb : IsBases l b P := ⟨hPn, hPm⟩
  have hPl := hPb.length ok.good hb
  have hPlt := hPb.lt ok.good hb
  have hany : ∀ w, w < l.length → (P.any fun z => ds.getD z 0 == ds.getD w 0) = decide (hasRR l b w) := fun w hw => any_hasRR ok.good hso hb hw hPm
  simp
  rw [store_new1 _ _ _ _ _ hps.2 hps.1]
  have hb10 := readB_new m5 [v5] 33 none
  have hm6 : m5 <+: m5 ++ [.own [v5] 33 none] := List.prefix_append _ _
  generalize m5 ++ [.own [v5] 33 none] = m6 at *
  generalize m5.length = b10 at *
  have hb86 := readB_mono (hm5.trans hm6) hb8
  have hm06 := (hm04.trans hm5).trans hm6
  have hm46 := hm5.trans hm6
  have hP6 := (ints_of_nat hP).mono hm6
  simp
  refine W_draw (fun _ _ _ => True) (by simp [maxDst]) ?_
  refine D_pre 0 3 [5, 3, 4, 6, 7, 8] (by simp only [List.drop_zero, List.drop_succ_cons, List.take_succ_cons, List.take_zero]; rfl) rfl rfl (fun _ _ => trivial) ?_
  simp [bxW hb86, readN]
  intro _ _
  refine D_P rfl trivial ?_
  simp
  refine D_X rfl rfl fun m7 hm7 _ => ?_
  simp
  have hm07 := hm06.trans hm7
  refine C_of (k44n s ro l a ha m7 (hs.mono hm07) hrs ok.good ok.len ok.h64) ?_
  rintro v8 m8 ⟨hm8, O, hO, hOn, hOm⟩
  have hb88 := readB_mono (hm7.trans hm8) hb86
  refine ⟨by simp [lateOf, ROp.ev, hb88, readN], ?_⟩
  refine D_X rfl rfl fun m9 hm9 _ => ?_
  simp
  have hm69 := (hm7.trans hm8).trans hm9
  have hm09 := hm06.trans hm69
  have hR9 := hRo.mono (hm46.trans hm69)
  have hOb : IsBases l a O := ⟨hOn, hOm⟩
  refine C_of (k43 s ro v8 l ds O m9 (hs.mono hm09) hR9 ((ints_of_nat hO).mono hm9) hOn (by have := hOb.length ok.good ha; omega) (fun z hz => by rw [hD.len]; exact hOb.lt ok.good ha z hz)) ?_
  rintro v10 m10 ⟨hm10, zs, hZ, hsb⟩
  refine ⟨by simp [lateOf], ?_⟩
  have hzs := once_eq' ok.good hso ha hOm hsb
  have hzl : ∀ z ∈ zs, z < l.length := fun z hz => hOb.lt ok.good ha z (hsb.sub z hz)
  have hzn : zs.length ≤ l.length := nodup_le l.length zs (hsb.asc.imp fun hab => by intro e; subst e; omega) hzl
  refine D_X rfl rfl fun m11 hm11 _ => ?_
  simp
  refine C_of (k53 v10 3 m9.length m9 (Nat.le_refl _) 54 [] [.ptr b8 0, .ptr b10 0] (fun z => !(P.any fun y => ds.getD y 0 == ds.getD z.toNat 0)) (zs.map fun z : Nat => (z : Int)) ?_ (by simp; omega) m11 (hm10.trans hm11) (natsI.2 (hZ.mono hm11))) ?_
  · intro z hz m' hm'
    obtain ⟨z, hz', rfl⟩ := List.mem_map.1 hz
    have hmt := hm69.trans hm'
    exact k54 s ro v5 l ds P z b8 b10 m' (hs.mono (hm06.trans hmt)) (hRo.mono (hm46.trans hmt)) (hP6.mono hmt) (fun y hy => by rw [hD.len]; exact hPlt y hy) (by rw [hD.len]; exact hzl z hz') (by omega) (readB_mono hmt hb86) (readB_mono hmt hb10)
  rintro v12 m12 ⟨hm12, _, hF, _⟩
  refine ⟨by simp [lateOf], ?_⟩
  have hfl : ((zs.map fun z : Nat => (z : Int)).filter fun a => !!(P.any fun y => ds.getD y 0 == ds.getD a.toNat 0)) = (bothI l a b).map fun z : Nat => (z : Int) := by
    rw [List.filter_map]
    unfold bothI
    rw [← hzs]
    congr 1
    refine List.filter_congr fun z hz => ?_
    simp only [Function.comp, Int.toNat_natCast, Bool.not_not]
    rw [hany z (hzl z hz)]
  rw [hfl] at hF
  refine D_pre 7 2 [] (by simp only [List.drop_zero, List.drop_succ_cons, List.take_succ_cons, List.take_zero]; rfl) rfl rfl (fun _ _ => trivial) ?_
  simp
  intro _ _
  refine D_end fun m13 hm13 _ => ?_
  simp
  exact ⟨hm09.trans (hm12.trans hm13), (hF.mono hm13).ints⟩
end Go.Proofs.YtheadodblifklaaGreat

/- environref11.Common, slices.Equal; UnionsCommon.  Conditions: none. -/
namespace Go.Proofs.YtheadodblifklaaGreat
open Go Ax
set_option maxRecDepth 100000
theorem both_at {l : List Md} (hg : goodT l) {b z : Nat} (hb : b < l.length) : decide (0 ≤ atI (RR l) (basesOf l b) z) = true ↔ hasRR l b z := by
  rw [decide_eq_true_iff]
  exact atI_basesOf hg hb
set_option maxHeartbeats 4000000 in
open Classical in
theorem k22 (s : AVal) (l : List Md) (u v : Int) (m : AMem) (hs : RTab m s l) (hsz : ∀ x ∈ l, smallN x) (hl : l.length < 2 ^ 62) :
    ACalls Tryz.prog 22 [s, .int .i64 u, .int .i64 v] m fun w m' => m <+: m' ∧ ∃ t, w = .tuple [t, .int .i64 (rightI l [u, v])] ∧ RInts m' t (commonI l u v) := by
  refine w22 ?_
  simp [fillA, setN]
  have hA := two_ints m u v
  have hm1 : m <+: m ++ [.own [.int .i64 u, .int .i64 v] 3 none] := List.prefix_append _ _
  generalize AVal.slice m.length 0 2 2 none = t1 at *
  generalize m ++ [.own [.int .i64 u, .int .i64 v] 3 none] = m1 at *
  refine C_of (k37 s t1 l [u, v] m1 (hs.mono hm1) hA.ints hsz hl (by simp)) ?_
  rintro _ m2 ⟨rfl, hm2⟩
  replace hm2 := hm1.trans hm2
  clear hm1 hA
  simp
  refine bbind_intro (fun h => ?_) fun h => ?_
  · have h : rightI l [u, v] ≠ 0 := by simpa using h
    have hW : commonI l u v = [] := by unfold commonI; rw [if_pos h]
    simp [hW]
    exact ⟨hm2, Sl.nil⟩
  have h : rightI l [u, v] = 0 := by simpa using h
  obtain ⟨hc, a, b, rfl, rfl, ha, hb⟩ := right2 h
  have ok := okT_of hc
  have hW : commonI l a b = (bothI l a b).map fun z : Nat => (z : Int) := by
    unfold commonI
    rw [if_neg (by simp [h])]
    simp only [Int.toNat_natCast]
  rw [h, hW]
  simp
  refine C_of (k39 s l m2 (hs.mono hm2) ok.good ok.len hsz ok.h64 ok.names) ?_
  rintro v4 m4 ⟨hm4, hR⟩
  simp
  have hm04 := hm2.trans hm4
  refine C_of (k40 s l a m4 (hs.mono hm04) hsz hc ha) ?_
  rintro v6 m6 ⟨hm6, xs, hxs, hbx⟩
  simp
  refine C_of (k40 s l b m6 (hs.mono (hm04.trans hm6)) hsz hc hb) ?_
  rintro v7 m7 ⟨hm7, ys, hys, hby⟩
  have hxl := hbx.length ok.good ha
  have hxb := hbx.lt ok.good ha
  have hyb := hby.lt ok.good hb
  have hyl := hby.length ok.good hb
  obtain rfl := hbx.eq
  obtain rfl := hby.eq
  have hB : bothI l a b = (basesOf l a).filter fun z => decide (0 ≤ atI (RR l) (basesOf l b) z) := by
    unfold bothI
    refine List.filter_congr fun z _ => ?_
    rw [Bool.eq_iff_iff, decide_eq_true_iff, both_at ok.good hb]
  rw [hB]
  have hlen := ok.len
  generalize basesOf l a = xs at *
  generalize basesOf l b = ys at *
  have hrk := (ints_of_nat hR).mono (hm6.trans hm7)
  replace hxs := (ints_of_nat hxs).mono hm7
  replace hys := ints_of_nat hys
  have hm07 := (hm04.trans hm6).trans hm7
  have hat : ∀ x, x < l.length → atI (fun a => (Rl l (l.length + 1)).getD a 0) ys x = atI (RR l) ys x := fun x hx => atI_Rl hyb hx
  simp
  obtain ⟨I, hI⟩ : ∃ I : Nat → AFrame → AMem → Prop, ∀ q a m', I q a m' ↔ (∃ (k : Nat) (o : AVal), k + q = xs.length ∧ a = h22_0 v4 v6 v7 o (.int .i64 k) ∧ m7 <+: m' ∧ OwL natI m7.length m' 3 o ((xs.take k).filter fun z => decide (0 ≤ atI (RR l) ys z))) := ⟨_, fun _ _ _ => Iff.rfl⟩
  refine W_loop I xs.length ((hI _ _ _).2 ⟨0, .nilslice, by simp, rfl, List.prefix_refl _, OwL.nil⟩) ?_
  rintro q a' m8 hIn
  obtain ⟨k, o, hk, rfl, hm8, hO⟩ := (hI _ _ _).1 hIn
  clear hIn
  have hxn := (hxs.mono hm8).len
  simp at hxn
  simp [hxn]
  refine bbind_dec (fun hkl => ?_) fun hkl => ?_
  · have hw := step64 hkl (by omega)
    obtain ⟨q, rfl⟩ : ∃ q', q = q' + 1 := ⟨q - 1, by omega⟩
    obtain ⟨b1, o1, g1, g2⟩ := (hxs.mono hm8).at (i := k) (by simpa using hkl)
    simp at g2
    have hxk := hxb _ (List.getElem_mem hkl)
    simp [g1, g2]
    refine C_of (k38 v4 v7 (Rl l (l.length + 1)) ys xs[k] m8 (hrk.mono hm8) (hys.mono hm8) (fun z hz => by rw [Rl_length]; exact hyb z hz) (by rw [Rl_length]; exact hxk) (by omega)) ?_
    rintro _ m9 ⟨rfl, hm9⟩
    rw [hat _ hxk]
    have hft : (xs.take (k + 1)).filter (fun z => decide (0 ≤ atI (RR l) ys z)) = (xs.take k).filter (fun z => decide (0 ≤ atI (RR l) ys z)) ++ (if 0 ≤ atI (RR l) ys xs[k] then [xs[k]] else []) := by
      rw [List.take_add_one, List.filter_append, List.getElem?_eq_getElem hkl]
      by_cases hi : 0 ≤ atI (RR l) ys xs[k] <;> simp [hi]
    have hcount : ((xs.take k).filter fun z => decide (0 ≤ atI (RR l) ys z)).length ≤ k := Nat.le_trans (List.length_filter_le _ _) (by simp; omega)
    simp
    by_cases hi : 0 ≤ atI (RR l) ys xs[k]
    · rw [if_pos hi] at hft
      have hm9A : m9 <+: m9 ++ [.own [.int .i64 (xs[k] : Nat)] 3 none] := List.prefix_append _ _
      have g2' := loadE_mono hm9 g2
      have hlo : m7.length ≤ (m9 ++ [ABlk.own [.int .i64 ((xs[k] : Nat) : Int)] 3 none]).length := by have := (hm8.trans hm9).length_le; simp; omega
      obtain ⟨o', m10, happ, hch10, hO10, hbl⟩ := ((hO.mono hm9).mono hm9A).push hlo (by_ := 8) (by decide) xs[k] (by omega)
      simp only [natI] at happ
      simp [hi, g1, g2', fillA, setN, happ, hw]
      refine ⟨q, by omega, (hI _ _ _).2 ⟨k + 1, o', by omega, by simp, hch10.pre ((hm8.trans hm9).trans hm9A) fun b hb e => by have := (hO.blk_lo e).1; omega, ?_⟩⟩
      rw [hft]
      exact hO10
    · rw [if_neg hi, List.append_nil] at hft
      simp [hi, hw]
      exact ⟨q, by omega, (hI _ _ _).2 ⟨k + 1, o, by omega, by simp, hm8.trans hm9, by rw [hft]; exact hO.mono hm9⟩⟩
  · have hkl : k = xs.length := by omega
    subst hkl
    rw [List.take_length] at hO
    simp
    exact ⟨hm07.trans hm8, ints_of_nat hO⟩
theorem k23 (s t : AVal) (xs : List Int) (m : AMem) (hs : RInts m s xs) (ht : RInts m t xs) (hn : xs.length < 2 ^ 62) : ACalls Tryz.prog 23 [s, t] m fun v m' => v = .bool true ∧ m <+: m' := by
  refine w23 ?_
  simp [hs.len, ht.len]
  refine W_loop (fun q a m' => ∃ k : Nat, k + q = xs.length ∧ a = h23_0 s t (.int .i64 xs.length) (.int .i64 k) ∧ m <+: m') xs.length ⟨0, by simp⟩ ?_
  rintro q a m1 ⟨k, hk, rfl, hm1⟩
  simp
  refine bbind_dec (fun hkl => ?_) fun hkl => ?_
  · have hkl : k < xs.length := by omega
    have hw := step64 hkl hn
    obtain ⟨q, rfl⟩ : ∃ q', q = q' + 1 := ⟨q - 1, by omega⟩
    obtain ⟨b1, o1, g1, g2⟩ := (hs.mono hm1).at hkl
    obtain ⟨b2, o2, g3, g4⟩ := (ht.mono hm1).at hkl
    simp
    refine W_drawPR (by simp [maxDst]) rfl rfl ?_
    simp [g1, g2, g3, g4, hw]
    intro m2 hm2
    exact ⟨q, by omega, k + 1, by omega, by simp, hm1.trans hm2⟩
  · simp
    exact hm1
theorem common_len {l : List Md} (hn : l.length ≤ 12) (u v : Int) : (commonI l u v).length < 2 ^ 62 := by
  unfold commonI
  split
  · simp
  · rename_i h
    obtain ⟨hc, a, b, rfl, rfl, ha, hb⟩ := right2 (by simpa using h)
    have ok := okT_of hc
    have := (basesEx ok.good ha).length ok.good ha
    simp only [List.length_map, bothI, Int.toNat_natCast]
    have h2 := List.length_filter_le (fun z => @decide (hasRR l b z) (Classical.propDecidable _)) (basesOf l a)
    omega
end Go.Proofs.YtheadodblifklaaGreat

/- UnionsCommon: for every table and any two modes the law returns true.  Conditions: none. -/
namespace Go.Proofs.YtheadodblifklaaGreat
open Go Ax Go.ChangeShapes Go.WideShapes Go.ChangeAt Go.RowKit
set_option maxRecDepth 100000
theorem k5 : LawTII 5 := by
  intro m s l u v hs _ hb
  refine w5 ?_
  simp
  refine C_of (k10 m) ?_
  rintro _ m1 ⟨rfl, hm1⟩
  simp
  refine C_of (k11 s l 12 m1 (hs.mono hm1) (by omega)) ?_
  rintro _ m2 ⟨rfl, hm2⟩
  have hm02 := hm1.trans hm2
  cases hsm : (decide ((l.length : Int) ≤ 12) && l.all fun x => decide (x.elems.length ≤ 6) && decide (x.names.length ≤ 6))
  · simp
  · have hf := fits_of hb hsm
    have hnm : ∀ x ∈ l, x.names.length < 2 ^ 40 := fun x hx => (hf.h40 x hx).2
    have hn := hf.n
    simp
    refine C_of (k21 s l u v m2 (hs.mono hm02) hf.sm hnm hn) ?_
    rintro _ m3 ⟨hm3, t, rfl, ht⟩
    simp
    refine C_of (k22 s l u v m3 (hs.mono (hm02.trans hm3)) hf.sm (by omega)) ?_
    rintro _ m4 ⟨hm4, t', rfl, ht'⟩
    simp
    refine C_of (k23 t t' (commonI l u v) m4 (ht.mono hm4) ht' (common_len hn u v)) ?_
    rintro _ m5 ⟨rfl, hm5⟩
    simp
noncomputable def fn5 : Func := (Tryz.checked.prog.funcs[5]?).get (by kernel_rfl)
theorem func5 : Tryz.checked.prog.funcs[5]? = some fn5 := by kernel_rfl
theorem unionsCommon_holds : Rows.UnionsCommonSaid :=
  OpenClaim.holds_of_wide 5 fn5 rfl rfl rfl rfl rfl rfl rfl ⟨rfl, rfl, rfl, rfl, rfl⟩ rfl rfl rfl rfl rfl (by kernel_rfl) func5 (by kernel_rfl)
    (of_decide_eq_true (by kernel_rfl)) (by unfold Func.isWrapper; rw [if_neg (of_decide_eq_false (by kernel_rfl))]; exact ⟨rfl, rfl⟩)
    (fun os started H enc _ => lifted3 (s := Rows.unionsCommonSpec) (conds := Rows.unionsCommonRow.domain) started (by kernel_rfl) func5 (by kernel_rfl) (by kernel_rfl) rfl (fun _ _ _ => rfl)
      (ChangeSpec.witness6 (enc := enc) (C := Tryz.checked) false ⟨#[], #[.slice none 0 0, .int .i64 0, .int .i64 0], []⟩ 8 (by kernel_rfl) (by kernel_rfl) (by kernel_rfl) (by kernel_rfl)) k5)
end Go.Proofs.YtheadodblifklaaGreat

