/- environlaw11.UnionsJoins returns true for every table of modes and any list of numbers, and leaves its arguments as they were.  Conditions: none beyond those stated. -/
import Derived.Test.YtheadodblifklaaGreatJ5
import Derived.Test.YtheadodblifklaaGreatRows
import Derived.OpenShut
namespace Go.Proofs.YtheadodblifklaaGreat
open Go Ax
set_option maxRecDepth 100000
theorem w3 {args m R} (h : W Tryz.prog (.seq (.reg [qb 6 false]) (.kill [0,1,2] (.seq (.seq (.reg [qc 19 10 [],⟨some 20,.P (.un .not (.t 19)),none⟩]) (.kill [0,1,2,20] (.cond (.t 20) (.seq (.reg [qb 6 false]) .ret) .skip))) (.kill [0,1,2] (.seq (.seq (.reg [qv 21 0,qc 22 11 [(.t 21),(qz 12)],⟨some 23,.P (.un .not (.t 22)),none⟩]) (.kill [0,1,2,23] (.cond (.t 23) (.seq (.reg [qb 6 true]) .ret) .skip))) (.kill [0,1,2] (.seq (.reg [qv 25 0,qv 26 1,qv 27 2,qc 28 12 [(.t 25),(.t 26),(.t 27)],qv 24 28,qx 29 24 0,qx 30 24 1,qv 7 29,qv 8 30]) (.kill [0,1,2,7,8] (.seq (.reg [qv 32 0,qv 33 1,qv 34 2,qc 35 13 [(.t 32),(.t 33),(.t 34)],qv 31 35,qx 36 31 0,qx 37 31 1,qv 9 36,qv 10 37]) (.kill [0,1,2,7,8,9,10] (.seq (.reg [qv 39 0,qv 40 1,qv 41 2,qc 42 14 [(.t 39),(.t 40),(.t 41)],qv 38 42,qx 43 38 0,qx 44 38 1,qv 11 43,qv 12 44]) (.kill [0,1,2,7,8,9,10,11,12] (.seq (.reg [qv 46 0,qv 47 1,qv 48 2,qc 49 15 [(.t 46),(.t 47),(.t 48)],qv 45 49,qx 50 45 0,qx 51 45 1,qv 13 50,qv 14 51]) (.kill [0,1,2,7,8,9,10,11,12,13,14] (.seq (.reg [qv 53 0,qv 54 1,qv 55 2,qc 56 16 [(.t 53),(.t 54),(.t 55)],qv 52 56,qx 57 52 0,qx 58 52 1,qv 15 57,qv 16 58]) (.kill [0,1,2,7,8,9,10,11,12,13,14,15,16] (.seq (.reg [qv 60 0,qv 61 1,qv 62 2,qc 63 17 [(.t 60),(.t 61),(.t 62)],qv 59 63,qx 64 59 0,qx 65 59 1,qv 17 64,qv 18 65]) (.kill [7,8,9,10,11,12,13,14,15,16,17,18] (.seq (.reg [qv 66 7,qv 67 9,⟨some 68,.P (.eqB false (.t 66) (.t 67)),none⟩,qv 69 68,⟨some 70,.P (.mov (.t 8)),(some (69, true))⟩,⟨some 71,.P (.mov (.t 10)),(some (69, true))⟩,⟨some 72,.P (.bin .eql (.t 70) (.t 71)),(some (69, true))⟩,⟨some 73,.P (.pick (.t 69) (.t 72) (.c (.bool false))),none⟩,qv 74 73,⟨some 75,.P (.mov (.t 11)),(some (74, true))⟩,⟨some 76,.P (.mov (.t 13)),(some (74, true))⟩,⟨some 77,.P (.bin .eql (.t 75) (.t 76)),(some (74, true))⟩,⟨some 78,.P (.pick (.t 74) (.t 77) (.c (.bool false))),none⟩,qv 79 78,⟨some 80,.P (.mov (.t 12)),(some (79, true))⟩,⟨some 81,.P (.mov (.t 14)),(some (79, true))⟩,⟨some 82,.P (.bin .eql (.t 80) (.t 81)),(some (79, true))⟩,⟨some 83,.P (.pick (.t 79) (.t 82) (.c (.bool false))),none⟩,qv 84 83,⟨some 85,.P (.mov (.t 15)),(some (84, true))⟩,⟨some 86,.P (.mov (.t 17)),(some (84, true))⟩,⟨some 87,.P (.eqB false (.t 85) (.t 86)),(some (84, true))⟩,⟨some 88,.P (.pick (.t 84) (.t 87) (.c (.bool false))),none⟩,qv 89 88,⟨some 90,.P (.mov (.t 16)),(some (89, true))⟩,⟨some 91,.P (.mov (.t 18)),(some (89, true))⟩,⟨some 92,.P (.bin .eql (.t 90) (.t 91)),(some (89, true))⟩,⟨some 93,.P (.pick (.t 89) (.t 92) (.c (.bool false))),none⟩,qv 6 93]) .ret))))))))))))))))))) (E [(.tmp 6)] R .mk) .mk (mat 94 (sArgs 0 args)) m) (hl : Nat.ble args.length 94 = true := by rfl) : ACalls Tryz.prog 3 args m R := walk mix (by kernel_rfl) (Nat.le_of_ble_eq_true hl) h
theorem w6 {args m R} (h : W Tryz.prog (.seq (.reg [qb 6 false]) (.kill [0,1,2] (.seq (.seq (.reg [qc 13 10 [],⟨some 14,.P (.un .not (.t 13)),none⟩]) (.kill [0,1,2,14] (.cond (.t 14) (.seq (.reg [qb 6 false]) .ret) .skip))) (.kill [0,1,2] (.seq (.seq (.reg [qv 15 0,qc 16 11 [(.t 15),(qz 12)],⟨some 17,.P (.un .not (.t 16)),none⟩]) (.kill [0,1,2,17] (.cond (.t 17) (.seq (.reg [qb 6 true]) .ret) .skip))) (.kill [0,1,2] (.seq (.reg [qv 19 0,qv 20 1,qv 21 2,qc 22 24 [(.t 19),(.t 20),(.t 21)],qv 18 22,qx 23 18 0,qx 24 18 1,qx 25 18 2,qv 7 23,qv 8 24,qv 9 25]) (.kill [0,1,2,7,8,9] (.seq (.reg [qv 27 0,qv 28 1,qv 29 2,qc 30 25 [(.t 27),(.t 28),(.t 29)],qv 26 30,qx 31 26 0,qx 32 26 1,qx 33 26 2,qv 10 31,qv 11 32,qv 12 33]) (.kill [7,8,9,10,11,12] (.seq (.reg [qv 34 7,qv 35 10,qc 36 26 [(.t 34),(.t 35)],qv 37 36,⟨some 38,.P (.mov (.t 8)),(some (37, true))⟩,⟨some 39,.P (.mov (.t 11)),(some (37, true))⟩,⟨some 40,.P (.bin .eql (.t 38) (.t 39)),(some (37, true))⟩,⟨some 41,.P (.pick (.t 37) (.t 40) (.c (.bool false))),none⟩,qv 42 41,⟨some 43,.P (.mov (.t 9)),(some (42, true))⟩,⟨some 44,.P (.mov (.t 12)),(some (42, true))⟩,⟨some 45,.P (.bin .eql (.t 43) (.t 44)),(some (42, true))⟩,⟨some 46,.P (.pick (.t 42) (.t 45) (.c (.bool false))),none⟩,qv 6 46]) .ret))))))))))) (E [(.tmp 6)] R .mk) .mk (mat 47 (sArgs 0 args)) m) (hl : Nat.ble args.length 47 = true := by rfl) : ACalls Tryz.prog 6 args m R := walk mix (by kernel_rfl) (Nat.le_of_ble_eq_true hl) h
theorem w8 {args m R} (h : W Tryz.prog (.seq (.reg [qb 4 false]) (.kill [0,1] (.seq (.seq (.reg [qc 11 10 [],⟨some 12,.P (.un .not (.t 11)),none⟩]) (.kill [0,1,12] (.cond (.t 12) (.seq (.reg [qb 4 false]) .ret) .skip))) (.kill [0,1] (.seq (.seq (.reg [qv 13 0,qc 14 11 [(.t 13),(qz 12)],⟨some 15,.P (.un .not (.t 14)),none⟩,qv 16 15,⟨some 17,.P (.mov (.t 1)),(some (16, false))⟩,⟨some 18,.P (.len (.t 17)),(some (16, false))⟩,⟨some 19,.P (.bin .gtr (.t 18) (qz 8)),(some (16, false))⟩,⟨some 20,.P (.pick (.t 16) (.c (.bool true)) (.t 19)),none⟩]) (.kill [0,1,20] (.cond (.t 20) (.seq (.reg [qb 4 true]) .ret) .skip))) (.kill [0,1] (.seq (.reg [qv 22 0,qv 23 1,qc 24 28 [(.t 22),(.t 23)],qv 21 24,qx 25 21 0,qx 26 21 1,qx 27 21 2,qv 5 25,qv 6 26,qv 7 27]) (.kill [0,1,5,6,7] (.seq (.reg [qv 29 0,qv 30 1,qc 31 29 [(.t 29),(.t 30)],qv 28 31,qx 32 28 0,qx 33 28 1,qx 34 28 2,qv 8 32,qv 9 33,qv 10 34]) (.kill [5,6,7,8,9,10] (.seq (.reg [qv 35 5,qv 36 8,qc 37 26 [(.t 35),(.t 36)],qv 38 37,⟨some 39,.P (.mov (.t 6)),(some (38, true))⟩,⟨some 40,.P (.mov (.t 9)),(some (38, true))⟩,⟨some 41,.P (.bin .eql (.t 39) (.t 40)),(some (38, true))⟩,⟨some 42,.P (.pick (.t 38) (.t 41) (.c (.bool false))),none⟩,qv 43 42,⟨some 44,.P (.mov (.t 7)),(some (43, true))⟩,⟨some 45,.P (.mov (.t 10)),(some (43, true))⟩,⟨some 46,.P (.bin .eql (.t 44) (.t 45)),(some (43, true))⟩,⟨some 47,.P (.pick (.t 43) (.t 46) (.c (.bool false))),none⟩,qv 4 47]) .ret))))))))))) (E [(.tmp 4)] R .mk) .mk (mat 48 (sArgs 0 args)) m) (hl : Nat.ble args.length 48 = true := by rfl) : ACalls Tryz.prog 8 args m R := walk mix (by kernel_rfl) (Nat.le_of_ble_eq_true hl) h
end Go.Proofs.YtheadodblifklaaGreat
namespace Go.Proofs.YtheadodblifklaaGreat
open Go Ax
set_option maxRecDepth 100000
theorem both_at {l : List Md} (hg : goodT l) {b z : Nat} (hb : b < l.length) : decide (0 ≤ atI (RR l) (basesOf l b) z) = true ↔ hasRR l b z := by
  rw [decide_eq_true_iff]
  exact atI_basesOf hg hb
theorem k23 (s t : AVal) (xs : List Int) (m : AMem) (hs : RInts m s xs) (ht : RInts m t xs) (hn : xs.length < 2 ^ 62) : ACalls Tryz.prog 23 [s, t] m fun v m' => v = .bool true ∧ m <+: m' := by
  refine w23 ?_
  simp [hs.len, ht.len]
  refine W_loop (fun q a m' => ∃ k : Nat, k + q = xs.length ∧ a = h23_0 s t (.int .i64 xs.length) (.int .i64 k) ∧ m <+: m') xs.length ⟨0, by simp⟩ ?_
  rintro q a m1 ⟨k, hk, rfl, hm1⟩
  simp
  refine bbind_dec (fun hkl => ?_) fun hkl => ?_
  · have hkl : k < xs.length := by omega
    have hw := step64 hkl hn
    obtain ⟨q, rfl⟩ : ∃ q', q = q' + 1 := ⟨q - 1, by omega⟩
    obtain ⟨b1, o1, g1, g2⟩ := (hs.mono hm1).at hkl
    obtain ⟨b2, o2, g3, g4⟩ := (ht.mono hm1).at hkl
    simp
    refine W_drawPR (by simp [maxDst]) rfl rfl ?_
    simp [g1, g2, g3, g4, hw]
    intro m2 hm2
    exact ⟨q, by omega, k + 1, by omega, by simp, hm1.trans hm2⟩
  · simp
    exact hm1
end Go.Proofs.YtheadodblifklaaGreat

namespace Go.Proofs.YtheadodblifklaaGreat
open Go Ax
set_option maxRecDepth 100000
theorem k172 (s t : AVal) (xs ys : List Int) (m : AMem) (hs : RInts m s xs) (ht : RInts m t ys) (hn : xs.length < 2 ^ 62) : ACalls Tryz.prog 172 [s, t] m fun v m' => v = .bool (decide (xs = ys)) ∧ m <+: m' := by
  refine w172 ?_
  by_cases hl : xs.length = ys.length
  rotate_left
  · have hl' : ¬ (xs.length : Int) = ys.length := by omega
    have : ¬ xs = ys := fun e => hl (by rw [e])
    simp [hs.len, ht.len, bneT hl', this]
  simp [hs.len, ht.len, hl]
  refine W_loop (fun q a m' => ∃ k : Nat, k + q = xs.length ∧ a = h172_0 s t (.int .i64 k) ∧ m <+: m' ∧ ∀ (j : Nat) x, j < k → xs[j]? = some x → ys[j]? = some x) xs.length ⟨0, by simp⟩ ?_
  rintro q a m1 ⟨k, hk, rfl, hm1, he⟩
  simp [(hs.mono hm1).len, hl]
  refine bbind_dec (fun hkl => ?_) fun hkl => ?_
  · have hkl : k < xs.length := by omega
    have hw := step64 hkl hn
    obtain ⟨q, rfl⟩ : ∃ q', q = q' + 1 := ⟨q - 1, by omega⟩
    obtain ⟨b1, o1, g1, g2⟩ := (hs.mono hm1).at hkl
    obtain ⟨b2, o2, g3, g4⟩ := (ht.mono hm1).at (i := k) (by omega)
    simp
    refine W_drawPR (by simp [maxDst]) rfl rfl ?_
    simp [g1, g2, g3, g4]
    intro m2 hm2
    by_cases hxy : xs[k] = ys[k]'(by omega)
    · simp [hxy, hw]
      refine ⟨q, by omega, k + 1, by omega, by simp, hm1.trans hm2, fun j x hj hx => ?_⟩
      by_cases hjk : j = k
      · subst hjk
        rw [List.getElem?_eq_getElem hkl] at hx
        cases hx
        rw [hxy]
        exact List.getElem?_eq_getElem (by omega)
      · exact he j x (by omega) hx
    · have : ¬ xs = ys := fun e => hxy (by subst e; rfl)
      simp [bneT hxy, this]
      exact hm1.trans hm2
  · have hkl : k = xs.length := by omega
    subst hkl
    have : xs = ys := by
      apply List.ext_getElem?
      intro i
      cases hi : xs[i]? with
      | some x => exact (he i x (List.getElem?_eq_some_iff.1 hi).1 hi).symm
      | none => exact (List.getElem?_eq_none (by have := List.getElem?_eq_none_iff.1 hi; omega)).symm
    simp [this]
    exact hm1
theorem k60 (s t : AVal) (xs : List ByteArray) (m : AMem) (hs : RStrs m s xs) (ht : RStrs m t xs) (hn : xs.length < 2 ^ 62) : ACalls Tryz.prog 60 [s, t] m fun v m' => v = .bool true ∧ m <+: m' := by
  refine w60 ?_
  simp [hs.len, ht.len]
  refine W_loop (fun q a m' => ∃ k : Nat, k + q = xs.length ∧ a = h60_0 s t (.int .i64 xs.length) (.int .i64 k) ∧ m <+: m') xs.length ⟨0, by simp⟩ ?_
  rintro q a m1 ⟨k, hk, rfl, hm1⟩
  simp
  refine bbind_dec (fun hkl => ?_) fun hkl => ?_
  · have hkl : k < xs.length := by omega
    have hw := step64 hkl hn
    obtain ⟨q, rfl⟩ : ∃ q', q = q' + 1 := ⟨q - 1, by omega⟩
    obtain ⟨b1, o1, g1, g2⟩ := (hs.mono hm1).at hkl
    obtain ⟨b2, o2, g3, g4⟩ := (ht.mono hm1).at hkl
    simp
    refine W_drawPR (by simp [maxDst]) rfl rfl ?_
    have hne : binStr .neq xs[k] xs[k] = some (.bool false) := by simp [binStr]
    simp [g1, g2, g3, g4, hw, hne]
    intro m2 hm2
    exact ⟨q, by omega, k + 1, by omega, by simp, hm1.trans hm2⟩
  · simp
    exact hm1
theorem k59 (c d : List AVal) (x : Md) (m : AMem) (hx : RMode m c x) (hy : RMode m d x) (hsz : smallN x) : ACalls Tryz.prog 59 [.agg c, .agg d] m fun v m' => v = .bool true ∧ m <+: m' := by
  obtain ⟨e, nm, rfl, he, hnm⟩ := hx
  obtain ⟨e2, nm2, rfl, he2, hnm2⟩ := hy
  refine w59 ?_
  have h1 := Sl.one he
  have h2 := Sl.one hnm
  have h3 := Sl.one he2
  have h4 := Sl.one hnm2
  simp [h1, h2, h3, h4]
  obtain ⟨hb1, hb2, hm01⟩ := two_box m [.int .i64 x.kind, .int .i64 x.size, e, nm, .int .i64 x.dims, .bool x.flex] [.int .i64 x.kind, .int .i64 x.size, e2, nm2, .int .i64 x.dims, .bool x.flex] 49 49
  generalize m ++ [.own [.int .i64 x.kind, .int .i64 x.size, e, nm, .int .i64 x.dims, .bool x.flex] 49 none, .own [.int .i64 x.kind, .int .i64 x.size, e2, nm2, .int .i64 x.dims, .bool x.flex] 49 none] = m1 at *
  simp [bx hb1, bx hb2]
  refine C_of (k23 e e2 x.elems m1 (he.mono hm01) (he2.mono hm01) hsz.1) ?_
  rintro _ m2 ⟨rfl, hm2⟩
  simp [bx (readB_mono hm2 hb1), bx (readB_mono hm2 hb2)]
  refine C_of (k60 nm nm2 x.names m2 (hnm.mono (hm01.trans hm2)) (hnm2.mono (hm01.trans hm2)) hsz.2.1) ?_
  rintro _ m3 ⟨rfl, hm3⟩
  simp [bx (readB_mono (hm2.trans hm3) hb1), bx (readB_mono (hm2.trans hm3) hb2)]
  exact hm01.trans (hm2.trans hm3)
theorem k58 (s t : AVal) (l : List Md) (m : AMem) (hs : RTab m s l) (ht : RTab m t l) (hsz : ∀ x ∈ l, smallN x) (hn : l.length < 2 ^ 62) : ACalls Tryz.prog 58 [s, t, .func (.func 59) [] []] m fun v m' => v = .bool true ∧ m <+: m' := by
  refine w58 ?_
  simp [hs.len, ht.len]
  refine W_loop (fun q a m' => ∃ k : Nat, k + q = l.length ∧ a = h58_0 t (.func (.func 59) [] []) s (.int .i64 l.length) (.int .i64 k) ∧ m <+: m') l.length ⟨0, by simp⟩ ?_
  rintro q a m1 ⟨k, hk, rfl, hm1⟩
  simp
  refine bbind_dec (fun hkl => ?_) fun hkl => ?_
  · have hkl : k < l.length := by omega
    have hw := step64 hkl hn
    obtain ⟨q, rfl⟩ : ∃ q', q = q' + 1 := ⟨q - 1, by omega⟩
    obtain ⟨b1, o1, c1, g1, g2, _, _, g3⟩ := (hs.mono hm1).atC hkl
    obtain ⟨b2, o2, c2, g4, g5, _, _, g6⟩ := (ht.mono hm1).atC hkl
    have a1 := g3.all
    have a2 := g6.all
    simp [g1, g2]
    rw [store_new _ _ c1 _ _ 6 a1.1 rfl a1.2]
    have hbx := readB_new m1 c1 49 none
    have hm12 : m1 <+: m1 ++ [.own c1 49 none] := List.prefix_append _ _
    simp
    generalize m1 ++ [.own c1 49 none] = m2 at *
    simp [g4, loadE_mono hm12 g5]
    rw [store_new _ _ c2 _ _ 6 a2.1 rfl a2.2]
    have hby := readB_new m2 c2 49 none
    have hm23 : m2 <+: m2 ++ [.own c2 49 none] := List.prefix_append _ _
    simp
    generalize m2 ++ [.own c2 49 none] = m3 at *
    have r1 : readN c1 0 6 = some c1 := by unfold readN; rw [if_pos (by omega), List.drop_zero, List.take_of_length_le (by omega)]
    have r2 : readN c2 0 6 = some c2 := by unfold readN; rw [if_pos (by omega), List.drop_zero, List.take_of_length_le (by omega)]
    simp [bxW (readB_mono hm23 hbx), bxW hby, r1, r2]
    refine C_of (k59 c1 c2 l[k] m3 (g3.mono (hm12.trans hm23)) (g6.mono (hm12.trans hm23)) (hsz _ (List.getElem_mem hkl))) ?_
    rintro _ m4 ⟨rfl, hm4⟩
    simp [hw]
    exact ⟨q, by omega, k + 1, by omega, by simp, hm1.trans ((hm12.trans hm23).trans hm4)⟩
  · simp
    exact hm1
theorem k26 (s t : AVal) (l : List Md) (m : AMem) (hs : RTab m s l) (ht : RTab m t l) (hsz : ∀ x ∈ l, smallN x) (hn : l.length < 2 ^ 62) : ACalls Tryz.prog 26 [s, t] m fun v m' => v = .bool true ∧ m <+: m' := by
  refine w26 ?_
  simp
  refine C_of (k58 s t l m hs ht hsz hn) ?_
  rintro _ m2 ⟨rfl, hm2⟩
  simp [hm2]
end Go.Proofs.YtheadodblifklaaGreat

namespace Go.Proofs.YtheadodblifklaaGreat
open Go Ax
open Relation
set_option maxRecDepth 100000
theorem RR_first {l : List Md} {a b : Nat} (ha : a < l.length) (hb : b < l.length) (h : RR l a = RR l b) : firstC (mdAt l a) (mdAt l b) = 0 := by
  have h1 : R l (1 + l.length) a = R l (1 + l.length) b := by rw [Nat.add_comm]; exact h
  have h2 := R_eq_cmp (d := 0) ha hb (R_eq_down ha hb l.length h1)
  unfold cmpR thenC at h2
  have h0 : cmpI (R l 0 a : Nat) (R l 0 b : Nat) = 0 := cmpI_zero.2 rfl
  simp [h0] at h2
  exact h2
theorem lexC_refl : ∀ xs : List Int, lexC cmpI xs xs = 0
  | [] => rfl
  | x :: xs => by
    have h : cmpI x x = 0 := cmpI_zero.2 rfl
    simp [lexC, h, lexC_refl xs]
theorem R_eq_of {l : List Md} {a b : Nat} (ha : a < l.length) (hb : b < l.length) (hf : firstC (mdAt l a) (mdAt l b) = 0) (hk : ∀ r, keyOf l r a = keyOf l r b) : ∀ d, R l d a = R l d b
  | 0 => rfl
  | d + 1 => by
    have ih := R_eq_of ha hb hf hk d
    have hc : cmpR l (R l d) d a b = 0 := by
      unfold cmpR thenC
      have h0 : cmpI (R l d a : Nat) (R l d b : Nat) = 0 := cmpI_zero.2 (by rw [ih])
      simp only [h0]
      by_cases hd : d = 0
      · simp [hd, hf]
      · simp [hd, hk, lexC_refl]
    have h1 := R_lt l d (b := b) ha
    have h2 := R_lt l d (b := a) hb
    have h3 := (cmpR_ord l (R l d) d).anti a b trivial trivial
    have h4 := (cmpR_ord l (R l d) d).anti b a trivial trivial
    omega
theorem step_same {l : List Md} {a b : Nat} (ha : a < l.length) (hb : b < l.length) (hk : (mdAt l a).kind = (mdAt l b).kind) (he : (mdAt l a).elems = (mdAt l b).elems) {y : Nat} (h : stepR l isU a y) : stepR l isU b y := by
  obtain ⟨x, h1, h2, h3⟩ := h
  rw [mdAt_eq ha, mdAt_eq hb] at hk he
  rw [List.getElem?_eq_getElem ha] at h1
  cases h1
  refine ⟨l[b], List.getElem?_eq_getElem hb, ?_, by rw [← he]; exact h3⟩
  unfold isU at h2 ⊢
  rw [← hk]; exact h2
theorem part_same {l : List Md} {a b : Nat} (ha : a < l.length) (hb : b < l.length) (hk : (mdAt l a).kind = (mdAt l b).kind) (he : (mdAt l a).elems = (mdAt l b).elems) {j : Nat} (h : IsPart l a j) : IsPart l b j := by
  refine ⟨?_, h.2⟩
  have := h.1
  clear h
  induction this with
  | single h => exact .single (step_same ha hb hk he h)
  | tail _ h ih => exact .tail ih h
theorem key_same {l : List Md} {a b : Nat} (ha : a < l.length) (hb : b < l.length) (hk : (mdAt l a).kind = (mdAt l b).kind) (he : (mdAt l a).elems = (mdAt l b).elems) (r : Nat → Nat) : keyOf l r a = keyOf l r b := by
  unfold keyOf
  have hu : isU (mdAt l a) = isU (mdAt l b) := by unfold isU; rw [hk]
  rw [hu, he]
  cases isU (mdAt l b)
  · rfl
  · simp only [if_true]
    congr 1
    apply List.filter_congr
    intro v _
    rw [decide_eq_decide]
    exact ⟨fun ⟨j, h1, h2⟩ => ⟨j, part_same ha hb hk he h1, h2⟩, fun ⟨j, h1, h2⟩ => ⟨j, part_same hb ha hk.symm he.symm h1, h2⟩⟩
theorem RR_same {l : List Md} {a b : Nat} (ha : a < l.length) (hb : b < l.length) (hf : firstC (mdAt l a) (mdAt l b) = 0) (he : (mdAt l a).elems = (mdAt l b).elems) : RR l a = RR l b :=
  R_eq_of ha hb hf (key_same ha hb (firstC_kind hf) he) _
theorem mdAt_app {l : List Md} {x : Md} {i : Nat} (h : i < l.length) : mdAt (l ++ [x]) i = mdAt l i := by
  unfold mdAt
  rw [List.getElem?_append_left h]
theorem mdAt_last {l : List Md} {x : Md} : mdAt (l ++ [x]) l.length = x := by
  unfold mdAt
  rw [List.getElem?_concat_length]
  rfl
theorem fidx_at {p : Nat → Bool} : ∀ (n i j : Nat), i ≤ j → j < i + n → p j = true → (∀ k, i ≤ k → k < j → p k = false) → fidx p i n = (j : Int)
  | 0, i, j, h1, h2, _, _ => by omega
  | n + 1, i, j, h1, h2, h3, h4 => by
    rw [fidx]
    by_cases hij : i = j
    · subst hij; rw [if_pos h3]
    · rw [if_neg (by rw [h4 i (Nat.le_refl _) (by omega)]; simp)]
      exact fidx_at n (i + 1) j (by omega) (by omega) h3 fun k k1 k2 => h4 k (by omega) k2
theorem findI_none {l : List Md} {x : Md} (h : ∃ e ∈ x.elems, outB l.length e = true) : findI l x = none := by
  obtain ⟨e, he, ho⟩ := h
  unfold findI
  split
  · rfl
  · rename_i hn
    rw [if_pos]
    intro hc
    have ok := okT_of hc
    have := ok.good x (by simp) e he
    have hne : e ≠ (l.length : Int) := fun h => hn (h ▸ he)
    simp [outB] at ho
    simp at this
    omega
theorem findI_ok {l : List Md} {x : Md} (h : ∀ e ∈ x.elems, outB l.length e = false) : findI l x = if checkI (l ++ [x]) ≠ 0 then none else if fidx (fun i => RR (l ++ [x]) i == RR (l ++ [x]) l.length) 0 (l.length + 1) = l.length then none else some (fidx (fun i => RR (l ++ [x]) i == RR (l ++ [x]) l.length) 0 (l.length + 1)).toNat := by
  unfold findI
  rw [if_neg]
  intro hm
  have := h _ hm
  simp [outB] at this
theorem findI_last {l : List Md} {x : Md} (h : ∀ e ∈ x.elems, outB l.length e = false) (hc : checkI (l ++ [x]) = 0) (hn : ∀ i, i < l.length → RR (l ++ [x]) i ≠ RR (l ++ [x]) l.length) : findI l x = none := by
  rw [findI_ok h, if_neg (by simp [hc]), if_pos]
  exact fidx_at _ 0 _ (by omega) (by omega) (by simp) fun k _ hk => by simpa using hn k hk
theorem findI_some {l : List Md} {x : Md} (h : ∀ e ∈ x.elems, outB l.length e = false) (hc : checkI (l ++ [x]) = 0) {j : Nat} (hj : j < l.length) (he : RR (l ++ [x]) j = RR (l ++ [x]) l.length) (hn : ∀ i, i < j → RR (l ++ [x]) i ≠ RR (l ++ [x]) l.length) : findI l x = some j := by
  have hF := fidx_at (p := fun i => RR (l ++ [x]) i == RR (l ++ [x]) l.length) (l.length + 1) 0 j (by omega) (by omega) (by simpa using he) fun k _ hk => by simpa using hn k hk
  rw [findI_ok h, if_neg (by simp [hc]), hF, if_neg (by omega)]
  simp
end Go.Proofs.YtheadodblifklaaGreat

namespace Go.Proofs.YtheadodblifklaaGreat
open Go Ax
set_option maxRecDepth 100000
set_option maxHeartbeats 8000000 in
theorem k140 (s : AVal) (c : List AVal) (l : List Md) (x : Md) (m : AMem) (hs : RTab m s l) (hx : RMode m c x) (hsz : ∀ y ∈ l ++ [x], smallN y) (h40 : ∀ y ∈ l ++ [x], y.elems.length < 2 ^ 40 ∧ y.names.length < 2 ^ 40) (hn : l.length < 2 ^ 20) :
    ACalls Tryz.prog 140 [s, .agg c] m fun v m' => m <+: m' ∧ v = .tuple [.int .i64 ((findI l x).getD 0 : Nat), .bool (findI l x).isSome] := by
  have hx0 := hx
  have hcl := hx.all
  obtain ⟨e, nm, rfl, he, hnm⟩ := hx
  refine w140 ?_
  have h1 := Sl.one he
  have h2 := Sl.one hnm
  simp [h1, h2]
  have hb0 := readB_new m [.int .i64 x.kind, .int .i64 x.size, e, nm, .int .i64 x.dims, .bool x.flex] 49 none
  have hm01 : m <+: m ++ [.own [.int .i64 x.kind, .int .i64 x.size, e, nm, .int .i64 x.dims, .bool x.flex] 49 none] := List.prefix_append _ _
  generalize m ++ [.own [.int .i64 x.kind, .int .i64 x.size, e, nm, .int .i64 x.dims, .bool x.flex] 49 none] = m1 at *
  generalize m.length = b3 at *
  have hxs := hsz x (by simp)
  have hx40 := h40 x (by simp)
  -- the elements
  obtain ⟨J, hJ⟩ : ∃ J : AFrame → AMem → Prop, ∀ f m', J f m' ↔ (f.forget [0, 3] = mat 83 [(0, s), (3, .ptr b3 0)] ∧ m1 <+: m' ∧ ∀ e ∈ x.elems, outB l.length e = false) := ⟨_, fun _ _ => Iff.rfl⟩
  refine W_JB J ?_ ?_
  · obtain ⟨I, hI⟩ : ∃ I : Nat → AFrame → AMem → Prop, ∀ q f m', I q f m' ↔ (∃ k : Nat, k + q = x.elems.length ∧ f = h140_0 s (.ptr b3 0) (.int .i64 k) ∧ m1 <+: m' ∧ ∀ (j : Nat) e, j < k → x.elems[j]? = some e → outB l.length e = false) := ⟨_, fun _ _ _ => Iff.rfl⟩
    refine W_loop I x.elems.length ((hI _ _ _).2 ⟨0, by simp, by simp, List.prefix_refl _, fun _ _ h => by omega⟩) ?_
    rintro q f m2 hIn
    obtain ⟨k, hk, rfl, hm2, ho⟩ := (hI _ _ _).1 hIn
    clear hIn
    have hm02 := hm01.trans hm2
    simp [bx (readB_mono hm2 hb0), (he.mono hm02).len]
    refine bbind_dec (fun hkl => ?_) fun hkl => ?_
    · have hkl : k < x.elems.length := by omega
      have hw := step64 hkl (by omega)
      obtain ⟨q, rfl⟩ : ∃ q', q = q' + 1 := ⟨q - 1, by omega⟩
      obtain ⟨b1, o1, g1, g2⟩ := (he.mono hm02).at hkl
      simp [bx (readB_mono hm2 hb0), g1, g2]
      refine C_of (k147 s l x.elems[k] m2 (hs.mono hm02)) ?_
      rintro _ m3 ⟨rfl, rfl⟩
      have hob : outB l.length x.elems[k] = !(decide (0 ≤ x.elems[k]) && decide (x.elems[k] < l.length)) := rfl
      cases hin : (decide (0 ≤ x.elems[k]) && decide (x.elems[k] < l.length))
      · rw [hin] at hob
        have hf := findI_none (l := l) (x := x) ⟨_, List.getElem_mem hkl, hob⟩
        simp [hf]
        exact hm02
      · rw [hin] at hob
        simp [hw]
        refine ⟨q, by omega, (hI _ _ _).2 ⟨k + 1, by omega, by simp, hm2, fun j e hj hje => ?_⟩⟩
        by_cases hjk : j = k
        · subst hjk; rw [List.getElem?_eq_getElem hkl] at hje; cases hje; exact hob
        · exact ho j e (by omega) hje
    · simp
      refine (hJ _ _).2 ⟨by simp, hm2, fun e he' => ?_⟩
      obtain ⟨j, hj, rfl⟩ := List.getElem_of_mem he'
      exact ho j _ (by omega) (List.getElem?_eq_getElem hj)
  intro f m2 hJ2
  obtain ⟨hf, hm2, hin⟩ := (hJ _ _).1 hJ2
  clear hJ2 hJ
  have hm02 := hm01.trans hm2
  simp [hf]
  -- the table with it
  refine W_draw (fun _ _ _ => True) (by simp [maxDst]) ?_
  have hr2 := bxW (readB_mono hm2 hb0) 6
  simp [readN] at hr2
  refine D_pc 0 1 [2, 1, 3, 4, 5, 6] ?_
  simp
  intro _ _
  refine D_R rfl trivial ⟨_, List.prefix_refl _, fun _ h => by cases h⟩ ?_
  simp [hr2]
  refine D_X rfl rfl fun m3 hm3 _ => ?_
  simp
  refine C_of (k139 s l m3 (hs.mono (hm02.trans hm3)) (fun y hy => h40 y (by simp [hy])) hn) ?_
  rintro t4 m4 ⟨hm4, hT⟩
  have hm24 := hm3.trans hm4
  refine ⟨by simp [lateOf, ROp.ev, readB_mono hm24 (readB_mono hm2 hb0), readN], ?_⟩
  refine D_X rfl rfl fun m5 hm5 _ => ?_
  simp
  refine C_of (k141 _ x m5 (hx0.mono ((hm02.trans hm24).trans hm5)) hx40) ?_
  rintro _ m6 ⟨hm6, c6, rfl, hM⟩
  refine ⟨by simp [lateOf], ?_⟩
  have hcl6 := hM.mode.all
  obtain ⟨e6, nm6, hc6, _, _⟩ := id hM
  have hfill : fillA [.int .i64 0, .int .i64 0, .nilslice, .nilslice, .int .i64 0, .bool false] [(0, 6, .agg c6)] = some c6 := by
    subst hc6
    have h := hcl6.2
    simp only [List.all_cons, List.all_nil, Bool.and_eq_true] at h
    simp [fillA, setN, h.2.2.1, h.2.2.2.1]
  refine D_A rfl trivial ?_
  simp [hfill]
  intro b'
  refine D_W rfl rfl fun m7 hm7 hf7 => ?_
  have h7 := hf7 4
  simp [upd] at h7
  have hm47 := (hm5.trans hm6).trans hm7
  obtain ⟨t8, m8, happ, hch8, hT8, _⟩ := (hT.mono hm47).pushM (by have := hm4.length_le; have := hm47.length_le; omega) (hM.mono hm7) (fun b hb => by have := (hT.blk_lo hb).2; have := hm5.length_le; omega) (by omega)
  simp [lit6' h7 hcl6.1, happ]
  refine D_P rfl trivial ?_
  simp
  refine D_end fun m9 hm9 _ => ?_
  have hm38 : m3 <+: m8 := hch8.pre (hm4.trans hm47) fun b hb h => by have := (hT.blk_lo h).1; omega
  have hm29 := (hm3.trans hm38).trans hm9
  have hm09 := hm02.trans hm29
  have hT9 := (hT8.mono hm9).tab
  have hlL : (l ++ [x]).length = l.length + 1 := by simp
  have hb9 := readB_mono hm29 (readB_mono hm2 hb0)
  clear happ hch8 h7 hT hT8 hM hfill hcl6 hr2
  simp
  refine C_of (k70 t8 (l ++ [x]) m9 hT9 hsz (by omega)) ?_
  rintro _ m10 ⟨rfl, hm10⟩
  by_cases hc : checkI (l ++ [x]) = 0
  rotate_left
  · have hfi : findI l x = none := by rw [findI_ok hin, if_pos hc]
    simp [bneT hc, hfi]
    exact hm09.trans hm10
  have ok := okT_of hc
  simp [hc]
  -- the first one that may be equal
  obtain ⟨J, hJ⟩ : ∃ J : AFrame → AMem → Prop, ∀ f m', J f m' ↔ (∃ i : Nat, f.forget [0, 3, 7, 8] = mat 83 [(0, s), (3, .ptr b3 0), (7, t8), (8, .int .i64 i)] ∧ m10 <+: m' ∧ i ≤ l.length ∧ (∀ j, j < i → firstC (mdAt l j) x ≠ 0) ∧ (i < l.length → firstC (mdAt l i) x = 0)) := ⟨_, fun _ _ => Iff.rfl⟩
  refine W_JB J ?_ ?_
  · obtain ⟨I, hI⟩ : ∃ I : Nat → AFrame → AMem → Prop, ∀ q f m', I q f m' ↔ (∃ i : Nat, i + q = l.length ∧ f = h140_1 s (.ptr b3 0) t8 (.int .i64 i) ∧ m10 <+: m' ∧ ∀ j, j < i → firstC (mdAt l j) x ≠ 0) := ⟨_, fun _ _ _ => Iff.rfl⟩
    refine W_loop I l.length ((hI _ _ _).2 ⟨0, by simp, by simp, List.prefix_refl _, fun _ h => by omega⟩) ?_
    rintro q f m11 hIn
    obtain ⟨i, hi, rfl, hm11, hne⟩ := (hI _ _ _).1 hIn
    clear hIn
    have hm011 := (hm09.trans hm10).trans hm11
    simp
    refine W_draw (fun _ _ _ => True) (by simp [maxDst]) ?_
    refine D_pc 0 10 [10, 11, 12] ?_
    by_cases hil : i < l.length
    · have hil' : (i : Int) < l.length := by omega
      obtain ⟨bi, oi, ci, g1, g2, _, _, g3⟩ := (hs.mono hm011).atC hil
      have hrx := bxW (readB_mono (hm10.trans hm11) hb9) 6
      simp [readN] at hrx
      simp [(hs.mono hm011).len, hil', g1, g2, hrx]
      intro _ _
      refine D_Xg rfl rfl (b := true) (by simp) (fun _ m12 hm12 _ => ?_) (fun h => absurd rfl h)
      simp
      have hmi : l[i] ∈ l ++ [x] := by simp
      refine C_of (k72 ci _ l[i] x m12 (g3.mono hm12) (hx0.mono (hm011.trans hm12)) (hsz _ hmi) hxs (ok.names _ hmi x (by simp))) ?_
      rintro _ m13 ⟨rfl, hm13⟩
      refine ⟨by simp [lateOf], ?_⟩
      refine D_pc 11 2 [] ?_
      simp
      intro _ _
      refine D_end fun m14 hm14 _ => ?_
      have hm1114 := (hm12.trans hm13).trans hm14
      rw [← mdAt_eq hil]
      by_cases hf0 : firstC (mdAt l i) x = 0
      · simp [hf0]
        exact (hJ _ _).2 ⟨i, by simp, hm11.trans hm1114, by omega, hne, fun _ => hf0⟩
      · have hw := step64 hil (by omega)
        simp [bneT hf0, hw]
        refine ⟨q - 1, by omega, (hI _ _ _).2 ⟨i + 1, by omega, by simp, hm11.trans hm1114, fun j hj => ?_⟩⟩
        by_cases hji : j = i
        · subst hji; exact hf0
        · exact hne j (by omega)
    · have hil' : ¬ (i : Int) < l.length := by omega
      simp [(hs.mono hm011).len, hil']
      intro _ _
      refine D_Xg rfl rfl (b := false) (by simp) (fun h => by cases h) (fun _ m12 hm12 _ => ⟨by simp [lateOf], ?_⟩)
      refine D_pc 11 2 [] ?_
      simp
      intro _ _
      refine D_end fun m14 hm14 _ => ?_
      simp
      exact (hJ _ _).2 ⟨i, by simp, hm11.trans (hm12.trans hm14), by omega, hne, fun h => absurd h hil⟩
  intro f m11 hJ2
  obtain ⟨i, hf, hm11, hil, hne, hi0⟩ := (hJ _ _).1 hJ2
  clear hJ2 hJ
  have hm011 := (hm09.trans hm10).trans hm11
  have hlast : l.length < (l ++ [x]).length := by omega
  have hneR : ∀ j, j < i → RR (l ++ [x]) j ≠ RR (l ++ [x]) l.length := fun j hj h => by
    have := RR_first (by omega) hlast h
    rw [mdAt_app (by omega), mdAt_last] at this
    exact hne j hj this
  simp [hf, (hs.mono hm011).len]
  by_cases hin' : i = l.length
  · subst hin'
    have hfi := findI_last hin hc hneR
    simp [hfi]
    exact hm011
  have hil2 : i < l.length := by omega
  have hi' : ¬ (i : Int) = l.length := by omega
  obtain ⟨bi, oi, ei, g1, g2, g3⟩ := hs.elems hil2
  have hrx := bx (readB_mono (hm10.trans hm11) hb9) 2
  simp at hrx
  have g2' := (g2 m11 hm011).2
  simp [beqF hi']
  refine W_draw (fun _ _ _ => True) (by simp [maxDst]) ?_
  refine D_pc 0 7 [7] ?_
  simp [g1, g2', hrx]
  intro _ _
  refine D_X rfl rfl fun m12 hm12 _ => ?_
  simp
  have hli := hsz l[i] (by simp)
  refine C_of (k172 ei e l[i].elems x.elems m12 (g3.mono (hm011.trans hm12)) (he.mono (hm011.trans hm12)) hli.1) ?_
  rintro _ m13 ⟨rfl, hm13⟩
  refine ⟨by simp [lateOf], ?_⟩
  refine D_end fun m14 hm14 _ => ?_
  have hm1114 := (hm12.trans hm13).trans hm14
  have hm1014 := hm11.trans hm1114
  have hm014 := hm011.trans hm1114
  by_cases hel : l[i].elems = x.elems
  · have hRR : RR (l ++ [x]) i = RR (l ++ [x]) l.length := by
      refine RR_same (by omega) hlast ?_ ?_
      · rw [mdAt_app hil2, mdAt_last]; exact hi0 hil2
      · rw [mdAt_app hil2, mdAt_last, mdAt_eq hil2]; exact hel
    have hfi := findI_some hin hc hil2 hRR hneR
    simp [hel, hfi]
    exact hm014
  simp [hel]
  refine C_of (k39 t8 (l ++ [x]) m14 (hT9.mono (hm10.trans hm1014)) ok.good ok.len hsz ok.h64 ok.names) ?_
  rintro v15 m15 ⟨hm15, hR⟩
  have hRi := ints_of_nat hR
  have hrat : ∀ j, j < l.length + 1 → ∃ b o, (∀ k, iaddrE 1 v15 (.int k (j : Nat)) = some (.ptr b o)) ∧ ∀ m', m15 <+: m' → loadE m' 1 false (.ptr b o) = some (.int .i64 (RR (l ++ [x]) j : Nat)) := fun j hj => by
    obtain ⟨b, o, h1, h2⟩ := hRi.at (i := j) (by simp [Rl_length]; omega)
    have hg : (Rl (l ++ [x]) ((l ++ [x]).length + 1))[j]? = some (RR (l ++ [x]) j) := Rl_get _ _ (by omega)
    have hg2 : (Rl (l ++ [x]) ((l ++ [x]).length + 1))[j]'(by rw [Rl_length]; omega) = RR (l ++ [x]) j := by
      have := List.getElem?_eq_getElem (l := Rl (l ++ [x]) ((l ++ [x]).length + 1)) (i := j) (by rw [Rl_length]; omega)
      rw [hg] at this; simpa using this.symm
    refine ⟨b, o, h1, fun m' hm' => ?_⟩
    rw [loadE_mono hm' h2]
    simp only [List.getElem_map, hg2]
  obtain ⟨bn, on, gn1, gn2⟩ := hrat l.length (by omega)
  simp
  obtain ⟨I, hI⟩ : ∃ I : Nat → AFrame → AMem → Prop, ∀ q f m', I q f m' ↔ (∃ j : Nat, j + q = l.length ∧ i ≤ j ∧ f = h140_2 s v15 (.int .i64 j) ∧ m15 <+: m' ∧ ∀ k, k < j → RR (l ++ [x]) k ≠ RR (l ++ [x]) l.length) := ⟨_, fun _ _ _ => Iff.rfl⟩
  refine W_loop I (l.length - i) ((hI _ _ _).2 ⟨i, by omega, by omega, by simp, List.prefix_refl _, hneR⟩) ?_
  rintro q f m16 hIn
  obtain ⟨j, hj, hij, rfl, hm16, hnk⟩ := (hI _ _ _).1 hIn
  clear hIn
  have hm016 := (hm014.trans hm15).trans hm16
  simp [(hs.mono hm016).len]
  refine bbind_dec (fun hjl => ?_) fun hjl => ?_
  · have hjl : j < l.length := by omega
    have hw := step64 hjl (by omega)
    obtain ⟨q, rfl⟩ : ∃ q', q = q' + 1 := ⟨q - 1, by omega⟩
    obtain ⟨bj, oj, gj1, gj2⟩ := hrat j (by omega)
    have gj := gj2 m16 hm16
    have gn := gn2 m16 hm16
    simp
    refine W_drawPR (by simp [maxDst]) rfl rfl ?_
    simp [gj1, gj, (hs.mono hm016).len, gn1, gn]
    intro m17 hm17
    by_cases hRR : RR (l ++ [x]) j = RR (l ++ [x]) l.length
    · have hfi := findI_some hin hc hjl hRR hnk
      simp [hRR, hfi]
      exact hm016.trans hm17
    · have hRR' : ¬ ((RR (l ++ [x]) j : Nat) : Int) = (RR (l ++ [x]) l.length : Nat) := by omega
      simp [beqF hRR', hw]
      refine ⟨q, by omega, (hI _ _ _).2 ⟨j + 1, by omega, by omega, by simp, hm16.trans hm17, fun k hk => ?_⟩⟩
      by_cases hkj : k = j
      · subst hkj; exact hRR
      · exact hnk k (by omega)
  · have hfi := findI_last hin hc fun k hk => hnk k (by omega)
    simp [hfi]
    exact hm016
end Go.Proofs.YtheadodblifklaaGreat

namespace Go.Proofs.YtheadodblifklaaGreat
open Go Ax
set_option maxRecDepth 100000
set_option maxHeartbeats 8000000 in
theorem k101 (s : AVal) (c : List AVal) (l : List Md) (x : Md) (m : AMem) (hs : RTab m s l) (hx : RMode m c x) (hsz : ∀ y ∈ l ++ [x], smallN y) (h40 : ∀ y ∈ l ++ [x], y.elems.length < 2 ^ 40 ∧ y.names.length < 2 ^ 40) (hn : l.length < 2 ^ 20) :
    ACalls Tryz.prog 101 [s, .agg c] m fun v m' => m <+: m' ∧ ∃ t, v = .tuple [t, .int .i64 (putI l x).2.1, .int .i64 (putI l x).2.2] ∧ RTab m' t (putI l x).1 := by
  have hx0 := hx
  have hcl := hx.all
  obtain ⟨e, nm, rfl, he, hnm⟩ := hx
  refine w101 ?_
  have h1 := Sl.one he
  have h2 := Sl.one hnm
  simp [h1, h2]
  have hb0 := readB_new m [.int .i64 x.kind, .int .i64 x.size, e, nm, .int .i64 x.dims, .bool x.flex] 49 none
  have hm01 : m <+: m ++ [.own [.int .i64 x.kind, .int .i64 x.size, e, nm, .int .i64 x.dims, .bool x.flex] 49 none] := List.prefix_append _ _
  generalize m ++ [.own [.int .i64 x.kind, .int .i64 x.size, e, nm, .int .i64 x.dims, .bool x.flex] 49 none] = m1 at *
  generalize m.length = b3 at *
  have hlL : (l ++ [x]).length = l.length + 1 := by simp
  have hx40 := h40 x (by simp)
  refine C_of (k70 s l m1 (hs.mono hm01) (fun y hy => hsz y (by simp [hy])) (by omega)) ?_
  rintro _ m2 ⟨rfl, hm2⟩
  have hm02 := hm01.trans hm2
  by_cases hc : checkI l = 0
  rotate_left
  · have hp : putI l x = ([], 0, checkI l) := by
      unfold putI
      rw [if_pos hc]
    simp [bneT hc, hp]
    exact ⟨hm02, RTab.nil0 _⟩
  have hp : putI l x = match findI l x with
      | some i => (l, (i : Int), 0)
      | none => if checkI (l ++ [x]) ≠ 0 then ([], 0, checkI (l ++ [x])) else (l ++ [x], (l.length : Int), 0) := by
    unfold putI
    rw [if_neg (by simp [hc])]
    all_goals (cases findI l x <;> rfl)
  have hr2 := bxW (readB_mono hm2 hb0) 6
  simp [readN] at hr2
  simp [hc, hr2]
  refine C_of (k140 s _ l x m2 (hs.mono hm02) (hx0.mono hm02) hsz h40 hn) ?_
  rintro _ m3 ⟨hm3, rfl⟩
  have hm03 := hm02.trans hm3
  cases hf : findI l x with
  | some i =>
    rw [hf] at hp
    simp only at hp
    simp
    refine C_of (k139 s l m3 (hs.mono hm03) (fun y hy => h40 y (by simp [hy])) hn) ?_
    rintro t4 m4 ⟨hm4, hT⟩
    simp [hp]
    exact ⟨hm03.trans hm4, hT.tab⟩
  | none =>
    rw [hf] at hp
    simp only at hp
    simp
    have hb3 := readB_mono (hm2.trans hm3) hb0
    refine W_draw (fun _ _ _ => True) (by simp [maxDst]) ?_
    have hr3 := bxW hb3 6
    simp [readN] at hr3
    refine D_pc 0 1 [2, 1, 3, 4, 5, 6] ?_
    simp
    intro _ _
    refine D_R rfl trivial ⟨_, List.prefix_refl _, fun _ h => by cases h⟩ ?_
    simp [hr3]
    refine D_X rfl rfl fun m4 hm4 _ => ?_
    simp
    refine C_of (k139 s l m4 (hs.mono (hm03.trans hm4)) (fun y hy => h40 y (by simp [hy])) hn) ?_
    rintro t5 m5 ⟨hm5, hT⟩
    refine ⟨by simp [lateOf, ROp.ev, readB_mono (hm4.trans hm5) hb3, readN], ?_⟩
    refine D_X rfl rfl fun m6 hm6 _ => ?_
    simp
    refine C_of (k141 _ x m6 (hx0.mono (((hm03.trans hm4).trans hm5).trans hm6)) hx40) ?_
    rintro _ m7 ⟨hm7, c7, rfl, hM⟩
    refine ⟨by simp [lateOf], ?_⟩
    have hcl7 := hM.mode.all
    obtain ⟨e7, nm7, hc7, _, _⟩ := id hM
    have hfill : fillA [.int .i64 0, .int .i64 0, .nilslice, .nilslice, .int .i64 0, .bool false] [(0, 6, .agg c7)] = some c7 := by
      subst hc7
      have h := hcl7.2
      simp only [List.all_cons, List.all_nil, Bool.and_eq_true] at h
      simp [fillA, setN, h.2.2.1, h.2.2.2.1]
    refine D_A rfl trivial ?_
    simp [hfill]
    intro b'
    refine D_W rfl rfl fun m8 hm8 hf8 => ?_
    have h8 := hf8 4
    simp [upd] at h8
    have hm58 := (hm6.trans hm7).trans hm8
    obtain ⟨t9, m9, happ, hch9, hT9, _⟩ := (hT.mono hm58).pushM (by have := hm5.length_le; have := hm58.length_le; omega) (hM.mono hm8) (fun b hb => by have := (hT.blk_lo hb).2; have := hm6.length_le; omega) (by omega)
    simp [lit6' h8 hcl7.1, happ]
    refine D_P rfl trivial ?_
    simp
    refine D_end fun m10 hm10 _ => ?_
    have hm49 : m4 <+: m9 := hch9.pre (hm5.trans hm58) fun b hb h => by have := (hT.blk_lo h).1; omega
    have hm310 := (hm4.trans hm49).trans hm10
    have hm010 := hm03.trans hm310
    have hT10 := (hT9.mono hm10).tab
    simp
    refine C_of (k70 t9 (l ++ [x]) m10 hT10 hsz (by omega)) ?_
    rintro _ m11 ⟨rfl, hm11⟩
    by_cases hc2 : checkI (l ++ [x]) = 0
    · rw [if_neg (by simp [hc2])] at hp
      simp [hc2, hp, (hs.mono (hm010.trans hm11)).len]
      exact ⟨hm010.trans hm11, hT10.mono hm11⟩
    · rw [if_pos hc2] at hp
      simp [bneT hc2, hp]
      exact ⟨hm010.trans hm11, RTab.nil0 _⟩
theorem k100 (s r : AVal) (l : List Md) (x : Nat) (hx : x < l.length) (m : AMem) (hs : RTab m s l) (hr : OwL natI m.length m 3 r (Rl l (l.length + 1)) ∨ RInts m r ((Rl l (l.length + 1)).map fun z : Nat => (z : Int))) (h40 : ∀ y ∈ l, y.elems.length < 2 ^ 40 ∧ y.names.length < 2 ^ 40) (hn : l.length < 2 ^ 20) :
    ACalls Tryz.prog 100 [s, r, .int .i64 x] m fun v m' => m <+: m' ∧ ∃ t, v = .tuple [t, .int .i64 (fidx (fun i => RR l i == RR l x) 0 l.length), .int .i64 0] ∧ RTab m' t l := by
  have hRi : RInts m r ((Rl l (l.length + 1)).map fun z : Nat => (z : Int)) := by
    rcases hr with h | h
    · exact ints_of_nat h
    · exact h
  refine w100 ?_
  have hrat : ∀ j, j < l.length → ∃ b o, (∀ k, iaddrE 1 r (.int k (j : Nat)) = some (.ptr b o)) ∧ ∀ m', m <+: m' → loadE m' 1 false (.ptr b o) = some (.int .i64 (RR l j : Nat)) := fun j hj => by
    obtain ⟨b, o, h1, h2⟩ := hRi.at (i := j) (by simp [Rl_length]; omega)
    have hg : (Rl l (l.length + 1))[j]? = some (RR l j) := Rl_get _ _ (by omega)
    have hg2 : (Rl l (l.length + 1))[j]'(by rw [Rl_length]; omega) = RR l j := by
      have := List.getElem?_eq_getElem (l := Rl l (l.length + 1)) (i := j) (by rw [Rl_length]; omega)
      rw [hg] at this; simpa using this.symm
    refine ⟨b, o, h1, fun m' hm' => ?_⟩
    rw [loadE_mono hm' h2]
    simp only [List.getElem_map, hg2]
  obtain ⟨bx', ox, gx1, gx2⟩ := hrat x hx
  simp
  obtain ⟨I, hI⟩ : ∃ I : Nat → AFrame → AMem → Prop, ∀ q f m', I q f m' ↔ (∃ j : Nat, j + q = l.length ∧ f = h100_0 s r (.int .i64 x) (.int .i64 j) ∧ m <+: m' ∧ ∀ k, k < j → RR l k ≠ RR l x) := ⟨_, fun _ _ _ => Iff.rfl⟩
  refine W_loop I l.length ((hI _ _ _).2 ⟨0, by omega, by simp, List.prefix_refl _, fun _ h => by omega⟩) ?_
  rintro q f m1 hIn
  obtain ⟨j, hj, rfl, hm1, hnk⟩ := (hI _ _ _).1 hIn
  clear hIn
  simp [(hs.mono hm1).len]
  refine bbind_dec (fun hjl => ?_) fun hjl => ?_
  · have hjl : j < l.length := by omega
    have hw := step64 hjl (by omega)
    obtain ⟨q, rfl⟩ : ∃ q', q = q' + 1 := ⟨q - 1, by omega⟩
    obtain ⟨bj, oj, gj1, gj2⟩ := hrat j hjl
    have gj := gj2 m1 hm1
    have gx := gx2 m1 hm1
    simp
    refine W_drawPR (by simp [maxDst]) rfl rfl ?_
    simp [gj1, gj, gx1, gx]
    intro m2 hm2
    by_cases hRR : RR l j = RR l x
    · have hF := fidx_at (p := fun i => RR l i == RR l x) l.length 0 j (by omega) (by omega) (by simpa using hRR) fun k _ hk => by simpa using hnk k hk
      simp [hRR]
      refine C_of (k139 s l m2 (hs.mono (hm1.trans hm2)) h40 hn) ?_
      rintro t3 m3 ⟨hm3, hT⟩
      rw [hF]
      simp
      exact ⟨(hm1.trans hm2).trans hm3, hT.tab⟩
    · have hRR' : ¬ ((RR l j : Nat) : Int) = (RR l x : Nat) := by omega
      simp [beqF hRR', hw]
      refine ⟨q, by omega, (hI _ _ _).2 ⟨j + 1, by omega, by simp, hm1.trans hm2, fun k hk => ?_⟩⟩
      by_cases hkj : k = j
      · subst hkj; exact hRR
      · exact hnk k (by omega)
  · exact absurd rfl (hnk x (by omega))
end Go.Proofs.YtheadodblifklaaGreat

namespace Go.Proofs.YtheadodblifklaaGreat
open Go Ax
set_option maxRecDepth 100000
theorem W_JBB {k j : Nat} {x : CC} {next : AFrame → AMem → Prop} {Q : AEx → AFrame → AMem → Prop} {t : Tag (x, AEx.inBlock k (AEx.inBlock j (AEx.then next Q)))} {a : AFrame} {m : AMem} (J : AFrame → AMem → Prop)
    (h1 : W Tryz.prog x (AEx.inBlock k (AEx.inBlock j (AEx.then J Q))) .mk a m) (h2 : ∀ a m, J a m → next a m) : W Tryz.prog x (AEx.inBlock k (AEx.inBlock j (AEx.then next Q))) t a m := by
  have h0 : ∀ e a m, AEx.inBlock j (AEx.then J Q) e a m → AEx.inBlock j (AEx.then next Q) e a m := fun e a m h => by
    cases e with
    | normal => exact h2 _ _ h
    | exit i =>
      simp only [AEx.inBlock] at h ⊢
      split
      · rename_i hi; rw [if_pos hi] at h; exact h2 _ _ h
      · rename_i hi; rw [if_neg hi] at h; exact h
    | ret => exact h
  refine W_mono (fun e a m h => ?_) h1
  cases e with
  | normal => exact h0 .normal a m h
  | exit i =>
    simp only [AEx.inBlock] at h ⊢
    by_cases hi : i = k
    · rw [if_pos hi] at h ⊢; exact h0 .normal a m h
    · rw [if_neg hi] at h ⊢; exact h0 (.exit i) a m h
  | ret => exact h0 .ret a m h
structure UpTo (f : Nat → Nat) (ms : List Nat) (r : Nat) (zs : List Nat) : Prop where
  asc : zs.Pairwise (fun a b => f a < f b)
  sub : ∀ z ∈ zs, z ∈ ms ∧ f z < r
  cov : ∀ y ∈ ms, f y < r → ∃ z ∈ zs, f z = f y ∧ z ≤ y
theorem UpTo.skip {f : Nat → Nat} {ms : List Nat} {r : Nat} {zs : List Nat} (h : UpTo f ms r zs) (hn : ∀ y ∈ ms, f y ≠ r) : UpTo f ms (r + 1) zs :=
  ⟨h.asc, fun z hz => ⟨(h.sub z hz).1, by have := (h.sub z hz).2; omega⟩, fun y hy hl => h.cov y hy (by have := hn y hy; omega)⟩
theorem UpTo.take {f : Nat → Nat} {ms : List Nat} {r : Nat} {zs : List Nat} (h : UpTo f ms r zs) {k : Nat} (hk : k ∈ ms) (hr : f k = r) (hl : ∀ y ∈ ms, f y = r → k ≤ y) : UpTo f ms (r + 1) (zs ++ [k]) := by
  refine ⟨?_, fun z hz => ?_, fun y hy hlt => ?_⟩
  · rw [List.pairwise_append]
    refine ⟨h.asc, by simp, fun a ha b hb => ?_⟩
    simp at hb
    subst hb
    have := (h.sub a ha).2
    omega
  · rcases List.mem_append.1 hz with hz | hz
    · exact ⟨(h.sub z hz).1, by have := (h.sub z hz).2; omega⟩
    · simp at hz; subst hz; exact ⟨hk, by omega⟩
  · by_cases he : f y = r
    · exact ⟨k, by simp, by omega, hl y hy he⟩
    · obtain ⟨z, h1, h2⟩ := h.cov y hy (by omega)
      exact ⟨z, by simp [h1], h2⟩
set_option maxHeartbeats 8000000 in
theorem k99 (rs t : AVal) (rk ms : List Nat) (m : AMem) (hr : RInts m rs (rk.map fun z : Nat => (z : Int))) (ht : RInts m t (ms.map fun z : Nat => (z : Int))) (hms : ∀ y ∈ ms, y < rk.length ∧ rk.getD y 0 < rk.length) (hn : rk.length < 2 ^ 20) (hm20 : ms.length < 2 ^ 30) :
    ACalls Tryz.prog 99 [rs, t] m fun v m' => m <+: m' ∧ ∃ zs, OwL natI m.length m' 3 v zs ∧ SortedBy (fun a => rk.getD a 0) ms zs := by
  refine w99 ?_
  have hlr : ∀ m', m <+: m' → lenE rs = some (.int .i64 rk.length) := fun m' h => by have := (hr.mono h).len; rw [List.length_map] at this; exact this
  have hlt : ∀ m', m <+: m' → lenE t = some (.int .i64 ms.length) := fun m' h => by have := (ht.mono h).len; rw [List.length_map] at this; exact this
  have hlr0 := hlr m (List.prefix_refl _)
  have hlt0 := hlt m (List.prefix_refl _)
  simp
  obtain ⟨I, hI⟩ : ∃ I : Nat → AFrame → AMem → Prop, ∀ q f m', I q f m' ↔ (∃ (r : Nat) (o : AVal) (zs : List Nat), r + q = rk.length ∧ f = h99_0 rs t o (.int .i64 r) ∧ m <+: m' ∧ OwL natI m.length m' 3 o zs ∧ zs.length ≤ r ∧ UpTo (fun a => rk.getD a 0) ms r zs) := ⟨_, fun _ _ _ => Iff.rfl⟩
  refine W_loop I rk.length ((hI _ _ _).2 ⟨0, .nilslice, [], by simp, by simp, List.prefix_refl _, OwL.nil, by simp, .nil, by simp, fun _ _ h => by omega⟩) ?_
  rintro q f m1 hIn
  obtain ⟨r, o, zs, hq, rfl, hm1, hO, hzr, hU⟩ := (hI _ _ _).1 hIn
  clear hIn
  simp [hlr0]
  refine bbind_dec (fun hrl => ?_) fun hrl => ?_
  rotate_left
  · have : r = rk.length := by omega
    subst this
    simp
    exact ⟨hm1, zs, hO, hU.asc, fun z hz => (hU.sub z hz).1, fun y hy => hU.cov y hy (hms y hy).2⟩
  have hrl : r < rk.length := by omega
  have hwr := step64 hrl (by omega)
  simp
  obtain ⟨J, hJ⟩ : ∃ J : AFrame → AMem → Prop, ∀ f m', J f m' ↔ (∃ (o : AVal) (zs : List Nat), f.forget [0, 1, 5, 6] = mat 49 [(0, rs), (1, t), (5, o), (6, .int .i64 r)] ∧ m <+: m' ∧ OwL natI m.length m' 3 o zs ∧ zs.length ≤ r + 1 ∧ UpTo (fun a => rk.getD a 0) ms (r + 1) zs) := ⟨_, fun _ _ => Iff.rfl⟩
  refine W_JBB J ?_ ?_
  rotate_left
  · intro f m2 hJ2
    obtain ⟨o, zs, hf, hm2, hO, hzr, hU⟩ := (hJ _ _).1 hJ2
    simp [hf, hwr]
    exact ⟨q - 1, by omega, (hI _ _ _).2 ⟨r + 1, o, zs, by omega, by simp, hm2, hO, hzr, hU⟩⟩
  obtain ⟨I1, hI1⟩ : ∃ I : Nat → AFrame → AMem → Prop, ∀ q f m', I q f m' ↔ (∃ k : Nat, k + q = rk.length ∧ f = h99_1 rs t o (.int .i64 r) (.int .i64 k) ∧ m1 <+: m' ∧ ∀ y ∈ ms, y < k → rk.getD y 0 ≠ r) := ⟨_, fun _ _ _ => Iff.rfl⟩
  refine W_loop I1 rk.length ((hI1 _ _ _).2 ⟨0, by simp, by simp, List.prefix_refl _, fun _ _ h => by omega⟩) ?_
  rintro q1 f m2 hIn
  obtain ⟨k, hk, rfl, hm2, hne⟩ := (hI1 _ _ _).1 hIn
  clear hIn
  have hm02 := hm1.trans hm2
  simp [hlr0]
  refine bbind_dec (fun hkl => ?_) fun hkl => ?_
  rotate_left
  · simp
    exact (hJ _ _).2 ⟨o, zs, by simp, hm02, hO.mono hm2, by omega, hU.skip fun y hy => hne y hy (by have := (hms y hy).1; omega)⟩
  have hkl : k < rk.length := by omega
  have hwk := step64 hkl (by omega)
  obtain ⟨q1, rfl⟩ : ∃ q', q1 = q' + 1 := ⟨q1 - 1, by omega⟩
  obtain ⟨bk, ok, g1, g2⟩ := ranksAt hr (x := k) hkl
  have g2' := g2 m2 hm02
  obtain ⟨dk, hdk⟩ : ∃ d, rk.getD k 0 = d := ⟨_, rfl⟩
  rw [hdk] at g2'
  clear g2
  simp [g1, g2']
  by_cases hrk : dk = r
  rotate_left
  · have hrk' : ¬ (dk : Int) = r := by omega
    simp [bneT hrk', hwk]
    refine ⟨q1, by omega, (hI1 _ _ _).2 ⟨k + 1, by omega, by simp, hm2, fun y hy hyk => ?_⟩⟩
    by_cases he : y = k
    · subst he; rw [hdk]; exact hrk
    · exact hne y hy (by omega)
  subst hrk
  simp
  obtain ⟨J2, hJ2⟩ : ∃ J : AFrame → AMem → Prop, ∀ f m', J f m' ↔ (f.forget [0, 1, 5, 6, 7, 8] = mat 49 [(0, rs), (1, t), (5, o), (6, .int .i64 dk), (7, .int .i64 k), (8, .bool (decide (k ∈ ms)))] ∧ m2 <+: m') := ⟨_, fun _ _ => Iff.rfl⟩
  refine W_JB J2 ?_ ?_
  · obtain ⟨I2, hI2⟩ : ∃ I : Nat → AFrame → AMem → Prop, ∀ q f m', I q f m' ↔ (∃ i : Nat, i + q = ms.length ∧ f = h99_2 rs t o (.int .i64 dk) (.int .i64 k) (.bool (decide (k ∈ ms.take i))) (.int .i64 i) ∧ m2 <+: m') := ⟨_, fun _ _ _ => Iff.rfl⟩
    refine W_loop I2 ms.length ((hI2 _ _ _).2 ⟨0, by simp, by simp, List.prefix_refl _⟩) ?_
    rintro q2 f m3 hIn
    obtain ⟨i, hi, rfl, hm3⟩ := (hI2 _ _ _).1 hIn
    clear hIn
    simp [hlt0]
    refine bbind_dec (fun hil => ?_) fun hil => ?_
    · have hil : i < ms.length := by omega
      have hwi := step64 hil (by omega)
      obtain ⟨q2, rfl⟩ : ∃ q', q2 = q' + 1 := ⟨q2 - 1, by omega⟩
      obtain ⟨bi, oi, gi1, gi2⟩ := (ht.mono (hm02.trans hm3)).at (i := i) (by simpa using hil)
      simp at gi2
      have htk : decide (k ∈ ms.take (i + 1)) = (decide (k ∈ ms.take i) || decide ((ms[i] : Nat) = k)) := by
        rw [List.take_add_one, List.getElem?_eq_getElem hil, Bool.eq_iff_iff, decide_eq_true_iff, Bool.or_eq_true, decide_eq_true_iff, decide_eq_true_iff, List.mem_append]
        simp only [Option.toList, List.mem_singleton]
        exact ⟨fun h => h.imp id Eq.symm, fun h => h.imp id Eq.symm⟩
      by_cases hin : k ∈ ms.take i
      · simp [hin, hwi]
        refine ⟨q2, by omega, (hI2 _ _ _).2 ⟨i + 1, by omega, ?_, hm3⟩⟩
        rw [htk]
        simp [hin]
      · have hcast : (((ms[i] : Nat) : Int) == (k : Int)) = decide ((ms[i] : Nat) = k) := by
          rw [Bool.eq_iff_iff, decide_eq_true_iff]; simp; omega
        simp [hin, gi1, gi2, hcast, hwi]
        refine ⟨q2, by omega, (hI2 _ _ _).2 ⟨i + 1, by omega, ?_, hm3⟩⟩
        rw [htk]
        simp [hin]
    · have : i = ms.length := by omega
      subst this
      simp
      exact (hJ2 _ _).2 ⟨by simp, hm3⟩
  · intro f m3 hJ3
    obtain ⟨hf, hm3⟩ := (hJ2 _ _).1 hJ3
    clear hJ3 hJ2
    have hm03 := hm02.trans hm3
    simp [hf]
    by_cases hin : k ∈ ms
    · have hm3A : m3 <+: m3 ++ [.own [.int .i64 (k : Nat)] 3 none] := List.prefix_append _ _
      have hlo : m.length ≤ (m3 ++ [ABlk.own [.int .i64 ((k : Nat) : Int)] 3 none]).length := by have := hm03.length_le; simp; omega
      obtain ⟨o', m4, happ, hch4, hO4, hbl⟩ := ((hO.mono (hm2.trans hm3)).mono hm3A).push hlo (by_ := 8) (by decide) k (by omega)
      simp only [natI] at happ
      simp [hin, fillA, setN, happ]
      exact (hJ _ _).2 ⟨o', zs ++ [k], by simp, hch4.pre (hm03.trans hm3A) fun b hb e => by have := (hO.blk_lo e).1; omega, hO4, by simp; omega, hU.take hin hdk fun y hy he => by
        rcases Nat.lt_or_ge y k with h | h
        · exact absurd he (hne y hy h)
        · exact h⟩
    · simp [hin, hwk]
      refine ⟨q1, by omega, (hI1 _ _ _).2 ⟨k + 1, by omega, by simp, hm2.trans hm3, fun y hy hyk => ?_⟩⟩
      by_cases he : y = k
      · subst he; exact absurd hy hin
      · exact hne y hy (by omega)
end Go.Proofs.YtheadodblifklaaGreat

namespace Go.Proofs.YtheadodblifklaaGreat
open Go Ax
open Relation
set_option maxRecDepth 100000
theorem rlAt {m : AMem} {r : AVal} {l : List Md} (h : RInts m r ((Rl l (l.length + 1)).map fun z : Nat => (z : Int))) {j : Nat} (hj : j < l.length) : ∃ b o, (∀ k, iaddrE 1 r (.int k (j : Nat)) = some (.ptr b o)) ∧ ∀ m', m <+: m' → loadE m' 1 false (.ptr b o) = some (.int .i64 (RR l j : Nat)) := by
  obtain ⟨b, o, h1, h2⟩ := h.at (i := j) (by simp [Rl_length]; omega)
  have hg : (Rl l (l.length + 1))[j]? = some (RR l j) := Rl_get _ _ hj
  have hg2 : (Rl l (l.length + 1))[j]'(by rw [Rl_length]; omega) = RR l j := by
    have := List.getElem?_eq_getElem (l := Rl l (l.length + 1)) (i := j) (by rw [Rl_length]; omega)
    rw [hg] at this; simpa using this.symm
  refine ⟨b, o, h1, fun m' hm' => ?_⟩
  rw [loadE_mono hm' h2]
  simp only [List.getElem_map, hg2]
theorem k64 (s : AVal) (l : List Md) (i : Nat) (hi : i < l.length) (m : AMem) (hs : RTab m s l) (hsz : ∀ x ∈ l, smallN x) (hc : checkI l = 0) :
    ACalls Tryz.prog 64 [s, .int .i64 i] m fun v m' => m <+: m' ∧ ∃ b, v = .bool b ∧ (b = true ↔ FlexP l i) := by
  refine w64 ?_
  have ok := okT_of hc
  simp
  refine C_of (k70 s l m hs hsz (by have := ok.len; omega)) ?_
  rintro _ m1 ⟨rfl, hm1⟩
  have hil : (i : Int) < l.length := by omega
  have hl1 := (hs.mono hm1).len
  have hle : (l.length : Int) ≤ 281474976710656 := by have := ok.len; omega
  have hle2 : (l.length : Int) ≤ 9223372036854775807 := by omega
  simp [hc, hl1, hil, hle, hle2]
  have hN := OwL.rep (f := AVal.bool) m1 4 l.length false
  have hm12 : m1 <+: m1 ++ [.own (List.replicate l.length (AVal.bool false)) 4 none] := List.prefix_append _ _
  have hlo := hm12.length_le
  generalize m1 ++ [.own (List.replicate l.length (AVal.bool false)) 4 none] = m2 at *
  refine C_of (k105 s l m hs ok.good ok.acy ok.len hsz m1.length hm1.length_le _ (hgt l i + 1) i hi (by omega) m2 (List.replicate l.length false) (hm1.trans hm12) hN (by simp) (fun j h => by
    rw [List.getElem?_replicate] at h
    split at h <;> simp at h)) ?_
  rintro _ m3 ⟨hm3, ⟨b, rfl, hb⟩, _⟩
  simp
  refine ⟨hm3, ?_⟩
  cases b
  · exact .inl ⟨rfl, fun h => by have := hb.2 h; cases this⟩
  · exact .inr ⟨rfl, hb.1 rfl⟩
theorem part_nflex {l : List Md} (hc : checkI l = 0) {u j : Nat} (h : IsPart l u j) : ¬ FlexP l j := by
  have key : ∀ x ∈ l, flexOf x = true → ∀ e ∈ x.elems, ¬ FlexP l e.toNat := by
    unfold checkI at hc
    split at hc
    · omega
    · split at hc
      · rename_i h1 h2; exact absurd hc h2
      · split at hc
        · omega
        · split at hc
          · omega
          · split at hc
            · omega
            · rename_i h5
              intro x hx hf e he hp
              exact h5 ⟨x, hx, hf, e, he, hp⟩
  have last : ∃ z, stepR l isU z j := by
    have := h.1
    cases this with
    | single h => exact ⟨_, h⟩
    | tail _ h => exact ⟨_, h⟩
  obtain ⟨z, x, h1, h2, h3⟩ := last
  have := key x (List.mem_of_getElem? h1) (by unfold isU at h2; unfold flexOf; simp at h2 ⊢; omega) _ h3
  simpa using this
theorem base_nflex {l : List Md} (hc : checkI l = 0) {u j : Nat} (hu : isU (mdAt l u) = true) (h : IsBase l u j) : ¬ FlexP l j := by
  unfold IsBase at h
  rw [if_pos hu] at h
  exact part_nflex hc h
end Go.Proofs.YtheadodblifklaaGreat

namespace Go.Proofs.YtheadodblifklaaGreat
open Go Ax
set_option maxRecDepth 100000
open Classical in
noncomputable def allI (l : List Md) (ms : List Nat) : List Nat := (SortedBy.ex (RR l) (ms.flatMap (basesOf l))).choose
theorem allI_sorted (l : List Md) (ms : List Nat) : SortedBy (RR l) (ms.flatMap (basesOf l)) (allI l ms) := (SortedBy.ex (RR l) (ms.flatMap (basesOf l))).choose_spec
open Classical in
noncomputable def joinsI (l : List Md) (ms : List Int) : List Md × Int × Int :=
  if rightI l ms ≠ 0 then ([], 0, rightI l ms)
  else if ms.length = 0 then ([], 0, 12)
  else if (ms.any fun x => decide (FlexP l x.toNat)) = true then ([], 0, 7)
  else ofI l (allI l (ms.map Int.toNat))
theorem rightA {l : List Md} {ms : List Int} (h : rightI l ms = 0) : checkI l = 0 ∧ ∃ ns : List Nat, ms = ns.map (fun z : Nat => (z : Int)) ∧ ∀ z ∈ ns, z < l.length := by
  unfold rightI at h
  split at h
  · omega
  · rename_i hc
    have hc : checkI l = 0 := Decidable.of_not_not hc
    split at h
    · omega
    · rename_i ha
      have ha' : ∀ x ∈ ms, 0 ≤ x ∧ x < l.length := fun x hx => by
        have := List.any_eq_false.1 (Bool.not_eq_true _ ▸ ha) x hx
        simp [outB] at this
        omega
      refine ⟨hc, ms.map Int.toNat, ?_, fun z hz => ?_⟩
      · rw [List.map_map]
        have : ∀ x ∈ ms, ((fun z : Nat => (z : Int)) ∘ Int.toNat) x = id x := fun x hx => by
          have := ha' x hx
          simp
          omega
        rw [List.map_congr_left this, List.map_id]
      · obtain ⟨x, hx, rfl⟩ := List.mem_map.1 hz
        have := ha' x hx
        omega
theorem allI_eq {l : List Md} (hg : goodT l) {r : Nat → Nat} (hr : SameOrd l.length r (RR l)) {ms O zs : List Nat} (hm : ∀ x ∈ ms, x < l.length) (hO : ∀ j, j ∈ O ↔ ∃ x ∈ ms, IsBase l x j) (hs : SortedBy r O zs) : zs = allI l ms := by
  have hOl : ∀ j ∈ O, j < l.length := fun j hj => by
    obtain ⟨x, hx, hb⟩ := (hO j).1 hj
    exact hb.lt hg (hm x hx)
  have hsR := hs.congrO (n := l.length) hOl hr
  have ha := allI_sorted l ms
  refine hsR.unique (ms' := O) (zs' := allI l ms) ⟨ha.asc, fun z hz => ?_, fun y hy => ?_⟩ fun v => Iff.rfl
  · obtain ⟨x, hx, hzx⟩ := List.mem_flatMap.1 (ha.sub z hz)
    exact (hO z).2 ⟨x, hx, basesOf_sub hg (hm x hx) hzx⟩
  · obtain ⟨x, hx, hb⟩ := (hO y).1 hy
    obtain ⟨w, hw, h1, h2⟩ : ∃ w ∈ basesOf l x, RR l w = RR l y ∧ w ≤ y := by
      have hB := basesEx hg (hm x hx)
      unfold IsBase at hb
      cases hu : isU (mdAt l x)
      · rw [hu, if_neg (by simp)] at hb
        exact ⟨x, by rw [hB.el hu]; simp, by rw [hb], by omega⟩
      · rw [hu, if_pos rfl] at hb
        obtain ⟨P, h3, h4⟩ := hB.un hu
        exact h4.cov y ((h3 y).2 hb)
    obtain ⟨z, h3, h4, h5⟩ := ha.cov w (List.mem_flatMap.2 ⟨x, hx, hw⟩)
    exact ⟨z, h3, by omega, by omega⟩
theorem allI_sub {l : List Md} (hg : goodT l) {ms : List Nat} (hm : ∀ x ∈ ms, x < l.length) {z : Nat} (hz : z ∈ allI l ms) : ∃ x ∈ ms, IsBase l x z := by
  obtain ⟨x, hx, hzx⟩ := List.mem_flatMap.1 ((allI_sorted l ms).sub z hz)
  exact ⟨x, hx, basesOf_sub hg (hm x hx) hzx⟩
theorem allI_len {l : List Md} (hg : goodT l) {ms : List Nat} (hm : ∀ x ∈ ms, x < l.length) : (allI l ms).length ≤ l.length :=
  nodup_le l.length _ ((allI_sorted l ms).asc.imp fun hab => by intro e; subst e; omega) fun z hz => by
    obtain ⟨x, hx, hb⟩ := allI_sub hg hm hz
    exact hb.lt hg (hm x hx)
open Classical in
theorem k63 (s : AVal) (l : List Md) (i : Nat) (hi : i < l.length) (m : AMem) (hs : RTab m s l) (hsz : ∀ x ∈ l, smallN x) (hc : checkI l = 0) :
    ACalls Tryz.prog 63 [s, .int .i64 i] m fun v m' => v = .bool (decide (FlexP l i)) ∧ m <+: m' := by
  refine w63 ?_
  have ok := okT_of hc
  simp
  refine C_of (k49 s l m hs hsz (by have := ok.len; omega)) ?_
  rintro _ m1 ⟨rfl, hm1⟩
  have hil : (i : Int) < l.length := by omega
  simp [hc]
  refine C_of (k104 s l i m1 (hs.mono hm1)) ?_
  rintro _ m1 ⟨rfl, rfl⟩
  simp [hil]
  refine C_of (k86 s l m1 (hs.mono hm1) ok.good ok.acy ok.len hsz) ?_
  rintro v m2 ⟨hm2, O, hO, hOl, hOf⟩
  obtain ⟨b, o, _, h1, h2, _⟩ := hO.at (i := i) (by omega)
  simp [h1, h2]
  refine ⟨?_, hm1.trans hm2⟩
  have := hOf i
  rw [List.getElem?_eq_getElem (by omega)] at this
  by_cases hf : FlexP l i
  · have := this.2 ⟨hi, hf⟩
    simp at this
    simp [this, hf]
  · have h3 : ¬ O[i] = true := fun h => hf (this.1 (by rw [h])).2
    simp at h3
    simp [h3, hf]
open Classical in
theorem k62 (s : AVal) (l : List Md) (i b : Nat) (hi : i < l.length) (m : AMem) (hs : RTab m s l) (hb : readB m b = some [s]) (hsz : ∀ x ∈ l, smallN x) (hc : checkI l = 0) :
    ACalls Tryz.prog 62 [.int .i64 i, .ptr b 0] m fun v m' => v = .bool (decide (FlexP l i)) ∧ m <+: m' := by
  refine w62 ?_
  have h1 := bx hb 0
  simp at h1
  simp [h1]
  refine C_of (k63 s l i hi m hs hsz hc) ?_
  rintro _ m1 ⟨rfl, hm1⟩
  simp
  exact hm1
set_option maxHeartbeats 8000000 in
open Classical in
theorem k28 (s t : AVal) (l : List Md) (ms : List Int) (m : AMem) (hs : RTab m s l) (ht : RInts m t ms) (hsz : ∀ x ∈ l, smallN x) (h40 : ∀ y ∈ l, y.elems.length < 2 ^ 40 ∧ y.names.length < 2 ^ 40) (hn : l.length < 13) (hm8 : ms.length ≤ 8) :
    ACalls Tryz.prog 28 [s, t] m fun w m' => m <+: m' ∧ ∃ t', w = .tuple [t', .int .i64 (joinsI l ms).2.1, .int .i64 (joinsI l ms).2.2] ∧ RTab m' t' (joinsI l ms).1 := by
  refine w28 ?_
  obtain ⟨hsl, hsc⟩ := hs.self
  simp [hsl, hsc]
  have hb1 := readB_new m [s] 22 none
  have hm1 : m <+: m ++ [.own [s] 22 none] := List.prefix_append _ _
  generalize m ++ [.own [s] 22 none] = m1 at *
  generalize m.length = b1 at *
  refine C_of (k35 s t l ms m1 (hs.mono hm1) (ht.mono hm1) hsz (fun x hx => (h40 x hx).2) (by omega) (by omega)) ?_
  rintro _ m2 ⟨hm2, ⟨hr, rfl⟩ | ⟨hr, ro, ds, k, rfl, hX, hD⟩⟩
  · simp
    rw [tabBox _ _ _ rfl rfl]
    have hm3 : m2 <+: m2 ++ [.own [.nilslice, .nilslice] 53 none] := List.prefix_append _ _
    generalize m2 ++ [.own [.nilslice, .nilslice] 53 none] = m3 at *
    have hW : joinsI l ms = ([], 0, rightI l ms) := by unfold joinsI; rw [if_pos hr]
    simp [bneT hr, hW]
    exact ⟨(hm1.trans hm2).trans hm3, RTab.nil0 _⟩
  obtain ⟨hc, ns, rfl, hns⟩ := rightA hr
  have ok := okT_of hc
  have hrs := (Ow.sl hX).self
  have hso := dense_same hD
  have hW : joinsI l (ns.map fun z : Nat => (z : Int)) = if ns.length = 0 then ([], 0, 12) else if (ns.any fun x => decide (FlexP l x)) = true then ([], 0, 7) else ofI l (allI l ns) := by
    unfold joinsI
    rw [if_neg (by simp [hr]), List.length_map, List.any_map, List.map_map]
    have : (Int.toNat ∘ fun z : Nat => (z : Int)) = id := rfl
    rw [this, List.map_id]
    rfl
  rw [List.length_map] at hm8
  simp
  rw [tabBox _ _ _ hsl hrs.1]
  have hb8 := readB_new m2 [s, ro] 53 none
  have hm3 : m2 <+: m2 ++ [.own [s, ro] 53 none] := List.prefix_append _ _
  generalize m2 ++ [.own [s, ro] 53 none] = m3 at *
  generalize m2.length = b8 at *
  have hm13 := hm2.trans hm3
  have hm03 := hm1.trans hm13
  have hRo := (ints_of_nat hX).mono hm3
  have htl : ∀ m', m <+: m' → lenE t = some (.int .i64 ns.length) := fun m' h => by have := (ht.mono h).len; rw [List.length_map] at this; exact this
  have htl0 := htl m (List.prefix_refl _)
  simp [htl0]
  by_cases h0 : ns.length = 0
  · rw [if_pos h0] at hW
    simp [h0, hW]
    exact ⟨hm03, RTab.nil0 _⟩
  rw [if_neg h0] at hW
  have h0' : ¬ (ns.length : Int) = 0 := by omega
  simp [beqF h0']
  refine C_of (k47 t (ns.map fun z : Nat => (z : Int)) (fun x => decide (FlexP l x.toNat)) m3 (ht.mono hm03) (by simp; omega) 62 [] [.ptr b1 0] ?_) ?_
  · intro x hx m' hm'
    obtain ⟨z, hz, rfl⟩ := List.mem_map.1 hx
    exact k62 s l z b1 (hns z hz) m' (hs.mono (hm03.trans hm')) (readB_mono (hm13.trans hm') hb1) hsz hc
  rintro _ m4 ⟨rfl, hm4⟩
  have hany : ((ns.map fun z : Nat => (z : Int)).any fun x => decide (FlexP l x.toNat)) = ns.any fun x => decide (FlexP l x) := by
    rw [List.any_map]; rfl
  rw [hany]
  simp
  cases hfx : ns.any fun x => decide (FlexP l x)
  rotate_left
  · rw [if_pos hfx] at hW
    simp [hW]
    exact ⟨hm03.trans hm4, RTab.nil0 _⟩
  rw [if_neg (by rw [hfx]; simp)] at hW
  have hm04 := hm03.trans hm4
  have hb84 := readB_mono hm4 hb8
  simp [htl0]
  obtain ⟨J, hJ⟩ : ∃ J : AFrame → AMem → Prop, ∀ f m', J f m' ↔ (∃ (o : AVal) (O : List Nat), f.forget [7, 9] = mat 53 [(7, .ptr b8 0), (9, o)] ∧ m4 <+: m' ∧ OwL natI m4.length m' 3 o O ∧ O.length ≤ 8 * 13 ∧ ∀ j, j ∈ O ↔ ∃ x ∈ ns, IsBase l x j) := ⟨_, fun _ _ => Iff.rfl⟩
  refine W_JB J ?_ ?_
  · obtain ⟨I, hI⟩ : ∃ I : Nat → AFrame → AMem → Prop, ∀ q f m', I q f m' ↔ (∃ (k : Nat) (o : AVal) (O : List Nat), k + q = ns.length ∧ f = h28_0 (.ptr b8 0) o t (.int .i64 ns.length) (.int .i64 k) ∧ m4 <+: m' ∧ OwL natI m4.length m' 3 o O ∧ O.length ≤ k * 13 ∧ ∀ j, j ∈ O ↔ ∃ x ∈ ns.take k, IsBase l x j) := ⟨_, fun _ _ _ => Iff.rfl⟩
    refine W_loop I ns.length ((hI _ _ _).2 ⟨0, .nilslice, [], by simp, by simp, List.prefix_refl _, OwL.nil, by simp, by simp⟩) ?_
    rintro q f m5 hIn
    obtain ⟨k, o, O, hq, rfl, hm5, hO, hOl, hOm⟩ := (hI _ _ _).1 hIn
    clear hIn
    simp
    refine bbind_dec (fun hkl => ?_) fun hkl => ?_
    · have hw := step64 hkl (by omega)
      obtain ⟨b1', o1, g1, g2⟩ := (ht.mono (hm04.trans hm5)).at (i := k) (by simpa using hkl)
      simp at g2
      have hxk := hns _ (List.getElem_mem hkl)
      simp [g1, g2, bxW (readB_mono hm5 hb84), readN]
      refine C_of (k44 s ro o l O m4.length ns[k] hxk m m5 hs (hm04.trans hm5) hm04.length_le hrs hm5.length_le hO ok.good ok.len ok.h64 (by omega)) ?_
      rintro v m6 ⟨hc6, P, hP, hPn, hPm, _⟩
      have hPl := nodup_le l.length P hPn fun z hz => ((hPm z).1 hz).lt ok.good hxk
      simp [hw]
      refine ⟨q - 1, by omega, (hI _ _ _).2 ⟨k + 1, v, O ++ P, by omega, by simp, hc6.pre hm5 fun b hb e => by have := (hO.blk_lo e).1; omega, hP, by rw [List.length_append]; omega, fun j => ?_⟩⟩
      rw [List.mem_append, hOm, hPm, List.take_add_one, List.getElem?_eq_getElem hkl]
      constructor
      · rintro (⟨x, h1, h2⟩ | h)
        · exact ⟨x, List.mem_append_left _ h1, h2⟩
        · exact ⟨ns[k], List.mem_append_right _ (List.mem_singleton.2 rfl), h⟩
      · rintro ⟨x, h1, h2⟩
        rcases List.mem_append.1 h1 with h1 | h1
        · exact .inl ⟨x, h1, h2⟩
        · simp at h1
          subst h1
          exact .inr h2
    · have hkl : k = ns.length := by omega
      subst hkl
      rw [List.take_length] at hOm
      simp
      exact (hJ _ _).2 ⟨o, O, by simp, hm5, hO, by omega, hOm⟩
  intro f m5 hJ2
  obtain ⟨o, O, hf, hm5, hO, hOl, hOm⟩ := (hJ _ _).1 hJ2
  clear hJ2 hJ
  have hm05 := hm04.trans hm5
  have hR5 := hRo.mono (hm4.trans hm5)
  simp [hf, bxW (readB_mono hm5 hb84), readN]
  refine C_of (k43g s ro o l ds O m5 (hs.mono hm05) hR5 (ints_of_nat hO) (by omega) (fun z hz => by
    obtain ⟨x, h1, h2⟩ := (hOm z).1 hz
    rw [hD.len]
    exact h2.lt ok.good (hns x h1))) ?_
  rintro v m6 ⟨hm6, zs, hZ, hsb⟩
  obtain rfl := allI_eq ok.good hso hns hOm hsb
  have hal := allI_len ok.good hns
  have hzl : ∀ z ∈ allI l ns, z < l.length := fun z hz => by
    obtain ⟨x, h1, h2⟩ := allI_sub ok.good hns hz
    exact h2.lt ok.good (hns x h1)
  have hlZ := hZ.len
  generalize allI l ns = zs at *
  have h64 : ¬ (64 : Int) < zs.length := by omega
  simp [hlZ, h64, bxW (readB_mono (hm5.trans hm6) hb84), readN]
  refine C_of (k56 s ro v l ds zs k m6 (hs.mono (hm05.trans hm6)) (hR5.mono hm6) hD (ints_of_nat hZ) hzl (by omega) hsz h40 hn) ?_
  rintro _ m7 ⟨hm7, t', rfl, hT⟩
  simp [hW]
  exact ⟨(hm05.trans hm6).trans hm7, hT⟩
end Go.Proofs.YtheadodblifklaaGreat

namespace Go.Proofs.YtheadodblifklaaGreat
open Go Ax
set_option maxRecDepth 100000
open Classical in
noncomputable def sameB (l : List Md) (ys zs : List Nat) : Bool := decide (ys.length = zs.length ∧ ∀ (k : Nat) (y z : Nat), ys[k]? = some y → zs[k]? = some z → RR l y = RR l z)
noncomputable def leastI (l : List Md) (p : Nat) : Int := fidx (fun i => RR l i == RR l p) 0 l.length
noncomputable def joinI (l : List Md) (all ps : List Nat) : List Md × Int × Int :=
  if all.length = 1 then (l, leastI l (all.getD 0 0), 0)
  else match ps.find? (fun p => isU (mdAt l p) && sameB l (basesOf l p) all) with
    | some p => (l, leastI l p, 0)
    | none => putI l (unionOf all)
theorem find_at {α : Type} {q : α → Bool} : ∀ {ps : List α} {i : Nat} {p : α}, ps[i]? = some p → q p = true → (∀ (j : Nat) y, j < i → ps[j]? = some y → q y = false) → ps.find? q = some p
  | [], i, p, h, _, _ => by simp at h
  | y :: ps, 0, p, h, hq, _ => by simp at h; subst h; simp [hq]
  | y :: ps, i + 1, p, h, hq, hn => by
    have h0 := hn 0 y (by omega) rfl
    rw [List.find?_cons, h0]
    exact find_at (by simpa using h) hq fun j z hj hz => hn (j + 1) z (by omega) (by simpa using hz)
set_option maxHeartbeats 8000000 in
open Classical in
theorem k57 (s t tp : AVal) (l : List Md) (ms ps : List Nat) (m : AMem) (hs : RTab m s l) (ht : RInts m t (ms.map fun z : Nat => (z : Int))) (hp : RInts m tp (ps.map fun z : Nat => (z : Int))) (hc : checkI l = 0) (hms : ∀ y ∈ ms, y < l.length) (hmf : ∀ y ∈ ms, ¬ FlexP l y) (hps : ∀ y ∈ ps, y < l.length) (hsz : ∀ y ∈ l, smallN y) (h40 : ∀ y ∈ l, y.elems.length < 2 ^ 40 ∧ y.names.length < 2 ^ 40) (hn : l.length ≤ 60) (hml : ms.length < 2 ^ 30) (hpl : ps.length < 2 ^ 30) :
    ACalls Tryz.prog 57 [s, t, tp] m fun v m' => m <+: m' ∧ ∃ t' all, SortedBy (RR l) ms all ∧ v = .tuple [t', .int .i64 (joinI l all ps).2.1, .int .i64 (joinI l all ps).2.2] ∧ RTab m' t' (joinI l all ps).1 := by
  have ok := okT_of hc
  refine w57 ?_
  simp
  refine C_of (k39 s l m hs ok.good ok.len hsz ok.h64 ok.names) ?_
  rintro v9 m1 ⟨hm1, hR⟩
  have hRi := ints_of_nat hR
  have hrl := Rl_length l (l.length + 1)
  simp
  refine C_of (k99 v9 t (Rl l (l.length + 1)) ms m1 hRi (ht.mono hm1) (fun y hy => ?_) (by rw [hrl]; omega) hml) ?_
  · rw [hrl]
    refine ⟨hms y hy, ?_⟩
    rw [Rl_getD l _ (hms y hy)]
    exact R_bound l _ (hms y hy)
  rintro v10 m2 ⟨hm2, all, hA, hsb⟩
  have hsb' : SortedBy (RR l) ms all := hsb.congr (n := l.length) hms (fun x hx => Rl_getD l _ hx)
  have hall : ∀ z ∈ all, z < l.length := fun z hz => hms z (hsb'.sub z hz)
  have halln : all.length ≤ l.length := nodup_le l.length all (hsb'.asc.imp fun hab => by intro e; subst e; omega) hall
  have hm02 := hm1.trans hm2
  have hAi := ints_of_nat hA
  have hAl := hA.len
  have hR2 := hRi.mono hm2
  simp [hAl]
  by_cases h1 : all.length = 1
  · have hz0 : all.getD 0 0 = all[0] := by simp [List.getD, h1]
    have hj : joinI l all ps = (l, leastI l all[0], 0) := by unfold joinI; rw [if_pos h1, hz0]
    obtain ⟨bt, ot, g1, g2⟩ := hAi.at (i := 0) (by simp; omega)
    simp at g2
    have g1' := g1 .i64
    simp at g1'
    simp [h1, g1', g2]
    refine C_of (k100 s v9 l all[0] (hall _ (List.getElem_mem _)) m2 (hs.mono hm02) (.inr hR2) h40 (by omega)) ?_
    rintro _ m3 ⟨hm3, t', rfl, hT⟩
    simp
    refine ⟨hm02.trans hm3, t', all, hsb', ?_, ?_⟩
    · rw [hj]; simp [leastI]
    · rw [hj]; exact hT
  have h1' : ¬ (all.length : Int) = 1 := by omega
  have hj : joinI l all ps = match ps.find? (fun p => isU (mdAt l p) && sameB l (basesOf l p) all) with
      | some p => (l, leastI l p, 0)
      | none => putI l (unionOf all) := by
    unfold joinI
    rw [if_neg h1]
  simp [beqF h1']
  obtain ⟨J, hJ⟩ : ∃ J : AFrame → AMem → Prop, ∀ f m', J f m' ↔ (f.forget [0, 10] = mat 116 [(0, s), (10, v10)] ∧ m2 <+: m' ∧ ps.find? (fun p => isU (mdAt l p) && sameB l (basesOf l p) all) = none) := ⟨_, fun _ _ => Iff.rfl⟩
  refine W_JB J ?_ ?_
  · obtain ⟨I, hI⟩ : ∃ I : Nat → AFrame → AMem → Prop, ∀ q f m', I q f m' ↔ (∃ i : Nat, i + q = ps.length ∧ f = h57_0 s tp v9 v10 (.int .i64 i) ∧ m2 <+: m' ∧ ∀ (j : Nat) p, j < i → ps[j]? = some p → (isU (mdAt l p) && sameB l (basesOf l p) all) = false) := ⟨_, fun _ _ _ => Iff.rfl⟩
    refine W_loop I ps.length ((hI _ _ _).2 ⟨0, by simp, by simp, List.prefix_refl _, fun _ _ h => by omega⟩) ?_
    rintro q f m3 hIn
    obtain ⟨i, hi, rfl, hm3, hno⟩ := (hI _ _ _).1 hIn
    clear hIn
    have hm03 := hm02.trans hm3
    have hpln := (hp.mono hm03).len
    rw [List.length_map] at hpln
    simp [hpln]
    refine bbind_dec (fun hil => ?_) fun hil => ?_
    rotate_left
    · simp
      refine (hJ _ _).2 ⟨by simp, hm3, List.find?_eq_none.2 fun p hpm => ?_⟩
      obtain ⟨j, hj', rfl⟩ := List.getElem_of_mem hpm
      have := hno j _ (by omega) (List.getElem?_eq_getElem hj')
      rw [this]
      simp
    have hil : i < ps.length := by omega
    have hw := step64 hil (by omega)
    obtain ⟨q, rfl⟩ : ∃ q', q = q' + 1 := ⟨q - 1, by omega⟩
    obtain ⟨bp, op, gp1, gp2⟩ := (hp.mono hm03).at (i := i) (by simpa using hil)
    simp at gp2
    have hpi : ps[i]? = some ps[i] := List.getElem?_eq_getElem hil
    have hpl' := hps _ (List.getElem_mem hil)
    generalize ps[i] = p at *
    obtain ⟨bx', ox, ex, gx1, gx2, _⟩ := hs.elems hpl'
    have gk := (gx2 m3 hm03).1
    have next : ∀ m4, m3 <+: m4 → (isU (mdAt l p) && sameB l (basesOf l p) all) = false → I q (h57_0 s tp v9 v10 (.int .i64 ((i : Int) + 1))) m4 := fun m4 hm4 hf => (hI _ _ _).2 ⟨i + 1, by omega, by simp, hm3.trans hm4, fun j y hj' hy => by
      by_cases hji : j = i
      · subst hji; rw [hpi] at hy; cases hy; exact hf
      · exact hno j y (by omega) hy⟩
    simp [gp1, gp2, gx1, gk]
    by_cases hk : l[p].kind = 12
    rotate_left
    · have hu : isU (mdAt l p) = false := by rw [mdAt_eq hpl']; simpa [isU] using hk
      have := next m3 (List.prefix_refl _) (by rw [hu]; rfl)
      simp [bneT hk, hw]
      exact ⟨q, by omega, by simpa using this⟩
    have hu : isU (mdAt l p) = true := by rw [mdAt_eq hpl']; simpa [isU] using hk
    simp [hk, gp1, gp2]
    refine C_of (k40 s l p m3 (hs.mono hm03) hsz hc hpl') ?_
    rintro v12 m4 ⟨hm4, ys, hys, hby⟩
    have hyl := hby.length ok.good hpl'
    have hyb := hby.lt ok.good hpl'
    obtain rfl := hby.eq
    rw [hu, Bool.true_and] at next
    have hfind : sameB l (basesOf l p) all = true → ps.find? (fun p => isU (mdAt l p) && sameB l (basesOf l p) all) = some p := fun h => find_at hpi (by rw [hu, h]; rfl) hno
    generalize basesOf l p = ys at *
    have hYi := ints_of_nat hys
    have hYl := hys.len
    have hm24 := hm3.trans hm4
    simp [hYl, hAl]
    obtain ⟨S, hS⟩ : ∃ S : Nat → Prop, ∀ k, S k ↔ (ys.length = all.length ∧ ∀ (j : Nat) (y z : Nat), j < k → ys[j]? = some y → all[j]? = some z → RR l y = RR l z) := ⟨_, fun _ => Iff.rfl⟩
    have hS0 : ((ys.length : Int) == (all.length : Int)) = decide (S 0) := by
      rw [Bool.eq_iff_iff, decide_eq_true_iff, hS]
      simp
      omega
    have hSe : ∀ k, ys.length ≤ k → decide (S k) = sameB l ys all := fun k hk => by
      unfold sameB
      rw [decide_eq_decide, hS]
      exact ⟨fun h => ⟨h.1, fun j y z h1 h2 => h.2 j y z (by have := (List.getElem?_eq_some_iff.1 h1).1; omega) h1 h2⟩, fun h => ⟨h.1, fun j y z _ h1 h2 => h.2 j y z h1 h2⟩⟩
    have hSf : ∀ k, ¬ S k → sameB l ys all = false := fun k hk => by
      cases hb : sameB l ys all
      · rfl
      · unfold sameB at hb
        rw [decide_eq_true_iff] at hb
        exact absurd ((hS k).2 ⟨hb.1, fun j y z _ h1 h2 => hb.2 j y z h1 h2⟩) hk
    rw [hS0]
    obtain ⟨J2, hJ2⟩ : ∃ J : AFrame → AMem → Prop, ∀ f m', J f m' ↔ (f.forget [0, 2, 9, 10, 11, 13] = mat 116 [(0, s), (2, tp), (9, v9), (10, v10), (11, .int .i64 i), (13, .bool (sameB l ys all))] ∧ m4 <+: m') := ⟨_, fun _ _ => Iff.rfl⟩
    refine W_JB J2 ?_ ?_
    · obtain ⟨I2, hI2⟩ : ∃ I : Nat → AFrame → AMem → Prop, ∀ q f m', I q f m' ↔ (∃ k : Nat, k + q = ys.length ∧ f = h57_1 s tp v9 v10 (.int .i64 i) v12 (.bool (decide (S k))) (.int .i64 k) ∧ m4 <+: m') := ⟨_, fun _ _ _ => Iff.rfl⟩
      refine W_loop I2 ys.length ((hI2 _ _ _).2 ⟨0, by simp, by simp, List.prefix_refl _⟩) ?_
      rintro q2 f m5 hIn
      obtain ⟨k, hkq, rfl, hm5⟩ := (hI2 _ _ _).1 hIn
      clear hIn
      simp [hYl]
      by_cases hkl : k < ys.length
      · have hkl' : (k : Int) < ys.length := by omega
        by_cases hSk : S k
        · have hlen := ((hS k).1 hSk).1
          have hwk := step64 hkl (by omega)
          have hkz : k < all.length := by omega
          obtain ⟨by', oy, hy1, hy2⟩ := (hYi.mono hm5).at (i := k) (by simpa using hkl)
          obtain ⟨bz, oz, hz1, hz2⟩ := (hAi.mono (hm24.trans hm5)).at (i := k) (by simpa using hkz)
          simp at hy2 hz2
          have hyk : ys[k]? = some ys[k] := List.getElem?_eq_getElem hkl
          have hzk : all[k]? = some all[k] := List.getElem?_eq_getElem hkz
          have hyb' := hyb _ (List.getElem_mem hkl)
          have hzb' := hall _ (List.getElem_mem hkz)
          generalize ys[k] = y at *
          generalize all[k] = z at *
          obtain ⟨b3, o3, r1, r2⟩ := rlAt hR2 hyb'
          obtain ⟨b4, o4, r3, r4⟩ := rlAt hR2 hzb'
          have r2 := r2 m5 (hm24.trans hm5)
          have r4 := r4 m5 (hm24.trans hm5)
          have hnext : (((RR l y : Nat) : Int) == ((RR l z : Nat) : Int)) = decide (S (k + 1)) := by
            rw [Bool.eq_iff_iff, decide_eq_true_iff, hS]
            simp
            constructor
            · intro he
              refine ⟨hlen, fun j a b hj' h1 h2 => ?_⟩
              by_cases hjk : j = k
              · subst hjk; rw [hyk] at h1; rw [hzk] at h2; cases h1; cases h2; omega
              · exact ((hS k).1 hSk).2 j a b (by omega) h1 h2
            · intro h
              have := h.2 k y z (by omega) hyk hzk
              omega
          simp [hkl, hSk]
          refine W_drawPR (by simp [maxDst]) rfl rfl ?_
          simp [hy1, hy2, hz1, hz2, r1, r2, r3, r4, hnext, hwk]
          intro m6 hm6
          exact ⟨q2 - 1, by omega, (hI2 _ _ _).2 ⟨k + 1, by omega, by simp, hm5.trans hm6⟩⟩
        · simp [hkl, hSk]
          exact (hJ2 _ _).2 ⟨by simp [hSf k hSk], hm5⟩
      · have hkl' : ¬ (k : Int) < ys.length := by omega
        simp [hkl]
        exact (hJ2 _ _).2 ⟨by simp [hSe k (by omega)], hm5⟩
    · intro f m5 hJ5
      obtain ⟨hf, hm5⟩ := (hJ2 _ _).1 hJ5
      clear hJ5 hJ2
      have hm05 := (hm03.trans hm4).trans hm5
      simp [hf]
      cases hsm : sameB l ys all
      · have := next m5 (hm4.trans hm5) hsm
        simp [hw]
        exact ⟨q, by omega, by simpa using this⟩
      · rw [hfind hsm] at hj
        simp only at hj
        obtain ⟨bp2, op2, gq1, gq2⟩ := (hp.mono hm05).at (i := i) (by simpa using hil)
        have gq : loadE m5 1 false (.ptr bp op) = some (.int .i64 (p : Nat)) := loadE_mono (hm4.trans hm5) gp2
        simp [gp1, gq]
        refine C_of (k100 s v9 l p hpl' m5 (hs.mono hm05) (.inr (hR2.mono (hm24.trans hm5))) h40 (by omega)) ?_
        rintro _ m6 ⟨hm6, t', rfl, hT⟩
        simp
        refine ⟨hm05.trans hm6, t', all, hsb', ?_, ?_⟩
        · rw [hj]; simp [leastI]
        · rw [hj]; exact hT
  · intro f m3 hJ3
    obtain ⟨hf, hm3, hnone⟩ := (hJ _ _).1 hJ3
    clear hJ3 hJ
    rw [hnone] at hj
    simp only at hj
    simp [hf]
    obtain ⟨J3, hJ3⟩ : ∃ J : AFrame → AMem → Prop, ∀ f m', J f m' ↔ (f.forget [0, 10] = mat 116 [(0, s), (10, v10)] ∧ m2 <+: m') := ⟨_, fun _ _ => Iff.rfl⟩
    refine W_JB J3 ?_ ?_
    · obtain ⟨I, hI⟩ : ∃ I : Nat → AFrame → AMem → Prop, ∀ q f m', I q f m' ↔ (∃ i : Nat, i + q = all.length ∧ f = h57_2 s v10 (.int .i64 i) ∧ m2 <+: m') := ⟨_, fun _ _ _ => Iff.rfl⟩
      refine W_loop I all.length ((hI _ _ _).2 ⟨0, by simp, by simp, hm3⟩) ?_
      rintro q f m4 hIn
      obtain ⟨i, hi, rfl, hm4⟩ := (hI _ _ _).1 hIn
      clear hIn
      have hm04 := hm02.trans hm4
      simp [hAl]
      refine bbind_dec (fun hil => ?_) fun hil => ?_
      · have hil : i < all.length := by omega
        have hw := step64 hil (by omega)
        obtain ⟨q, rfl⟩ : ∃ q', q = q' + 1 := ⟨q - 1, by omega⟩
        obtain ⟨bz, oz, hz1, hz2⟩ := (hAi.mono hm4).at (i := i) (by simpa using hil)
        simp at hz2
        have hzb := hall _ (List.getElem_mem hil)
        have hzf := hmf _ (hsb'.sub _ (List.getElem_mem hil))
        simp [hz1, hz2]
        refine C_of (k64 s l all[i] hzb m4 (hs.mono hm04) hsz hc) ?_
        rintro _ m5 ⟨hm5, b, rfl, hb⟩
        cases b
        · simp [hw]
          exact ⟨q, by omega, (hI _ _ _).2 ⟨i + 1, by omega, by simp, hm4.trans hm5⟩⟩
        · exact absurd (hb.1 rfl) hzf
      · simp
        exact (hJ3 _ _).2 ⟨by simp, hm4⟩
    · intro f m4 hJ4
      obtain ⟨hf, hm4⟩ := (hJ3 _ _).1 hJ4
      have hm04 := hm02.trans hm4
      have h64 : ¬ (64 : Int) < all.length := by omega
      have hts := (Ow.sl hA).self
      simp [hf, hAl, h64, fillA, setN, hts.1, hts.2]
      have hsm : ∀ y ∈ l ++ [unionOf all], smallN y := fun y hy => by
        rcases List.mem_append.1 hy with h | h
        · exact hsz y h
        · simp at h; subst h; exact ⟨by simp [unionOf]; omega, by simp [unionOf], by simp [unionOf]⟩
      have h40' : ∀ y ∈ l ++ [unionOf all], y.elems.length < 2 ^ 40 ∧ y.names.length < 2 ^ 40 := fun y hy => by
        rcases List.mem_append.1 hy with h | h
        · exact h40 y h
        · simp at h; subst h; exact ⟨by simp [unionOf]; omega, by simp [unionOf]⟩
      refine C_of (k101 s _ l (unionOf all) m4 (hs.mono hm04) ⟨v10, .nilslice, rfl, hAi.mono hm4, Sl.nil⟩ hsm h40' (by omega)) ?_
      rintro _ m5 ⟨hm5, t', rfl, hT⟩
      simp
      refine ⟨hm04.trans hm5, t', all, hsb', ?_, ?_⟩
      · rw [hj]; simp
      · rw [hj]; exact hT
end Go.Proofs.YtheadodblifklaaGreat

namespace Go.Proofs.YtheadodblifklaaGreat
open Go Ax
open Relation
set_option maxRecDepth 100000
structure CheckOk (l : List Md) : Prop where
  len : l.length ≤ 512
  one : ∀ x ∈ l, oneI x l.length = 0
  void : l.any (voidsB l) = false
  bad : ∀ r, r < l.length → ¬ badM l r
  flex : ∀ x ∈ l, flexOf x = true → ∀ e ∈ x.elems, ¬ FlexP l e.toNat
theorem checkOk_iff {l : List Md} : checkI l = 0 ↔ CheckOk l := by
  constructor
  · intro h
    unfold checkI at h
    split at h
    · omega
    · rename_i h1
      split at h
      · rename_i h2; exact absurd h h2
      · rename_i h2
        split at h
        · omega
        · rename_i h3
          split at h
          · omega
          · rename_i h4
            split at h
            · omega
            · rename_i h5
              refine ⟨by omega, fun x hx => ?_, by simpa using h3, fun r hr hb => h4 ⟨r, hr, hb⟩, fun x hx hf e he hp => h5 ⟨x, hx, hf, e, he, hp⟩⟩
              have h2 : firstI (l.map (oneI · l.length)) = 0 := by simpa using h2
              rw [firstI_zero] at h2
              exact h2 _ (List.mem_map.2 ⟨x, hx, rfl⟩)
  · intro h
    unfold checkI
    rw [if_neg (by have := h.len; omega), if_neg, if_neg (by rw [h.void]; simp), if_neg (fun ⟨r, hr, hb⟩ => h.bad r hr hb), if_neg (fun ⟨x, hx, hf, e, he, hp⟩ => h.flex x hx hf e he hp)]
    intro hc
    apply hc
    rw [firstI_zero]
    intro y hy
    obtain ⟨x, hx, rfl⟩ := List.mem_map.1 hy
    exact h.one x hx
theorem one_more {x : Md} {n : Nat} (h : oneI x n = 0) : oneI x (n + 1) = 0 := by
  obtain ⟨h1, h2, h3, h4⟩ := oneI_zero h
  unfold oneI
  rw [if_neg (by simp [h1]), if_neg, if_neg, if_neg (by rw [h4]; simp)]
  · simp only [List.any_eq_true, not_exists, not_and]
    intro s hs
    simp [h3 s hs]
  · simp only [List.any_eq_true, not_exists, not_and]
    intro e he
    have := h2 e he
    simp [outB]
    omega
theorem stepR_app {l : List Md} {x : Md} (hg : goodT l) {p : Md → Bool} {a b : Nat} (ha : a < l.length) : stepR (l ++ [x]) p a b ↔ stepR l p a b ∧ b < l.length := by
  unfold stepR
  rw [List.getElem?_append_left ha]
  constructor
  · rintro ⟨y, h1, h2, h3⟩
    have := hg y (List.mem_of_getElem? h1) _ h3
    exact ⟨⟨y, h1, h2, h3⟩, by omega⟩
  · exact fun h => h.1
theorem tg_app {l : List Md} {x : Md} (hg : goodT l) {p : Md → Bool} {a b : Nat} (ha : a < l.length) (h : TransGen (stepR (l ++ [x]) p) a b) : TransGen (stepR l p) a b ∧ b < l.length := by
  induction h with
  | single h => have := (stepR_app hg ha).1 h; exact ⟨.single this.1, this.2⟩
  | tail _ h ih => have := (stepR_app hg ih.2).1 h; exact ⟨.tail ih.1 this.1, this.2⟩
theorem no_into {l : List Md} {x : Md} (hg : goodT l) (hx : ∀ e ∈ x.elems, 0 ≤ e ∧ e < (l.length : Int)) {p : Md → Bool} {a : Nat} : ¬ stepR (l ++ [x]) p a l.length := by
  rintro ⟨y, h1, _, h3⟩
  have hy : y ∈ l ++ [x] := List.mem_of_getElem? h1
  rcases List.mem_append.1 hy with h | h
  · have := hg y h _ h3; omega
  · simp at h; subst h; have := hx _ h3; omega
theorem flex_app {l : List Md} {x : Md} (hg : goodT l) {a : Nat} (ha : a < l.length) (h : FlexP (l ++ [x]) a) : FlexP l a := by
  induction h with
  | flex h1 h2 h3 =>
    rw [List.getElem?_append_left ha] at h1
    exact .flex h1 h2 h3
  | step h1 h2 ih =>
    obtain ⟨y, g1, g2⟩ := h1
    rw [List.getElem?_append_left ha] at g1
    have hb := hg y (List.mem_of_getElem? g1) _ g2.2
    exact .step ⟨y, g1, g2⟩ (ih (by omega))
theorem check_copy {l : List Md} (hc : checkI l = 0) (hn : l.length < 512) {x : Md} (hx : x ∈ l) : checkI (l ++ [x]) = 0 := by
  have ok := okT_of hc
  have h := checkOk_iff.1 hc
  have hxg := ok.good x hx
  have hmem : ∀ y ∈ l ++ [x], y ∈ l := fun y hy => by
    rcases List.mem_append.1 hy with h | h
    · exact h
    · simp at h; subst h; exact hx
  refine checkOk_iff.2 ⟨by simp; omega, fun y hy => ?_, ?_, fun r hr hb => ?_, fun y hy hf e he hp => ?_⟩
  · rw [List.length_append, List.length_singleton]
    exact one_more (h.one y (hmem y hy))
  · rw [List.any_eq_false]
    intro y hy
    have hy' := hmem y hy
    have hv := List.any_eq_false.1 h.void y hy'
    have hve : ∀ e ∈ y.elems, voidE (l ++ [x]) e = voidE l e := fun e he => by
      have := ok.good y hy' e he
      unfold voidE
      rw [List.getElem?_append_left (by omega)]
    intro hv2
    apply hv
    unfold voidsB at hv2 ⊢
    split at hv2
    · cases hv2
    · rename_i h12
      rw [if_neg h12]
      split at hv2
      · rename_i h13
        rw [if_pos h13]
        rw [List.any_eq_true] at hv2 ⊢
        obtain ⟨e, he, hh⟩ := hv2
        exact ⟨e, he, by rw [← hve e (List.dropLast_subset _ he)]; exact hh⟩
      · rename_i h13
        rw [if_neg h13]
        rw [List.any_eq_true] at hv2 ⊢
        obtain ⟨e, he, hh⟩ := hv2
        exact ⟨e, he, by rw [← hve e he]; exact hh⟩
  · have key : ∀ p : Md → Bool, TransGen (stepR (l ++ [x]) p) r r → r < l.length ∧ TransGen (stepR l p) r r := fun p hp => by
      have hrl : r < l.length := by
        rcases Nat.lt_or_ge r l.length with h | h
        · exact h
        · have : r = l.length := by simp at hr; omega
          subst this
          exfalso
          cases hp with
          | single h => exact no_into ok.good hxg h
          | tail _ h => exact no_into ok.good hxg h
      exact ⟨hrl, (tg_app ok.good hrl hp).1⟩
    rcases hb with hb | hb
    · obtain ⟨h1, h2⟩ := key _ hb; exact h.bad r h1 (.inl h2)
    · obtain ⟨h1, h2⟩ := key _ hb; exact h.bad r h1 (.inr h2)
  · have hy' := hmem y hy
    have := ok.good y hy' e he
    exact h.flex y hy' hf e he (flex_app ok.good (by omega) hp)
theorem putI_copy {l : List Md} (hc : checkI l = 0) (hn : l.length < 512) {z : Nat} (hz : z < l.length) : (putI l (mdAt l z)).1 = l ∧ (putI l (mdAt l z)).2.2 = 0 := by
  have hm : mdAt l z ∈ l := by rw [mdAt_eq hz]; exact List.getElem_mem hz
  have ok := okT_of hc
  have hin : ∀ e ∈ (mdAt l z).elems, outB l.length e = false := fun e he => by
    have := ok.good _ hm e he
    simp [outB]; omega
  have hcc := check_copy hc hn hm
  have hRz : RR (l ++ [mdAt l z]) z = RR (l ++ [mdAt l z]) l.length := by
    have hl : (l ++ [mdAt l z]).length = l.length + 1 := by simp
    refine RR_same (by omega) (by omega) ?_ ?_
    · rw [mdAt_app hz, mdAt_last]
      have := (firstC_ord.self (a := mdAt l z) trivial)
      exact this
    · rw [mdAt_app hz, mdAt_last]
  rcases fidx_first (p := fun i => RR (l ++ [mdAt l z]) i == RR (l ++ [mdAt l z]) l.length) (l.length + 1) 0 with ⟨_, h2⟩ | ⟨j, _, hj, h1, h2, h3⟩
  · have := h2 z (by omega) (by omega)
    simp [hRz] at this
  · have hjz : j ≤ z := by
      rcases Nat.lt_or_ge z j with h | h
      · have := h3 z (by omega) h
        simp [hRz] at this
      · exact h
    have hf := findI_some hin hcc (j := j) (by omega) (by simpa using h2) (fun i hi => by simpa using h3 i (by omega) hi)
    unfold putI
    rw [if_neg (by simp [hc]), hf]
    exact ⟨rfl, rfl⟩
end Go.Proofs.YtheadodblifklaaGreat

namespace Go.Proofs.YtheadodblifklaaGreat
open Go Ax
set_option maxRecDepth 100000
theorem joinI_ofI {l : List Md} {zs : List Nat} (hc : checkI l = 0) (hn : l.length < 512) (hz : ∀ z ∈ zs, z < l.length) : joinI l zs [] = ofI l zs := by
  unfold joinI ofI
  by_cases h1 : zs.length = 1
  · rw [if_pos h1, if_pos h1]
    have hz0 : zs.getD 0 0 < l.length := by
      have : zs.getD 0 0 = zs[0] := by simp [List.getD, h1]
      rw [this]; exact hz _ (List.getElem_mem _)
    obtain ⟨a1, a2⟩ := putI_copy hc hn hz0
    rw [a1, a2]
    rfl
  · rw [if_neg h1, if_neg h1]
    rfl
set_option maxHeartbeats 8000000 in
open Classical in
theorem k25 (s : AVal) (l : List Md) (u v : Int) (m : AMem) (hs : RTab m s l) (hsz : ∀ x ∈ l, smallN x) (h40 : ∀ y ∈ l, y.elems.length < 2 ^ 40 ∧ y.names.length < 2 ^ 40) (hn : l.length ≤ 60) :
    ACalls Tryz.prog 25 [s, .int .i64 u, .int .i64 v] m fun w m' => m <+: m' ∧ ∃ t, w = .tuple [t, .int .i64 (withoutI l u v).2.1, .int .i64 (withoutI l u v).2.2] ∧ RTab m' t (withoutI l u v).1 := by
  refine w25 ?_
  simp [fillA, setN]
  have hA := two_ints m u v
  have hm1 : m <+: m ++ [.own [.int .i64 u, .int .i64 v] 3 none] := List.prefix_append _ _
  generalize AVal.slice m.length 0 2 2 none = t1 at *
  generalize m ++ [.own [.int .i64 u, .int .i64 v] 3 none] = m1 at *
  refine C_of (k37 s t1 l [u, v] m1 (hs.mono hm1) hA.ints hsz (by omega) (by simp)) ?_
  rintro _ m2 ⟨rfl, hm2⟩
  replace hm2 := hm1.trans hm2
  clear hm1 hA
  simp
  refine bbind_intro (fun h => ?_) fun h => ?_
  · have h : rightI l [u, v] ≠ 0 := by simpa using h
    have hW : withoutI l u v = ([], 0, rightI l [u, v]) := by unfold withoutI; rw [if_pos h]
    simp [hW]
    exact ⟨hm2, RTab.nil0 _⟩
  have h : rightI l [u, v] = 0 := by simpa using h
  obtain ⟨hc, a, b, rfl, rfl, ha, hb⟩ := right2 h
  have ok := okT_of hc
  have hW : withoutI l a b = if isU (mdAt l a) = false then ([], 0, 13) else if (leftI l a b).length = 0 then ([], 0, 12) else ofI l (leftI l a b) := by
    unfold withoutI
    rw [if_neg (by simp [h])]
    simp only [Int.toNat_natCast]
  obtain ⟨bx', ox, ex, gx1, gx2, _⟩ := hs.elems ha
  have gk := (gx2 m2 hm2).1
  simp [gx1, gk]
  by_cases hk : l[a].kind = 12
  rotate_left
  · have hu : isU (mdAt l a) = false := by rw [mdAt_eq ha]; simpa [isU] using hk
    rw [if_pos hu] at hW
    simp [bneT hk, hW]
    exact ⟨hm2, RTab.nil0 _⟩
  have hu : isU (mdAt l a) = true := by rw [mdAt_eq ha]; simpa [isU] using hk
  rw [if_neg (by rw [hu]; simp)] at hW
  simp [hk]
  refine C_of (k39 s l m2 (hs.mono hm2) ok.good ok.len hsz ok.h64 ok.names) ?_
  rintro v4 m4 ⟨hm4, hR⟩
  simp
  have hm04 := hm2.trans hm4
  refine C_of (k40 s l a m4 (hs.mono hm04) hsz hc ha) ?_
  rintro v6 m6 ⟨hm6, xs, hxs, hbx⟩
  simp
  refine C_of (k40 s l b m6 (hs.mono (hm04.trans hm6)) hsz hc hb) ?_
  rintro v7 m7 ⟨hm7, ys, hys, hby⟩
  have hxl := hbx.length ok.good ha
  have hxb := hbx.lt ok.good ha
  have hyb := hby.lt ok.good hb
  have hyl := hby.length ok.good hb
  obtain rfl := hbx.eq
  obtain rfl := hby.eq
  have hB : leftI l a b = (basesOf l a).filter fun z => decide (atI (RR l) (basesOf l b) z < 0) := by
    unfold leftI
    refine List.filter_congr fun z _ => ?_
    have h1 := both_at ok.good hb (z := z)
    rw [decide_eq_true_iff] at h1
    rw [Bool.eq_iff_iff, decide_eq_true_iff, Bool.not_eq_true', decide_eq_false_iff_not, ← h1]
    omega
  have hsbA : (basesOf l a).Pairwise (fun x y => RR l x < RR l y) := by
    obtain ⟨O, _, h2⟩ := (basesEx ok.good ha).un hu
    exact h2.asc
  have hsbI : ∀ z ∈ basesOf l a, IsBase l a z := fun z hz => basesOf_sub ok.good ha hz
  rw [hB] at hW
  have hlen := ok.len
  generalize basesOf l a = xs at *
  generalize basesOf l b = ys at *
  have hrk := (ints_of_nat hR).mono (hm6.trans hm7)
  replace hxs := (ints_of_nat hxs).mono hm7
  replace hys := ints_of_nat hys
  have hm07 := (hm04.trans hm6).trans hm7
  have hat : ∀ x, x < l.length → atI (fun a => (Rl l (l.length + 1)).getD a 0) ys x = atI (RR l) ys x := fun x hx => atI_Rl hyb hx
  simp
  obtain ⟨J, hJ⟩ : ∃ J : AFrame → AMem → Prop, ∀ f m', J f m' ↔ (∃ o, f.forget [0, 13] = mat 67 [(0, s), (13, o)] ∧ m7 <+: m' ∧ OwL natI m7.length m' 3 o (xs.filter fun z => decide (atI (RR l) ys z < 0))) := ⟨_, fun _ _ => Iff.rfl⟩
  refine W_JB J ?_ ?_
  · obtain ⟨I, hI⟩ : ∃ I : Nat → AFrame → AMem → Prop, ∀ q a m', I q a m' ↔ (∃ (k : Nat) (o : AVal), k + q = xs.length ∧ a = h25_0 s v4 v6 v7 o (.int .i64 k) ∧ m7 <+: m' ∧ OwL natI m7.length m' 3 o ((xs.take k).filter fun z => decide (atI (RR l) ys z < 0))) := ⟨_, fun _ _ _ => Iff.rfl⟩
    refine W_loop I xs.length ((hI _ _ _).2 ⟨0, .nilslice, by simp, by simp, List.prefix_refl _, OwL.nil⟩) ?_
    rintro q a' m8 hIn
    obtain ⟨k, o, hk', rfl, hm8, hO⟩ := (hI _ _ _).1 hIn
    clear hIn
    have hxn := (hxs.mono hm8).len
    simp at hxn
    simp [hxn]
    refine bbind_dec (fun hkl => ?_) fun hkl => ?_
    · have hw := step64 hkl (by omega)
      obtain ⟨q, rfl⟩ : ∃ q', q = q' + 1 := ⟨q - 1, by omega⟩
      obtain ⟨b1, o1, g1, g2⟩ := (hxs.mono hm8).at (i := k) (by simpa using hkl)
      simp at g2
      have hxk := hxb _ (List.getElem_mem hkl)
      simp [g1, g2]
      refine C_of (k38 v4 v7 (Rl l (l.length + 1)) ys xs[k] m8 (hrk.mono hm8) (hys.mono hm8) (fun z hz => by rw [Rl_length]; exact hyb z hz) (by rw [Rl_length]; exact hxk) (by omega)) ?_
      rintro _ m9 ⟨rfl, hm9⟩
      rw [hat _ hxk]
      have hft : (xs.take (k + 1)).filter (fun z => decide (atI (RR l) ys z < 0)) = (xs.take k).filter (fun z => decide (atI (RR l) ys z < 0)) ++ (if atI (RR l) ys xs[k] < 0 then [xs[k]] else []) := by
        rw [List.take_add_one, List.filter_append, List.getElem?_eq_getElem hkl]
        by_cases hi : atI (RR l) ys xs[k] < 0 <;> simp [hi]
      have hcount : ((xs.take k).filter fun z => decide (atI (RR l) ys z < 0)).length ≤ k := Nat.le_trans (List.length_filter_le _ _) (by simp; omega)
      simp
      by_cases hi : atI (RR l) ys xs[k] < 0
      · rw [if_pos hi] at hft
        have hm9A : m9 <+: m9 ++ [.own [.int .i64 (xs[k] : Nat)] 3 none] := List.prefix_append _ _
        have g2' := loadE_mono hm9 g2
        have hlo : m7.length ≤ (m9 ++ [ABlk.own [.int .i64 ((xs[k] : Nat) : Int)] 3 none]).length := by have := (hm8.trans hm9).length_le; simp; omega
        obtain ⟨o', m10, happ, hch10, hO10, hbl⟩ := ((hO.mono hm9).mono hm9A).push hlo (by_ := 8) (by decide) xs[k] (by omega)
        simp only [natI] at happ
        simp [hi, g1, g2', fillA, setN, happ, hw]
        refine ⟨q, by omega, (hI _ _ _).2 ⟨k + 1, o', by omega, by simp, hch10.pre ((hm8.trans hm9).trans hm9A) fun b hb e => by have := (hO.blk_lo e).1; omega, ?_⟩⟩
        rw [hft]
        exact hO10
      · rw [if_neg hi, List.append_nil] at hft
        simp [hi, hw]
        exact ⟨q, by omega, (hI _ _ _).2 ⟨k + 1, o, by omega, by simp, hm8.trans hm9, by rw [hft]; exact hO.mono hm9⟩⟩
    · have hkl : k = xs.length := by omega
      subst hkl
      rw [List.take_length] at hO
      simp
      exact (hJ _ _).2 ⟨o, by simp, hm8, hO⟩
  intro f m8 hJ8
  obtain ⟨o, hf, hm8, hO⟩ := (hJ _ _).1 hJ8
  clear hJ8 hJ
  have hm08 := hm07.trans hm8
  generalize hL : (xs.filter fun z => decide (atI (RR l) ys z < 0)) = L at *
  have hLs : ∀ z ∈ L, z ∈ xs := fun z hz => by rw [← hL] at hz; exact (List.mem_filter.1 hz).1
  have hLl : L.length ≤ xs.length := by rw [← hL]; exact List.length_filter_le _ _
  have hLa : L.Pairwise (fun x y => RR l x < RR l y) := by rw [← hL]; exact hsbA.filter _
  have hOl := hO.len
  simp [hf, hOl]
  by_cases h0 : L = []
  · rw [if_pos (by rw [h0]; rfl)] at hW
    simp [h0, hW]
    exact ⟨hm08, RTab.nil0 _⟩
  have h0' : ¬ L.length = 0 := by simpa using h0
  have h0i : ¬ (L.length : Int) = 0 := by omega
  rw [if_neg h0'] at hW
  have hLz : ∀ z ∈ L, z < l.length := fun z hz => hxb z (hLs z hz)
  simp [beqF h0i]
  refine C_of (k57 s o .nilslice l L [] m8 (hs.mono hm08) (ints_of_nat hO) Sl.nil hc hLz (fun z hz => base_nflex hc hu (hsbI z (hLs z hz))) (by simp) hsz h40 hn (by omega) (by simp)) ?_
  rintro _ m9 ⟨hm9, t', all, hsb, rfl, hT⟩
  have hall : all = L := hsb.unique ⟨hLa, fun z hz => hz, fun y hy => ⟨y, hy, rfl, Nat.le_refl _⟩⟩ fun _ => Iff.rfl
  subst hall
  rw [joinI_ofI hc (by omega) hLz] at hT ⊢
  rw [hW]
  simp
  exact ⟨hm08.trans hm9, hT⟩
end Go.Proofs.YtheadodblifklaaGreat

namespace Go.Proofs.YtheadodblifklaaGreat
open Go Ax Go.ChangeShapes Go.WideShapes Go.ChangeAt Go.RowKit
set_option maxRecDepth 100000
theorem under22 : Tryz.prog.underlying 22 = some (.slice 49) := by kernel_rfl
theorem under3 : Tryz.prog.underlying 3 = some (.int .i64) := by kernel_rfl
theorem under4 : Tryz.prog.underlying 4 = some .bool := by kernel_rfl
theorem under33 : Tryz.prog.underlying 33 = some (.slice 3) := by kernel_rfl
theorem under47 : Tryz.prog.underlying 47 = some (.slice 9) := by kernel_rfl
theorem under9 : Tryz.prog.underlying 9 = some .string := by kernel_rfl
theorem laidOut : laidOutB Tryz.prog = true := by kernel_rfl
theorem own0 : ownKnob Tryz.prog.godebug = none := by kernel_rfl
noncomputable def fs49 : Array Field := match Tryz.prog.underlying 49 with | some (.struct fs) => fs | _ => #[]
noncomputable def modeT : ModeT Tryz.prog :=
  { tT := 22, tM := 49, tI := 33, eI := 3, tS := 47, eS := 9, k0 := 3, k1 := 3, k4 := 3, k5 := 4, fs := fs49,
    hT := under22, hM := by kernel_rfl, hI := under33, hi := under3, hS := under47, hs := under9, h0 := under3, h1 := under3, h4 := under3, h5 := under4,
    cM := by kernel_rfl, ci := by kernel_rfl, cs := by kernel_rfl, c0 := by kernel_rfl, c1 := by kernel_rfl, cI := by kernel_rfl, cS := by kernel_rfl, c4 := by kernel_rfl, c5 := by kernel_rfl,
    bi := by kernel_rfl, bs := by kernel_rfl, bM := of_decide_eq_true (by kernel_rfl), sz := by kernel_rfl, f0 := by kernel_rfl, f1 := by kernel_rfl, f2 := by kernel_rfl, f3 := by kernel_rfl, f4 := by kernel_rfl, f5 := by kernel_rfl }
def LawTII (f : FuncId) : Prop := ∀ (m : AMem) (s : AVal) (l : List Md) (u v : Int), RTab m s l → l.length ≤ reachBytes → (∀ md ∈ l, MdB reachBytes md) → ACalls Tryz.prog f [s, .int .i64 u, .int .i64 v] m fun r _ => r = .bool true
end Go.Proofs.YtheadodblifklaaGreat

namespace Go.Proofs.YtheadodblifklaaGreat
open Go Ax Go.ChangeShapes Go.WideShapes Go.ChangeAt Go.RowKit
set_option maxRecDepth 100000
theorem putI_small {l : List Md} {x : Md} (hl : ∀ y ∈ l, smallN y) (hx : smallN x) : ∀ y ∈ (putI l x).1, smallN y := by
  have hlx : ∀ y ∈ l ++ [x], smallN y := fun y hy => by
    rcases List.mem_append.1 hy with h | h
    · exact hl y h
    · simp at h; subst h; exact hx
  unfold putI
  split
  · simp
  · split
    · exact hl
    · split
      · simp
      · exact hlx
theorem putI_len (l : List Md) (x : Md) : (putI l x).1.length ≤ l.length + 1 := by
  unfold putI
  split
  · simp
  · split
    · simp
    · split
      · simp
      · simp
theorem ofI_small {l : List Md} {zs : List Nat} (hl : ∀ y ∈ l, smallN y) (hz : ∀ z ∈ zs, z < l.length) (hn : zs.length < 2 ^ 30) : ∀ y ∈ (ofI l zs).1, smallN y := by
  unfold ofI
  split
  · rename_i h1
    have hz0 : zs.getD 0 0 < l.length := by
      have : zs.getD 0 0 = zs[0] := by simp [List.getD, h1]
      rw [this]; exact hz _ (List.getElem_mem _)
    exact putI_small hl (hl _ (by rw [mdAt_eq hz0]; exact List.getElem_mem hz0))
  · exact putI_small hl ⟨by simp [unionOf]; omega, by simp [unionOf], by simp [unionOf]⟩
theorem ofI_len (l : List Md) (zs : List Nat) : (ofI l zs).1.length ≤ l.length + 1 := by
  unfold ofI
  split
  · exact putI_len _ _
  · exact putI_len _ _
theorem without_small {l : List Md} (hn : l.length ≤ 60) (hl : ∀ y ∈ l, smallN y) (u v : Int) : (∀ y ∈ (withoutI l u v).1, smallN y) ∧ (withoutI l u v).1.length ≤ l.length + 1 := by
  unfold withoutI
  split
  · simp
  · rename_i h
    obtain ⟨hc, a, b, rfl, rfl, ha, hb⟩ := right2 (by simpa using h)
    have ok := okT_of hc
    split
    · simp
    · split
      · simp
      · refine ⟨ofI_small hl (fun z hz => ?_) ?_, ofI_len _ _⟩
        · simp only [Int.toNat_natCast, leftI] at hz
          exact (basesEx ok.good ha).lt ok.good ha z (List.mem_filter.1 hz).1
        · simp only [Int.toNat_natCast, leftI]
          have h1 := (basesEx ok.good ha).length ok.good ha
          have h2 := List.length_filter_le (fun z => !@decide (hasRR l b z) (Classical.propDecidable _)) (basesOf l a)
          omega
theorem k6 : LawTII 6 := by
  intro m s l u v hs _ hb
  refine w6 ?_
  simp
  refine C_of (k10 m) ?_
  rintro _ m1 ⟨rfl, hm1⟩
  simp
  refine C_of (k11 s l 12 m1 (hs.mono hm1) (by omega)) ?_
  rintro _ m2 ⟨rfl, hm2⟩
  have hm02 := hm1.trans hm2
  cases hsm : (decide ((l.length : Int) ≤ 12) && l.all fun x => decide (x.elems.length ≤ 6) && decide (x.names.length ≤ 6))
  · simp
  · have hf := fits_of hb hsm
    have hn := hf.n
    have hn12 := hf.n12
    simp
    refine C_of (k24 s l u v m2 (hs.mono hm02) hf.sm hf.h40 (by omega)) ?_
    rintro _ m3 ⟨hm3, t, rfl, hT⟩
    simp
    refine C_of (k25 s l u v m3 (hs.mono (hm02.trans hm3)) hf.sm hf.h40 (by omega)) ?_
    rintro _ m4 ⟨hm4, t', rfl, hT'⟩
    obtain ⟨h1, h2⟩ := without_small (by omega) hf.sm u v
    simp
    refine C_of (k26 t t' _ m4 (hT.mono hm4) hT' h1 (by omega)) ?_
    rintro _ m5 ⟨rfl, hm5⟩
    simp
end Go.Proofs.YtheadodblifklaaGreat

namespace Go.Proofs.YtheadodblifklaaGreat
open Go Ax
open Relation
set_option maxRecDepth 100000
theorem OrdG.zero_trans {α : Type} {c : α → α → Int} {D : α → Prop} (h : OrdG c D) {a b d : α} (ha : D a) (hb : D b) (hd : D d) (h1 : c a b = 0) (h2 : c b d = 0) : c a d = 0 := by
  have e1 := h.trans a b d ha hb hd (by omega) (by omega)
  have e2 := h.trans d b a hd hb ha (by rw [(h.zero hb hd).1 h2]; omega) (by rw [(h.zero ha hb).1 h1]; omega)
  have := h.anti a d ha hd
  have := h.anti d a hd ha
  omega
structure Bisim (l : List Md) (E : Nat → Nat → Prop) : Prop where
  lt : ∀ a b, E a b → a < l.length ∧ b < l.length
  first : ∀ a b, E a b → firstC (mdAt l a) (mdAt l b) = 0
  up : ∀ a b j, E a b → isU (mdAt l a) = true → IsPart l a j → ∃ j', IsPart l b j' ∧ E j j'
  down : ∀ a b j, E a b → isU (mdAt l b) = true → IsPart l b j → ∃ j', IsPart l a j' ∧ E j' j
  len : ∀ a b, E a b → isU (mdAt l a) = false → (mdAt l a).elems.length = (mdAt l b).elems.length
  el : ∀ (a b k : Nat) (e e' : Int), E a b → isU (mdAt l a) = false → (mdAt l a).elems[k]? = some e → (mdAt l b).elems[k]? = some e' → E e.toNat e'.toNat
theorem Bisim.R {l : List Md} {E : Nat → Nat → Prop} (h : Bisim l E) : ∀ d a b, E a b → R l d a = R l d b
  | 0, _, _, _ => rfl
  | d + 1, a, b, he => by
    have ih := h.R d
    obtain ⟨ha, hb⟩ := h.lt a b he
    have hf := h.first a b he
    have hu : isU (mdAt l a) = isU (mdAt l b) := by unfold isU; rw [firstC_kind hf]
    have hk : keyOf l (Go.Proofs.YtheadodblifklaaGreat.R l d) a = keyOf l (Go.Proofs.YtheadodblifklaaGreat.R l d) b := by
      unfold keyOf
      rw [← hu]
      cases hua : isU (mdAt l a)
      · rw [if_neg (by simp), if_neg (by simp)]
        refine List.ext_getElem? fun k => ?_
        rw [List.getElem?_map, List.getElem?_map]
        have hl := h.len a b he hua
        by_cases hkl : k < (mdAt l a).elems.length
        · rw [List.getElem?_eq_getElem hkl, List.getElem?_eq_getElem (by omega)]
          simp only [Option.map_some, Option.some.injEq, Int.natCast_inj]
          exact ih _ _ (h.el a b k _ _ he hua (List.getElem?_eq_getElem hkl) (List.getElem?_eq_getElem (by omega)))
        · rw [List.getElem?_eq_none (by omega), List.getElem?_eq_none (by omega)]
      · rw [if_pos rfl, if_pos rfl]
        congr 1
        apply List.filter_congr
        intro v _
        rw [decide_eq_decide]
        constructor
        · rintro ⟨j, h1, h2⟩
          obtain ⟨j', h3, h4⟩ := h.up a b j he hua h1
          exact ⟨j', h3, by rw [← ih _ _ h4]; exact h2⟩
        · rintro ⟨j, h1, h2⟩
          obtain ⟨j', h3, h4⟩ := h.down a b j he (by rw [← hu]; exact hua) h1
          exact ⟨j', h3, by rw [ih _ _ h4]; exact h2⟩
    have hc : cmpR l (Go.Proofs.YtheadodblifklaaGreat.R l d) d a b = 0 := by
      unfold cmpR thenC
      have h0 : cmpI (Go.Proofs.YtheadodblifklaaGreat.R l d a : Nat) (Go.Proofs.YtheadodblifklaaGreat.R l d b : Nat) = 0 := cmpI_zero.2 (by rw [ih a b he])
      simp only [h0]
      by_cases hd : d = 0
      · simp [hd, hf]
      · simp [hd, hk, lexC_refl]
    have h1 := R_lt l d (b := b) ha
    have h2 := R_lt l d (b := a) hb
    have h3 := (cmpR_ord l (Go.Proofs.YtheadodblifklaaGreat.R l d) d).anti a b trivial trivial
    have h4 := (cmpR_ord l (Go.Proofs.YtheadodblifklaaGreat.R l d) d).anti b a trivial trivial
    omega
theorem Bisim.RR {l : List Md} {E : Nat → Nat → Prop} (h : Bisim l E) {a b : Nat} (he : E a b) : RR l a = RR l b := h.R _ a b he
theorem RR_part {l : List Md} (hg : goodT l) {a b j : Nat} (ha : a < l.length) (hb : b < l.length) (h : RR l a = RR l b) (hu : isU (mdAt l a) = true) (hj : IsPart l a j) : ∃ j', IsPart l b j' ∧ RR l j = RR l j' := by
  have hk := RR_key hg ha hb h
  have hub : isU (mdAt l b) = true := by unfold isU at hu ⊢; rw [← firstC_kind (RR_first ha hb h)]; exact hu
  have hr : ∀ a, a < l.length → RR l a < l.length := fun a ha => R_bound l _ ha
  have k1 := ((keyOf_isKey hg hr a).un hu).2 (RR l j : Int)
  have k2 := ((keyOf_isKey hg hr b).un hub).2 (RR l j : Int)
  rw [hk] at k1
  obtain ⟨j', h1, h2⟩ := k2.1 (k1.2 ⟨j, hj, rfl⟩)
  exact ⟨j', h1, by omega⟩
theorem RR_elem {l : List Md} (hg : goodT l) {a b : Nat} (ha : a < l.length) (hb : b < l.length) (h : RR l a = RR l b) (hu : isU (mdAt l a) = false) : (mdAt l a).elems.length = (mdAt l b).elems.length ∧ ∀ (k : Nat) (e e' : Int), (mdAt l a).elems[k]? = some e → (mdAt l b).elems[k]? = some e' → RR l e.toNat = RR l e'.toNat := by
  have hk := RR_key hg ha hb h
  have hub : isU (mdAt l b) = false := by unfold isU at hu ⊢; rw [← firstC_kind (RR_first ha hb h)]; exact hu
  have hr : ∀ a, a < l.length → RR l a < l.length := fun a ha => R_bound l _ ha
  have k1 := (keyOf_isKey hg hr a).el hu
  have k2 := (keyOf_isKey hg hr b).el hub
  rw [hk, k2] at k1
  refine ⟨by have := congrArg List.length k1; simpa using this.symm, fun k e e' h1 h2 => ?_⟩
  have := congrArg (·[k]?) k1
  simp only [List.getElem?_map, h1, h2, Option.map_some, Option.some.injEq, Int.natCast_inj] at this
  exact this.symm
theorem check_union {l : List Md} (hc : checkI l = 0) (hn : l.length < 512) {zs : List Nat} (hz : ∀ z ∈ zs, z < l.length ∧ ¬ FlexP l z) (h2 : 2 ≤ zs.length) (h64 : zs.length ≤ 64) : checkI (l ++ [unionOf zs]) = 0 := by
  have ok := okT_of hc
  have h := checkOk_iff.1 hc
  have hxg : ∀ e ∈ (unionOf zs).elems, 0 ≤ e ∧ e < (l.length : Int) := fun e he => by
    obtain ⟨z, hz1, rfl⟩ := List.mem_map.1 he
    have := (hz z hz1).1
    show 0 ≤ (z : Int) ∧ (z : Int) < l.length
    omega
  refine checkOk_iff.2 ⟨by simp; omega, fun y hy => ?_, ?_, fun r hr hb => ?_, fun y hy hf e he hp => ?_⟩
  · rw [List.length_append, List.length_singleton]
    rcases List.mem_append.1 hy with hy | hy
    · exact one_more (h.one y hy)
    · simp at hy
      subst hy
      have hs : shapeI (unionOf zs) = 0 := by
        unfold shapeI
        rw [if_neg (by simp [unionOf]), if_pos, if_neg (by simp [unionOf]; omega)]
        refine ⟨?_, ?_, ?_, ?_, ?_, ?_⟩ <;> simp [least, most, nNames, dimsOk, sizeOk, unionOf]
        omega
      unfold oneI
      rw [if_neg (by simp [hs]), if_neg, if_neg (by simp [unionOf]), if_neg (by simp [unionOf, twiceB])]
      simp only [List.any_eq_true, not_exists, not_and]
      intro e he
      have := hxg e he
      simp [outB]
      omega
  · rw [List.any_eq_false]
    intro y hy
    rcases List.mem_append.1 hy with hy' | hy'
    · have hv := List.any_eq_false.1 h.void y hy'
      have hve : ∀ e ∈ y.elems, voidE (l ++ [unionOf zs]) e = voidE l e := fun e he => by
        have := ok.good y hy' e he
        unfold voidE
        rw [List.getElem?_append_left (by omega)]
      intro hv2
      apply hv
      unfold voidsB at hv2 ⊢
      split at hv2
      · cases hv2
      · rename_i h12
        rw [if_neg h12]
        split at hv2
        · rename_i h13
          rw [if_pos h13]
          rw [List.any_eq_true] at hv2 ⊢
          obtain ⟨e, he, hh⟩ := hv2
          exact ⟨e, he, by rw [← hve e (List.dropLast_subset _ he)]; exact hh⟩
        · rename_i h13
          rw [if_neg h13]
          rw [List.any_eq_true] at hv2 ⊢
          obtain ⟨e, he, hh⟩ := hv2
          exact ⟨e, he, by rw [← hve e he]; exact hh⟩
    · simp at hy'
      subst hy'
      simp [voidsB, unionOf]
  · have key : ∀ p : Md → Bool, TransGen (stepR (l ++ [unionOf zs]) p) r r → r < l.length ∧ TransGen (stepR l p) r r := fun p hp => by
      have hrl : r < l.length := by
        rcases Nat.lt_or_ge r l.length with h | h
        · exact h
        · have : r = l.length := by simp at hr; omega
          subst this
          exfalso
          cases hp with
          | single h => exact no_into ok.good hxg h
          | tail _ h => exact no_into ok.good hxg h
      exact ⟨hrl, (tg_app ok.good hrl hp).1⟩
    rcases hb with hb | hb
    · obtain ⟨h1, h2⟩ := key _ hb; exact h.bad r h1 (.inl h2)
    · obtain ⟨h1, h2⟩ := key _ hb; exact h.bad r h1 (.inr h2)
  · rcases List.mem_append.1 hy with hy' | hy'
    · have := ok.good y hy' e he
      exact h.flex y hy' hf e he (flex_app ok.good (by omega) hp)
    · simp at hy'
      subst hy'
      obtain ⟨z, hz1, rfl⟩ := List.mem_map.1 he
      have := hz z hz1
      exact this.2 (flex_app ok.good this.1 (by simpa using hp))
section
variable {l : List Md} {zs : List Nat}
theorem part_old {x : Md} (hg : goodT l) {a j : Nat} (ha : a < l.length) : IsPart (l ++ [x]) a j ↔ IsPart l a j := by
  constructor
  · rintro ⟨h1, h2⟩
    obtain ⟨h3, h4⟩ := tg_app hg ha h1
    exact ⟨h3, fun y hy => h2 y (by rw [List.getElem?_append_left h4]; exact hy)⟩
  · intro h
    have hj := h.lt hg
    refine ⟨?_, fun y hy => h.2 y (by rwa [List.getElem?_append_left hj] at hy)⟩
    have hT := h.1
    clear h hj
    have : ∀ {b}, TransGen (stepR l isU) a b → TransGen (stepR (l ++ [x]) isU) a b ∧ b < l.length := fun hb => by
      induction hb with
      | @single b h =>
        have hb' : b < l.length := by obtain ⟨y, h1, _, h3⟩ := h; have := hg y (List.mem_of_getElem? h1) _ h3; omega
        exact ⟨.single ((stepR_app hg ha).2 ⟨h, hb'⟩), hb'⟩
      | @tail c b _ h ih =>
        have hb' : b < l.length := by obtain ⟨y, h1, _, h3⟩ := h; have := hg y (List.mem_of_getElem? h1) _ h3; omega
        exact ⟨.tail ih.1 ((stepR_app hg ih.2).2 ⟨h, hb'⟩), hb'⟩
    exact (this hT).1
theorem part_new (hz : ∀ z ∈ zs, z < l.length ∧ isU (mdAt l z) = false) {j : Nat} : IsPart (l ++ [unionOf zs]) l.length j ↔ j ∈ zs := by
  have hnu : ∀ z ∈ zs, ∀ y, (l ++ [unionOf zs])[z]? = some y → isU y = false := fun z h y hy => by
    obtain ⟨h1, h2⟩ := hz z h
    rw [List.getElem?_append_left h1] at hy
    rw [mdAt_eq h1] at h2
    rw [List.getElem?_eq_getElem h1] at hy
    cases hy
    exact h2
  have h1 : ∀ b, stepR (l ++ [unionOf zs]) isU l.length b → b ∈ zs := fun b ⟨y, h1, _, h3⟩ => by
    rw [List.getElem?_concat_length] at h1
    cases h1
    obtain ⟨z, hz1, hz2⟩ := List.mem_map.1 h3
    have : z = b := by omega
    exact this ▸ hz1
  constructor
  · rintro ⟨h, _⟩
    have : ∀ {b}, TransGen (stepR (l ++ [unionOf zs]) isU) l.length b → b ∈ zs := fun hb => by
      induction hb with
      | single h => exact h1 _ h
      | tail _ h ih =>
        obtain ⟨y, g1, g2, _⟩ := h
        rw [hnu _ ih y g1] at g2
        cases g2
    exact this h
  · intro h
    exact ⟨.single ⟨unionOf zs, by rw [List.getElem?_concat_length], by simp [isU, unionOf], List.mem_map.2 ⟨j, h, rfl⟩⟩, hnu j h⟩
theorem RR_app {x : Md} (hg : goodT l) (hg' : goodT (l ++ [x])) {a b : Nat} (ha : a < l.length) (hb : b < l.length) (h : RR (l ++ [x]) a = RR (l ++ [x]) b) : RR l a = RR l b := by
  have hl : (l ++ [x]).length = l.length + 1 := by simp
  have hel : ∀ {a k : Nat} {e : Int}, a < l.length → (mdAt l a).elems[k]? = some e → e.toNat < l.length := fun {a k e} ha h => by
    have := hg (mdAt l a) (by rw [mdAt_eq ha]; exact List.getElem_mem ha) e (List.mem_of_getElem? h)
    omega
  refine Bisim.RR (E := fun a b => a < l.length ∧ b < l.length ∧ RR (l ++ [x]) a = RR (l ++ [x]) b) ⟨fun a b h => ⟨h.1, h.2.1⟩, fun a b h => ?_, fun a b j h hu hj => ?_, fun a b j h hu hj => ?_, fun a b h hu => ?_, fun a b k e e' h hu h1 h2 => ?_⟩ ⟨ha, hb, h⟩
  · have := RR_first (by omega) (by omega) h.2.2
    rwa [mdAt_app h.1, mdAt_app h.2.1] at this
  · obtain ⟨j', h1, h2⟩ := RR_part hg' (by omega) (by omega) h.2.2 (by rw [mdAt_app h.1]; exact hu) ((part_old hg h.1).2 hj)
    have h1 := (part_old hg h.2.1).1 h1
    exact ⟨j', h1, hj.lt hg, h1.lt hg, h2⟩
  · obtain ⟨j', h1, h2⟩ := RR_part hg' (by omega) (by omega) h.2.2.symm (by rw [mdAt_app h.2.1]; exact hu) ((part_old hg h.2.1).2 hj)
    have h1 := (part_old hg h.1).1 h1
    exact ⟨j', h1, h1.lt hg, hj.lt hg, h2.symm⟩
  · have := (RR_elem hg' (by omega) (by omega) h.2.2 (by rw [mdAt_app h.1]; exact hu)).1
    rwa [mdAt_app h.1, mdAt_app h.2.1] at this
  · have := (RR_elem hg' (by omega) (by omega) h.2.2 (by rw [mdAt_app h.1]; exact hu)).2 k e e'
    rw [mdAt_app h.1, mdAt_app h.2.1] at this
    exact ⟨hel h.1 h1, hel h.2.1 h2, this h1 h2⟩
theorem RR_union (hc : checkI l = 0) (hg' : goodT (l ++ [unionOf zs])) (hz : ∀ z ∈ zs, z < l.length ∧ isU (mdAt l z) = false) {p : Nat} (hp : p < l.length) (hu : isU (mdAt l p) = true) (h1 : ∀ j, IsPart l p j → ∃ z ∈ zs, RR l j = RR l z) (h2 : ∀ z ∈ zs, ∃ j, IsPart l p j ∧ RR l j = RR l z) :
    RR (l ++ [unionOf zs]) l.length = RR (l ++ [unionOf zs]) p ∧ ∀ a b, a < l.length → b < l.length → RR l a = RR l b → RR (l ++ [unionOf zs]) a = RR (l ++ [unionOf zs]) b := by
  have hg := (okT_of hc).good
  have hl : (l ++ [unionOf zs]).length = l.length + 1 := by simp
  obtain ⟨φ, hφ⟩ : ∃ φ : Nat → Nat, ∀ a, φ a = if a = l.length then p else a := ⟨_, fun _ => rfl⟩
  have hφn : φ l.length = p := by rw [hφ, if_pos rfl]
  have hφo : ∀ a, a < l.length → φ a = a := fun a h => by rw [hφ, if_neg (by omega)]
  have hφl : ∀ a, a < l.length + 1 → φ a < l.length := fun a h => by
    rw [hφ]; split <;> omega
  have hcase : ∀ a, a < l.length + 1 → a = l.length ∨ a < l.length := fun a h => by omega
  have hpx : firstC (unionOf zs) (mdAt l p) = 0 := by
    have hone := (oneI_zero ((checkOk_iff.1 hc).one (mdAt l p) (by rw [mdAt_eq hp]; exact List.getElem_mem hp))).1
    have hk : (mdAt l p).kind = 12 := by simpa [isU] using hu
    have hsh : shaped (mdAt l p) := by
      unfold shapeI at hone
      split at hone
      · omega
      · split at hone
        · assumption
        · omega
    obtain ⟨_, _, s3, s4, s5, s6⟩ := hsh
    have e3 : (mdAt l p).names = [] := by
      simp [nNames, hk] at s3
      exact s3
    have e4 : (mdAt l p).dims = 0 := by simpa [dimsOk, hk] using s4
    have e5 : (mdAt l p).size = 0 := by simpa [sizeOk, hk] using s5
    have e6 : (mdAt l p).flex = false := by
      cases hf : (mdAt l p).flex
      · rfl
      · have := s6 hf; omega
    have hz0 : ∀ z : Int, cmpI z z = 0 := fun z => cmpI_zero.2 rfl
    simp [firstC, firstL, firstNZ_cons, unionOf, hk, e3, e4, e5, e6, lenC, hz0, lexC, firstNZ]
  have hfirst : ∀ a, a < l.length + 1 → firstC (mdAt (l ++ [unionOf zs]) a) (mdAt l (φ a)) = 0 := fun a ha => by
    rcases hcase a ha with rfl | h
    · rw [mdAt_last, hφn]; exact hpx
    · rw [mdAt_app h, hφo a h]; exact firstC_ord.self trivial
  have hto : ∀ a j, a < l.length + 1 → IsPart (l ++ [unionOf zs]) a j → j < l.length ∧ ∃ j', IsPart l (φ a) j' ∧ RR l j' = RR l j := fun a j ha hj => by
    rcases hcase a ha with rfl | h
    · have hjz := (part_new hz).1 hj
      rw [hφn]
      exact ⟨(hz j hjz).1, h2 j hjz⟩
    · have hj' := (part_old hg h).1 hj
      rw [hφo a h]
      exact ⟨hj'.lt hg, j, hj', rfl⟩
  have hfrom : ∀ a j, a < l.length + 1 → IsPart l (φ a) j → ∃ j', IsPart (l ++ [unionOf zs]) a j' ∧ j' < l.length ∧ RR l j = RR l j' := fun a j ha hj => by
    rcases hcase a ha with rfl | h
    · rw [hφn] at hj
      obtain ⟨z, hzz, he⟩ := h1 j hj
      exact ⟨z, (part_new hz).2 hzz, (hz z hzz).1, he⟩
    · rw [hφo a h] at hj
      exact ⟨j, (part_old hg h).2 hj, hj.lt hg, rfl⟩
  have hun : ∀ a, a < l.length + 1 → isU (mdAt (l ++ [unionOf zs]) a) = isU (mdAt l (φ a)) := fun a ha => by unfold isU; rw [firstC_kind (hfirst a ha)]
  have hold : ∀ a, a < l.length + 1 → isU (mdAt (l ++ [unionOf zs]) a) = false → a < l.length := fun a ha h => by
    rcases hcase a ha with rfl | h'
    · rw [mdAt_last] at h; simp [isU, unionOf] at h
    · exact h'
  have hB : Bisim (l ++ [unionOf zs]) (fun a b => a < l.length + 1 ∧ b < l.length + 1 ∧ RR l (φ a) = RR l (φ b)) := by
    refine ⟨fun a b h => ⟨by omega, by omega⟩, fun a b h => ?_, fun a b j h hu hj => ?_, fun a b j h hu hj => ?_, fun a b h hu => ?_, fun a b k e e' h hu g1 g2 => ?_⟩
    · have e1 := hfirst a h.1
      have e2 := RR_first (hφl a h.1) (hφl b h.2.1) h.2.2
      have e3 := (firstC_ord.zero trivial trivial).1 (hfirst b h.2.1)
      exact firstC_ord.zero_trans trivial trivial trivial (firstC_ord.zero_trans trivial trivial trivial e1 e2) e3
    · obtain ⟨hjl, j1, h3, h4⟩ := hto a j h.1 hj
      obtain ⟨j2, h5, h6⟩ := RR_part hg (hφl a h.1) (hφl b h.2.1) h.2.2 (by rw [← hun a h.1]; exact hu) h3
      obtain ⟨j3, h7, h8, h9⟩ := hfrom b j2 h.2.1 h5
      exact ⟨j3, h7, by omega, by omega, by rw [hφo j hjl, hφo j3 h8, ← h4, h6, h9]⟩
    · obtain ⟨hjl, j1, h3, h4⟩ := hto b j h.2.1 hj
      obtain ⟨j2, h5, h6⟩ := RR_part hg (hφl b h.2.1) (hφl a h.1) h.2.2.symm (by rw [← hun b h.2.1]; exact hu) h3
      obtain ⟨j3, h7, h8, h9⟩ := hfrom a j2 h.1 h5
      exact ⟨j3, h7, by omega, by omega, by rw [hφo j hjl, hφo j3 h8, ← h4, h6, h9]⟩
    · have ha' := hold a h.1 hu
      have hub : isU (mdAt (l ++ [unionOf zs]) b) = false := by
        rw [hun b h.2.1]
        rw [hun a h.1] at hu
        have := firstC_kind (RR_first (hφl a h.1) (hφl b h.2.1) h.2.2)
        unfold isU at hu ⊢
        rw [← this]; exact hu
      have hb' := hold b h.2.1 hub
      have hR := h.2.2
      rw [hφo a ha', hφo b hb'] at hR
      rw [mdAt_app ha'] at hu
      have := (RR_elem hg ha' hb' hR hu).1
      rwa [mdAt_app ha', mdAt_app hb']
    · have ha' := hold a h.1 hu
      have hub : isU (mdAt (l ++ [unionOf zs]) b) = false := by
        rw [hun b h.2.1]
        rw [hun a h.1] at hu
        have := firstC_kind (RR_first (hφl a h.1) (hφl b h.2.1) h.2.2)
        unfold isU at hu ⊢
        rw [← this]; exact hu
      have hb' := hold b h.2.1 hub
      have hR := h.2.2
      rw [hφo a ha', hφo b hb'] at hR
      rw [mdAt_app ha'] at hu g1
      rw [mdAt_app hb'] at g2
      have := (RR_elem hg ha' hb' hR hu).2 k e e' g1 g2
      have l1 := hg (mdAt l a) (by rw [mdAt_eq ha']; exact List.getElem_mem ha') e (List.mem_of_getElem? g1)
      have l2 := hg (mdAt l b) (by rw [mdAt_eq hb']; exact List.getElem_mem hb') e' (List.mem_of_getElem? g2)
      refine ⟨by omega, by omega, ?_⟩
      rw [hφo _ (by omega), hφo _ (by omega)]
      exact this
  refine ⟨hB.RR ⟨by omega, by omega, by rw [hφn, hφo p hp]⟩, fun a b ha hb h => hB.RR ⟨by omega, by omega, by rw [hφo a ha, hφo b hb]; exact h⟩⟩
open Classical in
theorem putI_union (hc : checkI l = 0) (hn : l.length < 512) (hz : ∀ z ∈ zs, z < l.length ∧ isU (mdAt l z) = false ∧ ¬ FlexP l z) (h2 : 2 ≤ zs.length) (h64 : zs.length ≤ 64) {p : Nat} (hp : p < l.length) (hu : isU (mdAt l p) = true) (hs : sameB l (basesOf l p) zs = true) : putI l (unionOf zs) = (l, leastI l p, 0) := by
  have ok := okT_of hc
  have hcc := check_union hc hn (fun z h => ⟨(hz z h).1, (hz z h).2.2⟩) h2 h64
  have hg' := (okT_of hcc).good
  unfold sameB at hs
  obtain ⟨hsl, hse⟩ := of_decide_eq_true hs
  have hA : ∀ j, IsPart l p j → ∃ z ∈ zs, RR l j = RR l z := fun j hj => by
    obtain ⟨w, hw, he⟩ := basesOf_cov ok.good hp (by unfold IsBase; rw [if_pos hu]; exact hj)
    obtain ⟨i, hi, rfl⟩ := List.mem_iff_getElem.1 hw
    have hi' : i < zs.length := by omega
    exact ⟨zs[i], List.getElem_mem hi', by rw [← he]; exact hse i _ _ (List.getElem?_eq_getElem hi) (List.getElem?_eq_getElem hi')⟩
  have hB : ∀ z ∈ zs, ∃ j, IsPart l p j ∧ RR l j = RR l z := fun z h => by
    obtain ⟨i, hi, rfl⟩ := List.mem_iff_getElem.1 h
    have hi' : i < (basesOf l p).length := by omega
    have hb := basesOf_sub ok.good hp (List.getElem_mem hi')
    unfold IsBase at hb
    rw [if_pos hu] at hb
    exact ⟨_, hb, hse i _ _ (List.getElem?_eq_getElem hi') (List.getElem?_eq_getElem hi)⟩
  obtain ⟨hR1, hR2⟩ := RR_union hc hg' (fun z h => ⟨(hz z h).1, (hz z h).2.1⟩) hp hu hA hB
  have hin : ∀ e ∈ (unionOf zs).elems, outB l.length e = false := fun e he => by
    obtain ⟨z, hz1, rfl⟩ := List.mem_map.1 he
    have := (hz z hz1).1
    simp [outB]; omega
  rcases fidx_first (p := fun i => RR l i == RR l p) l.length 0 with ⟨_, h3⟩ | ⟨j, _, hj, h3, h4, h5⟩
  · have := h3 p (by omega) (by omega)
    simp at this
  · have hjl : j < l.length := by omega
    have hf := findI_some hin hcc hjl (by rw [hR1]; exact hR2 j p hjl hp (by simpa using h4)) (fun i hi he => by
      rw [hR1] at he
      have h6 := RR_app ok.good hg' (by omega) hp he
      have := h5 i (by omega) hi
      simp [h6] at this)
    unfold putI
    rw [if_neg (by simp [hc]), hf]
    unfold leastI
    rw [h3]
end
theorem joinI_of {l : List Md} {zs ps : List Nat} (hc : checkI l = 0) (hn : l.length < 512) (hz : ∀ z ∈ zs, z < l.length ∧ isU (mdAt l z) = false ∧ ¬ FlexP l z) (h0 : zs ≠ []) (h64 : zs.length ≤ 64) (hp : ∀ p ∈ ps, p < l.length) : joinI l zs ps = ofI l zs := by
  unfold joinI ofI
  by_cases h1 : zs.length = 1
  · rw [if_pos h1, if_pos h1]
    have hz0 : zs.getD 0 0 < l.length := by
      have : zs.getD 0 0 = zs[0] := by simp [List.getD, h1]
      rw [this]; exact (hz _ (List.getElem_mem _)).1
    obtain ⟨a1, a2⟩ := putI_copy hc hn hz0
    rw [a1, a2]
    rfl
  · rw [if_neg h1, if_neg h1]
    split
    · rename_i p hfp
      have hq := List.find?_some hfp
      simp only [Bool.and_eq_true] at hq
      have h2 : 2 ≤ zs.length := by
        have := List.length_pos_iff.2 h0
        omega
      exact (putI_union hc hn hz h2 h64 (hp p (List.mem_of_find?_eq_some hfp)) hq.1 hq.2).symm
    · rfl
end Go.Proofs.YtheadodblifklaaGreat

namespace Go.Proofs.YtheadodblifklaaGreat
open Go Ax Go.ChangeShapes Go.WideShapes Go.ChangeAt Go.RowKit
set_option maxRecDepth 100000
theorem cells3i : Tryz.prog.cellsOf 3 = 1 := by kernel_rfl
theorem bytes3 : Tryz.prog.bytesOf 3 = 8 := by kernel_rfl
def LawTI (f : FuncId) : Prop := ∀ (m : AMem) (s t : AVal) (l : List Md) (zs : List Int), RTab m s l → RInts m t zs → (∀ md ∈ l, MdB reachBytes md) → zs.length ≤ reachBytes → ACalls Tryz.prog f [s, t] m fun r _ => r = .bool true
theorem liftedI {os : Os} (started : os.Started) {H : Type} {enc : TypeId × Value → H} {f : FuncId} {fn : Func} {s : ChangeSpec} {conds : List PathCond}
    (noInit : Tryz.checked.prog.inits.idxOf? f = none) (hfn : Tryz.checked.prog.funcs[f]? = some fn) (hp : fn.params = #[22, 33]) (hr : fn.resultTypes = #[4]) (hs : s.vars = [])
    (hsf : ∀ d1 d2 : DataW H, s.fn H [d1, d2] = { results := [.lit (.bool true)], args := [d1, d2] })
    (witness : ∃ (w : World) (tape : Tape) (i : Input), w.os = os ∧ (w.forCall tape i).Shaped Tryz.checked.prog ∧ i.vars = [] ∧ Input.okWide Tryz.checked.prog (w.forCall tape i) .any w.heap.size f i ∧
      s.pre6 enc Tryz.checked.prog fn conds false (w.forCall tape i).memory i.args ∧ ({} : Assume).holds Tryz.checked.prog (lone (Frame.enter Tryz.checked.prog f i.args .normal) [] (w.forCall tape i)))
    (law : LawTI f) :
    ReturnsInHanded {} Tryz.checked os f .any (s.pre6 enc Tryz.checked.prog fn conds false) (s.post enc Tryz.checked.prog fn false true false false) := by
  refine returnsInHanded_of_change_sized (C := Tryz.checked) own0 started noInit hfn witness ?_
  intro W base args ds gs before hval0 hW _ hsz0 _
  have hW' := hW
  rw [hp] at hval0 hsz0
  obtain ⟨p, q, hA, hV, rfl, _, _⟩ := hW
  rw [hp] at hA
  rw [hs] at hV
  obtain ⟨v0, v1, d0, d1, p0, p1, rfl, rfl, rfl, h0, h1⟩ := trodAll_two hA
  obtain ⟨rfl, rfl⟩ := trodVars_none hV
  have hv0 := hval0 0 22 v0 rfl rfl
  have hv1 := hval0 1 33 v1 rfl rfl
  have h0k := h0
  have h1k := h1
  obtain ⟨fuel, hf⟩ := h0
  obtain ⟨fuel1, hf1⟩ := h1
  obtain ⟨a0, len, cap, rfl⟩ := okWide_slice under22 hv0
  obtain ⟨a1, len1, cap1, rfl⟩ := okWide_slice under33 hv1
  obtain ⟨l, hent, hbd⟩ := enters_tab (enc := enc) modeT (fuel := fuel) (x := (d0, p0)) (fun a len' cap' e => by
    simp [Value.cells] at e
    obtain ⟨rfl, rfl, rfl⟩ := e
    exact heap_pos under22 hv0) hf
  obtain ⟨_, b2⟩ := hbd reachBytes (by
    rw [List.all_eq_true] at hsz0 ⊢
    intro n hn
    exact hsz0 n (DataW.weights_mem_each (j := 0) (t := 22) (d := d0) (by simp) (by simp) n hn))
  obtain ⟨zs, hent1, hzb⟩ : ∃ zs : List Int, Enters W (Value.slice a1 len1 cap1).cells.toList (fun m xs => ∃ s, xs = [s] ∧ RInts m s zs) ∧ (Tryz.prog.bytesOf 3 = 8 → ∀ B, (d1.weights Tryz.prog 33).all (· ≤ B) = true → zs.length ≤ B) := by
    by_cases hne : 0 < W.heap.size
    · exact enters_ints (x := (d1, p1)) hne under33 under3 cells3i hf1
    · rcases open_ints under33 under3 cells3i hf1 with ⟨hcs, hx⟩ | ⟨a, len, cap, zs, hcs, _⟩
      · rw [hcs]
        refine ⟨[], fun ρ m hs hm => ⟨ρ, m, [.nilslice], List.prefix_refl _, List.prefix_refl _, hm, hs, by simp [VRs, VR], .nilslice, rfl, Sl.nil⟩, by simp⟩
      · simp [Value.cells] at hcs
        obtain ⟨rfl, rfl, rfl⟩ := hcs
        exact absurd (heap_pos under33 hv1) hne
  have b3 := hzb bytes3 reachBytes (by
    rw [List.all_eq_true] at hsz0 ⊢
    intro n hn
    exact hsz0 n (DataW.weights_mem_each (j := 1) (t := 33) (d := d1) (by simp) (by simp) n hn))
  obtain ⟨ρ', m', xs, _, _, hro, hsim, hvr, sv, rfl, hT⟩ := hent [] [] (Sim.nil W) RoMem.nil
  obtain ⟨ρ2, m2, xs2, hρ2, hm2, hro2, hsim2, hvr2, tv, rfl, hI⟩ := hent1 ρ' m' hsim hro
  simp only [VRs] at hvr hvr2
  obtain ⟨_, _, e, hvr, rfl⟩ := hvr
  obtain ⟨_, _, e2, hvr2, rfl⟩ := hvr2
  simp [Value.cells] at e e2
  subst e e2
  replace hvr := VR.mono hρ2 _ _ hvr
  have hlt : ∀ x ∈ p0, x.block < W.heap.size := fun x hx => hW'.lt x (by simp [hx])
  have hlt1 : ∀ x ∈ p1, x.block < W.heap.size := fun x hx => hW'.lt x (by simp [hx])
  refine ((law m2 sv tv l zs (hT.mono hm2) hI b2 b3).2 ρ2 W #[.slice a0 len cap, .slice a1 len1 cap1] hsim2 (by simp only [VRs]; exact ⟨_, _, rfl, hvr, _, _, rfl, hvr2, rfl⟩)).mono fun e W' h => ?_
  obtain ⟨v', v, m'', ρ'', rfl, rfl, hv, _, hev⟩ := h
  simp only [VR] at hv
  subst hv
  have hb := below_of_evol hro2 hev
  refine ⟨_, rfl, [d0, _], [], _, [], p0 ++ (p1 ++ []), [], hW', ?_, ?_, ?_, hb.frame _, fun h => by cases h⟩
  · rw [hr]
    show DataW.TrodAll enc _ W' _ _ _ [4] _ (s.fn H [d0, _]).results []
    rw [hsf]
    exact trodAll_mk1 (shut_bool under4 true)
  · rw [hp]
    show DataW.TrodAll enc _ W' _ _ _ [22, 33] _ (s.fn H [d0, _]).args _
    rw [hsf]
    exact trodAll_cons_mk (Below.trod laidOut (by kernel_rfl) (of_decide_eq_true (by kernel_rfl)) h0k hb hlt) (trodAll_cons_mk (Below.trod laidOut (by kernel_rfl) (of_decide_eq_true (by kernel_rfl)) h1k hb hlt1) trodAll_mk0)
  · show DataW.TrodVars enc _ W' _ s.vars (s.fn H [d0, _]).vars _
    rw [hsf, hs]
    rfl
end Go.Proofs.YtheadodblifklaaGreat

namespace Go.Proofs.YtheadodblifklaaGreat
open Go Ax Go.ChangeShapes Go.WideShapes Go.ChangeAt Go.RowKit
set_option maxRecDepth 100000
theorem base_nf {l : List Md} (hc : checkI l = 0) {x j : Nat} (hx : ¬ FlexP l x) (hj : IsBase l x j) : ¬ FlexP l j := by
  unfold IsBase at hj
  split at hj
  · exact part_nflex hc hj
  · subst hj; exact hx
theorem base_nu {l : List Md} {x j : Nat} (hjl : j < l.length) (hj : IsBase l x j) : isU (mdAt l j) = false := by
  unfold IsBase at hj
  split at hj
  · rw [mdAt_eq hjl]; exact hj.2 _ (List.getElem?_eq_getElem hjl)
  · rename_i h; subst hj; simpa using h
open Relation in
open Classical in
theorem union_part {l : List Md} (hc : checkI l = 0) : ∀ (n u : Nat), (List.range l.length).countP (fun j => decide (TransGen (stepR l isU) u j)) < n → u < l.length → isU (mdAt l u) = true → ∃ j, IsPart l u j
  | 0, _, h, _, _ => by omega
  | n + 1, u, hn, hul, hu => by
    have ok := okT_of hc
    have hm : mdAt l u ∈ l := by rw [mdAt_eq hul]; exact List.getElem_mem hul
    have hone := (oneI_zero ((checkOk_iff.1 hc).one _ hm)).1
    have hk : (mdAt l u).kind = 12 := by simpa [isU] using hu
    have hlen : 0 < (mdAt l u).elems.length := by
      unfold shapeI at hone
      split at hone
      · omega
      · split at hone
        · rename_i h; have := h.1; simp [least, hk] at this; omega
        · omega
    have he : (mdAt l u).elems[0] ∈ (mdAt l u).elems := List.getElem_mem hlen
    have hg := ok.good _ hm _ he
    obtain ⟨b, hb⟩ : ∃ b : Nat, (mdAt l u).elems[0] = b := ⟨(mdAt l u).elems[0].toNat, by omega⟩
    rw [hb] at he hg
    have hbl : b < l.length := by omega
    have hst : stepR l isU u b := ⟨l[u], List.getElem?_eq_getElem hul, by rw [← mdAt_eq hul]; exact hu, by rw [← mdAt_eq hul]; exact he⟩
    by_cases hbu : isU (mdAt l b) = true
    · have hlt : (List.range l.length).countP (fun j => decide (TransGen (stepR l isU) b j)) < (List.range l.length).countP (fun j => decide (TransGen (stepR l isU) u j)) := by
        refine countP_lt (x := b) (fun y _ hy => ?_) (List.mem_range.2 hbl) ?_ ?_
        · simp only [decide_eq_true_eq] at hy ⊢
          exact TransGen.head' hst hy
        · simp only [decide_eq_false_iff_not]
          intro h
          refine ok.acy b (TransGen.mono' (fun x y => ?_) h)
          rintro ⟨z, h1, h2, h3⟩
          exact ⟨z, h1, by have : z.kind = 12 := by simpa [isU] using h2
                           simp [yinB, this], h3⟩
        · simp only [decide_eq_true_eq]
          exact .single hst
      obtain ⟨j, h1, h2⟩ := union_part hc n b (by omega) hbl hbu
      exact ⟨j, TransGen.head' hst h1, h2⟩
    · exact ⟨b, .single hst, fun y hy => by
        rw [List.getElem?_eq_getElem hbl] at hy
        cases hy
        rw [← mdAt_eq hbl]; simpa using hbu⟩
set_option maxHeartbeats 8000000 in
open Classical in
theorem k29 (s t : AVal) (l : List Md) (ms : List Int) (m : AMem) (hs : RTab m s l) (ht : RInts m t ms) (hsz : ∀ x ∈ l, smallN x) (h40 : ∀ y ∈ l, y.elems.length < 2 ^ 40 ∧ y.names.length < 2 ^ 40) (hn : l.length ≤ 60) (hm8 : ms.length < 2 ^ 20) :
    ACalls Tryz.prog 29 [s, t] m fun w m' => m <+: m' ∧ ∃ t', w = .tuple [t', .int .i64 (joinsI l ms).2.1, .int .i64 (joinsI l ms).2.2] ∧ RTab m' t' (joinsI l ms).1 := by
  refine w29 ?_
  simp
  refine C_of (k37 s t l ms m hs ht hsz (by omega) (by omega)) ?_
  rintro _ m2 ⟨rfl, hm2⟩
  simp
  refine bbind_intro (fun h => ?_) fun h => ?_
  · have h : rightI l ms ≠ 0 := by simpa using h
    have hW : joinsI l ms = ([], 0, rightI l ms) := by unfold joinsI; rw [if_pos h]
    simp [hW]
    exact ⟨hm2, RTab.nil0 _⟩
  have hr : rightI l ms = 0 := by simpa using h
  obtain ⟨hc, ns, rfl, hns⟩ := rightA hr
  have ok := okT_of hc
  have hW : joinsI l (ns.map fun z : Nat => (z : Int)) = if ns.length = 0 then ([], 0, 12) else if (ns.any fun x => decide (FlexP l x)) = true then ([], 0, 7) else ofI l (allI l ns) := by
    unfold joinsI
    rw [if_neg (by simp [hr]), List.length_map, List.any_map, List.map_map]
    have : (Int.toNat ∘ fun z : Nat => (z : Int)) = id := rfl
    rw [this, List.map_id]
    rfl
  rw [List.length_map] at hm8
  have htl : ∀ m', m <+: m' → lenE t = some (.int .i64 ns.length) := fun m' h => by have := (ht.mono h).len; rw [List.length_map] at this; exact this
  have htl0 := htl m (List.prefix_refl _)
  simp [htl0]
  by_cases h0 : ns.length = 0
  · rw [if_pos h0] at hW
    simp [h0, hW]
    exact ⟨hm2, RTab.nil0 _⟩
  rw [if_neg h0] at hW
  have h0' : ¬ (ns.length : Int) = 0 := by omega
  simp [beqF h0']
  obtain ⟨J, hJ⟩ : ∃ J : AFrame → AMem → Prop, ∀ f m', J f m' ↔ (∃ (o : AVal), f.forget [0, 1, 8] = mat 46 [(0, s), (1, t), (8, o)] ∧ m2 <+: m' ∧ OwL natI m2.length m' 3 o (ns.flatMap (basesOf l)) ∧ ∀ x ∈ ns, ¬ FlexP l x) := ⟨_, fun _ _ => Iff.rfl⟩
  have hlen : ∀ k, ((ns.take k).flatMap (basesOf l)).length ≤ k * 60 := fun k => by
    induction k with
    | zero => simp
    | succ k ih =>
      by_cases hk : k < ns.length
      · rw [List.take_add_one, List.getElem?_eq_getElem hk, List.flatMap_append, List.length_append]
        have hb := (basesEx ok.good (hns _ (List.getElem_mem hk))).length ok.good (hns _ (List.getElem_mem hk))
        simp only [Option.toList_some, List.flatMap_cons, List.flatMap_nil, List.append_nil]
        omega
      · rw [List.take_of_length_le (by omega)] at ih ⊢
        omega
  refine W_JB J ?_ ?_
  · obtain ⟨I, hI⟩ : ∃ I : Nat → AFrame → AMem → Prop, ∀ q f m', I q f m' ↔ (∃ (k : Nat) (o : AVal), k + q = ns.length ∧ f = h29_0 s t o (.int .i64 k) ∧ m2 <+: m' ∧ OwL natI m2.length m' 3 o ((ns.take k).flatMap (basesOf l)) ∧ ∀ x ∈ ns.take k, ¬ FlexP l x) := ⟨_, fun _ _ _ => Iff.rfl⟩
    refine W_loop I ns.length ((hI _ _ _).2 ⟨0, .nilslice, by simp, by simp, List.prefix_refl _, OwL.nil, by simp⟩) ?_
    rintro q f m5 hIn
    obtain ⟨k, o, hq, rfl, hm5, hO, hF⟩ := (hI _ _ _).1 hIn
    clear hIn
    simp [htl0]
    refine bbind_dec (fun hkl => ?_) fun hkl => ?_
    · have hw := step64 hkl (by omega)
      have hm05 := hm2.trans hm5
      obtain ⟨b1', o1, g1, g2⟩ := (ht.mono hm05).at (i := k) (by simpa using hkl)
      simp at g2
      have hxk := hns _ (List.getElem_mem hkl)
      have hxm : ns[k] ∈ ns := List.getElem_mem hkl
      have htk : ns.take (k + 1) = ns.take k ++ [ns[k]] := by rw [List.take_add_one, List.getElem?_eq_getElem hkl]; rfl
      have hlk := hlen k
      generalize ns[k] = x at *
      simp [g1, g2]
      refine C_of (k64 s l x hxk m5 (hs.mono hm05) hsz hc) ?_
      rintro _ m6 ⟨hm6, b, rfl, hb⟩
      simp
      cases b
      rotate_left
      · have hfx : (ns.any fun x => decide (FlexP l x)) = true := List.any_eq_true.2 ⟨x, hxm, by simpa using hb.1 rfl⟩
        rw [if_pos hfx] at hW
        simp [hW]
        exact ⟨hm05.trans hm6, RTab.nil0 _⟩
      have hnf : ¬ FlexP l x := fun h => by have := hb.2 h; cases this
      simp [g1, loadE_mono hm6 g2]
      refine C_of (k40 s l x m6 (hs.mono (hm05.trans hm6)) hsz hc hxk) ?_
      rintro v7 m7 ⟨hm7, zs, hZ, hB⟩
      have hzl := hB.length ok.good hxk
      obtain rfl := hB.eq
      obtain ⟨o', m8, happ, hch8, hO8, hbl⟩ := (hO.mono (hm6.trans hm7)).append (by have := (hm5.trans (hm6.trans hm7)).length_le; omega) (by_ := 8) (by decide) (basesOf l x) (by
        have : (k + 1) * 60 * 8 ≤ 140737488355328 := by omega
        omega)
      have hsc : sliceCells m7 1 v7 = some ((basesOf l x).length, (basesOf l x).map natI) := by
        have := ints_append (ints_of_nat hZ)
        rw [List.length_map, List.map_map] at this
        exact this
      have hm57 := hm6.trans hm7
      simp [hsc, happ, hw]
      refine ⟨q - 1, by omega, (hI _ _ _).2 ⟨k + 1, o', by omega, by simp, hch8.pre (hm5.trans hm57) fun b hb e => by have := (hO.blk_lo e).1; omega, ?_, fun y hy => ?_⟩⟩
      · rw [htk, List.flatMap_append, List.flatMap_cons, List.flatMap_nil, List.append_nil]
        exact hO8
      · rw [htk] at hy
        rcases List.mem_append.1 hy with hy | hy
        · exact hF y hy
        · rw [List.mem_singleton.1 hy]; exact hnf
    · have hkl : k = ns.length := by omega
      subst hkl
      rw [List.take_length] at hO hF
      simp
      exact (hJ _ _).2 ⟨o, by simp, hm5, hO, hF⟩
  intro f m5 hJ2
  obtain ⟨o, hf, hm5, hO, hF⟩ := (hJ _ _).1 hJ2
  clear hJ2 hJ
  have hm05 := hm2.trans hm5
  have hfx : (ns.any fun x => decide (FlexP l x)) = false := by
    rw [List.any_eq_false]
    intro x hx
    simpa using hF x hx
  rw [if_neg (by rw [hfx]; simp)] at hW
  have hsub : ∀ z ∈ ns.flatMap (basesOf l), ∃ x ∈ ns, IsBase l x z := fun z hz => by
    obtain ⟨x, h1, h2⟩ := List.mem_flatMap.1 hz
    exact ⟨x, h1, basesOf_sub ok.good (hns x h1) h2⟩
  have hnsl := hlen ns.length
  rw [List.take_length] at hnsl
  simp [hf]
  refine C_of (k57 s o t l (ns.flatMap (basesOf l)) ns m5 (hs.mono hm05) (ints_of_nat hO) (ht.mono hm05) hc (fun z hz => by
    obtain ⟨x, h1, h2⟩ := hsub z hz
    exact h2.lt ok.good (hns x h1)) (fun z hz => by
    obtain ⟨x, h1, h2⟩ := hsub z hz
    exact base_nf hc (hF x h1) h2) hns hsz h40 hn (by omega) (by omega)) ?_
  rintro _ m6 ⟨hm6, t', all, hsb, rfl, hT⟩
  obtain rfl : all = allI l ns := hsb.unique (allI_sorted l ns) fun _ => Iff.rfl
  have hal := allI_len ok.good hns
  have hz : ∀ z ∈ allI l ns, z < l.length ∧ isU (mdAt l z) = false ∧ ¬ FlexP l z := fun z hz => by
    obtain ⟨x, h1, h2⟩ := allI_sub ok.good hns hz
    have h3 := h2.lt ok.good (hns x h1)
    exact ⟨h3, base_nu h3 h2, base_nf hc (hF x h1) h2⟩
  have hne : allI l ns ≠ [] := fun e => by
    have hx : ns[0] ∈ ns := List.getElem_mem (by omega)
    obtain ⟨w, h1⟩ : ∃ w, w ∈ basesOf l ns[0] := by
      have hB := basesEx ok.good (hns _ hx)
      cases hu : isU (mdAt l ns[0])
      · exact ⟨ns[0], by rw [hB.el hu]; simp⟩
      · obtain ⟨j, hj⟩ := union_part hc _ _ (Nat.lt_succ_self _) (hns _ hx) hu
        obtain ⟨w, h2, _⟩ := basesOf_cov ok.good (hns _ hx) (j := j) (by unfold IsBase; rw [if_pos hu]; exact hj)
        exact ⟨w, h2⟩
    obtain ⟨z, h2, _⟩ := (allI_sorted l ns).cov w (List.mem_flatMap.2 ⟨_, hx, h1⟩)
    rw [e] at h2
    cases h2
  have hJI := joinI_of hc (by omega) hz hne (by omega) hns
  rw [hJI] at hT
  simp [hW, hJI]
  exact ⟨hm05.trans hm6, hT⟩
theorem ofI_small' {l : List Md} {zs : List Nat} (hl : ∀ y ∈ l, smallN y) (hz : ∀ z ∈ zs, z < l.length) (hn : zs.length ≤ l.length) (h60 : l.length ≤ 60) : (∀ y ∈ (ofI l zs).1, smallN y) ∧ (ofI l zs).1.length ≤ l.length + 1 := ⟨ofI_small hl hz (by omega), ofI_len _ _⟩
theorem joins_small {l : List Md} (hn : l.length ≤ 60) (hl : ∀ y ∈ l, smallN y) (ms : List Int) : (∀ y ∈ (joinsI l ms).1, smallN y) ∧ (joinsI l ms).1.length ≤ l.length + 1 := by
  unfold joinsI
  split
  · simp
  · rename_i h
    obtain ⟨hc, ns, rfl, hns⟩ := rightA (by simpa using h)
    have ok := okT_of hc
    split
    · simp
    · split
      · simp
      · have : (List.map Int.toNat (ns.map fun z : Nat => (z : Int))) = ns := by
          rw [List.map_map]
          have : (Int.toNat ∘ fun z : Nat => (z : Int)) = id := rfl
          rw [this, List.map_id]
        rw [this]
        exact ofI_small' hl (fun z hz => by
          obtain ⟨x, h1, h2⟩ := allI_sub ok.good hns hz
          exact h2.lt ok.good (hns x h1)) (allI_len ok.good hns) hn
theorem k8 : LawTI 8 := by
  intro m s t l ms hs ht hb hml
  refine w8 ?_
  simp
  refine C_of (k10 m) ?_
  rintro _ m1 ⟨rfl, hm1⟩
  simp
  refine C_of (k11 s l 12 m1 (hs.mono hm1) (by omega)) ?_
  rintro _ m2 ⟨rfl, hm2⟩
  have hm02 := hm1.trans hm2
  have htl := ht.len
  cases hsm : (decide ((l.length : Int) ≤ 12) && l.all fun x => decide (x.elems.length ≤ 6) && decide (x.names.length ≤ 6))
  · simp
  · have hf := fits_of hb hsm
    have hn := hf.n
    have hn12 := hf.n12
    simp [htl]
    refine bbind_dec (fun h8 => ?_) fun h8 => ?_
    · simp
    simp
    refine C_of (k28 s t l ms m2 (hs.mono hm02) (ht.mono hm02) hf.sm hf.h40 (by omega) (by omega)) ?_
    rintro _ m3 ⟨hm3, t1, rfl, hT⟩
    simp
    refine C_of (k29 s t l ms m3 (hs.mono (hm02.trans hm3)) (ht.mono (hm02.trans hm3)) hf.sm hf.h40 (by omega) (by omega)) ?_
    rintro _ m4 ⟨hm4, t2, rfl, hT'⟩
    obtain ⟨h1, h2⟩ := joins_small (by omega) hf.sm ms
    simp
    refine C_of (k26 t1 t2 _ m4 (hT.mono hm4) hT' h1 (by omega)) ?_
    rintro _ m5 ⟨rfl, hm5⟩
    simp
noncomputable def fn8 : Func := (Tryz.checked.prog.funcs[8]?).get (by kernel_rfl)
theorem func8 : Tryz.checked.prog.funcs[8]? = some fn8 := by kernel_rfl
theorem unionsJoins_holds : Rows.UnionsJoinsSaid :=
  OpenClaim.holds_of_wide 8 fn8 rfl rfl rfl rfl rfl rfl rfl ⟨rfl, rfl, rfl, rfl, rfl⟩ rfl rfl rfl rfl rfl (by kernel_rfl) func8 (by kernel_rfl)
    (of_decide_eq_true (by kernel_rfl)) (by unfold Func.isWrapper; rw [if_neg (of_decide_eq_false (by kernel_rfl))]; exact ⟨rfl, rfl⟩)
    (fun os started H enc _ => liftedI (s := Rows.unionsJoinsSpec) (conds := Rows.unionsJoinsRow.domain) started (by kernel_rfl) func8 (by kernel_rfl) (by kernel_rfl) rfl (fun _ _ => rfl)
      (ChangeSpec.witness6 (enc := enc) (C := Tryz.checked) false ⟨#[], #[.slice none 0 0, .slice none 0 0], []⟩ 8 (by kernel_rfl) (by kernel_rfl) (by kernel_rfl) (by kernel_rfl)) k8)
end Go.Proofs.YtheadodblifklaaGreat

