/- Equal holds, for every input.  Conditions: none. -/
import Derived.Test.YtlniliigcnedmaaGreatL6
set_option linter.unusedSimpArgs false
set_option linter.unusedVariables false
namespace Go.Proofs.YtlniliigcnedmaaGreat
open Go Ax Go.ChangeShapes Go.WideShapes Go.ChangeAt Go.RowKit
open Relation
set_option maxRecDepth 100000
set_option maxHeartbeats 8000000 in
theorem k4 : LawTA 4 := by
  intro m s l u v w hs hb
  refine w4 ?_
  simp
  have hb3 := readB_new m [.int .i64 u, .int .i64 v, .int .i64 w] 30 none
  have hm01 : m <+: m ++ [.own [.int .i64 u, .int .i64 v, .int .i64 w] 30 none] := List.prefix_append _ _
  generalize m ++ [.own [.int .i64 u, .int .i64 v, .int .i64 w] 30 none] = m0 at *
  generalize m.length = b3 at *
  refine C_of (k5 m0) ?_
  rintro _ m1 ⟨rfl, hm1⟩
  simp
  refine W_drawPR (by simp [maxDst]) rfl rfl ?_
  simp [POp.ev, bx (readB_mono hm1 hb3)]
  intro m2 hm2
  have hm02 := (hm01.trans hm1).trans hm2
  refine C_of (k6 s l 10 m2 (hs.mono hm02) (by omega)) ?_
  rintro _ m3 ⟨rfl, hm3⟩
  have hm03 := hm02.trans hm3
  cases hsm : (decide ((l.length : Int) ≤ 10) && l.all fun x => decide (x.elems.length ≤ 6) && decide (x.names.length ≤ 6))
  · simp
  have hf := fitR hb hsm
  have hn := hf.n
  simp [fillA, setN]
  have hA := OwL.new (f := AVal.int .i64) m3 3 [u, v, w]
  simp at hA
  have hm34 : m3 <+: m3 ++ [.own [.int .i64 u, .int .i64 v, .int .i64 w] 3 none] := List.prefix_append _ _
  generalize AVal.slice m3.length 0 3 3 none = t1 at *
  generalize m3 ++ [.own [.int .i64 u, .int .i64 v, .int .i64 w] 3 none] = m4 at *
  have hm04 := hm03.trans hm34
  refine C_of (k9 s t1 l [u, v, w] m4 (hs.mono hm04) hA.ints hf.sm (by omega) (by simp)) ?_
  rintro _ m5 ⟨rfl, hm5⟩
  have hm05 := hm04.trans hm5
  by_cases hri : rightI l [u, v, w] = 0
  rotate_left
  · simp [hri]
  obtain ⟨hc, a, b, c, rfl, rfl, rfl, ha, hb', hcl⟩ := right3 hri
  have hr := hf.room hc
  simp [hri]
  refine C_of (k10 s l a b m5 (hs.mono hm05) hf.sm hr.t13 hc ha hb') ?_
  rintro _ m6 ⟨rfl, hm6⟩
  have hm06 := hm05.trans hm6
  simp
  refine C_of (k11 s l a c m6 (hs.mono hm06) hf.sm (by omega) hf.room) ?_
  rintro _ m7 ⟨hm7, rfl⟩
  rw [relU_ok hc ha hcl]
  simp
  rw [rel_box _ _ _ rfl]
  have hm78 : m7 <+: m7 ++ [ABlk.own (wC (relI l a c)) 34 none] := List.prefix_append _ _
  generalize m7 ++ [ABlk.own (wC (relI l a c)) 34 none] = m8 at *
  have hm08 := (hm06.trans hm7).trans hm78
  simp
  refine C_of (k11 s l b c m8 (hs.mono hm08) hf.sm (by omega) hf.room) ?_
  rintro _ m9 ⟨hm9, rfl⟩
  rw [relU_ok hc hb' hcl]
  simp
  rw [rel_box _ _ _ rfl]
  have hm9a : m9 <+: m9 ++ [ABlk.own (wC (relI l b c)) 34 none] := List.prefix_append _ _
  generalize m9 ++ [ABlk.own (wC (relI l b c)) 34 none] = m10 at *
  have hm010 := (hm08.trans hm9).trans hm9a
  simp [fillA, setN]
  have hT1 := (two_ints m10 a b).ints
  have hT2 := (two_ints (m10 ++ [.own [.int .i64 a, .int .i64 b] 3 none]) c c).ints
  have hp1 : m10 ++ [.own [.int .i64 a, .int .i64 b] 3 none] <+: m10 ++ [ABlk.own [.int .i64 a, .int .i64 b] 3 none, .own [.int .i64 c, .int .i64 c] 3 none] := ⟨[.own [.int .i64 c, .int .i64 c] 3 none], by simp⟩
  replace hT1 := hT1.mono hp1
  have hp2 : m10 <+: m10 ++ [ABlk.own [.int .i64 a, .int .i64 b] 3 none, .own [.int .i64 c, .int .i64 c] 3 none] := List.prefix_append _ _
  simp at hT2
  generalize m10 ++ [ABlk.own [.int .i64 a, .int .i64 b] 3 none, .own [.int .i64 c, .int .i64 c] 3 none] = m11 at *
  have hm011 := hm010.trans hp2
  refine C_of (k7 s _ _ l [a, b] [c, c] m11 (hs.mono hm011) hT1 hT2 hf.sm (by omega) hf.room (by simp) (by simp)) ?_
  rintro _ m12 ⟨hm12, rfl⟩
  have hm012 := hm011.trans hm12
  rw [lists_two hc ha hb' hcl]
  clear hT1 hT2 hp1 hp2
  simp [fillA, setN]
  have hT1 := (two_ints m12 a b).ints
  have hT2 := (OwL.new (f := AVal.int .i64) (m12 ++ [.own [.int .i64 a, .int .i64 b] 3 none]) 3 [(c : Int)]).ints
  have hp1 : m12 ++ [.own [.int .i64 a, .int .i64 b] 3 none] <+: m12 ++ [ABlk.own [.int .i64 a, .int .i64 b] 3 none, .own [.int .i64 c] 3 none] := ⟨[.own [.int .i64 c] 3 none], by simp⟩
  replace hT1 := hT1.mono hp1
  have hp2 : m12 <+: m12 ++ [ABlk.own [.int .i64 a, .int .i64 b] 3 none, .own [.int .i64 c] 3 none] := List.prefix_append _ _
  simp at hT2
  generalize m12 ++ [ABlk.own [.int .i64 a, .int .i64 b] 3 none, .own [.int .i64 c] 3 none] = m13 at *
  have hm013 := hm012.trans hp2
  refine C_of (k7 s _ _ l [a, b] [c] m13 (hs.mono hm013) hT1 hT2 hf.sm (by omega) hf.room (by simp) (by simp)) ?_
  rintro _ m14 ⟨hm14, rfl⟩
  rw [lists_odd hc]
  have w0 : IntKind.i64.wrap 0 = 0 := by decide
  by_cases he : RR l a = RR l b
  · have := relI_left hr ha hb' hcl he
    simp [w0, he, this]
  · simp [w0, he]
noncomputable def fn4 : Func := (Tryz.checked.prog.funcs[4]?).get (by kernel_rfl)
theorem func4 : Tryz.checked.prog.funcs[4]? = some fn4 := by kernel_rfl
theorem relatedEqual_holds : Rows.RelatedEqualSaid :=
  OpenClaim.holds_of_wide 4 fn4 rfl rfl rfl rfl rfl rfl rfl ⟨rfl, rfl, rfl, rfl, rfl⟩ rfl rfl rfl rfl rfl (by kernel_rfl) func4 (by kernel_rfl)
    (of_decide_eq_true (by kernel_rfl)) (by unfold Func.isWrapper; rw [if_neg (of_decide_eq_false (by kernel_rfl))]; exact ⟨rfl, rfl⟩)
    (fun os started H enc _ => lifted2 (s := Rows.relatedEqualSpec) (conds := Rows.relatedEqualRow.domain) started (by kernel_rfl) func4 (by kernel_rfl) (by kernel_rfl) rfl (fun _ _ => rfl)
      (ChangeSpec.witness6 (enc := enc) (C := Tryz.checked) false ⟨#[], #[.slice none 0 0, .agg #[.int .i64 0, .int .i64 0, .int .i64 0]], []⟩ 8 (by kernel_rfl) (by kernel_rfl) (by kernel_rfl) (by kernel_rfl)) k4)
end Go.Proofs.YtlniliigcnedmaaGreat
