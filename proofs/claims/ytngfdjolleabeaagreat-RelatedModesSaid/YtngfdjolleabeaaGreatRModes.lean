/- Modes holds, for every input.  Conditions: none. -/
import Derived.Test.YtngfdjolleabeaaGreatR6
set_option linter.unusedSimpArgs false
set_option linter.unusedVariables false
namespace Go.Proofs.YtngfdjolleabeaaGreat
open Go Ax Go.ChangeShapes Go.WideShapes Go.ChangeAt Go.RowKit
set_option maxRecDepth 100000
set_option maxHeartbeats 4000000 in
theorem k4 : LawTII 4 := by
  intro m s l u v hs _ hb
  refine w4 ?_
  simp
  refine C_of (k11 m) ?_
  rintro _ m1 ⟨rfl, hm1⟩
  simp
  refine C_of (k12 s l 10 m1 (hs.mono hm1) (by omega)) ?_
  rintro _ m2 ⟨rfl, hm2⟩
  have hm02 := hm1.trans hm2
  cases hsm : (decide ((l.length : Int) ≤ 10) && l.all fun x => decide (x.elems.length ≤ 6) && decide (x.names.length ≤ 6))
  · simp
  · have hf := fitR hb hsm
    have hn := hf.n
    simp
    obtain ⟨w1, w4, w2, w3, is, e, hU⟩ := relU_form (relI l u.toNat v.toNat) (rightI l [u, v])
    refine C_of (k15 s l u v m2 (hs.mono hm02) hf.sm (by omega) hf.room) ?_
    rintro _ m3 ⟨hm3, rfl⟩
    rw [hU]
    simp
    rw [store_new _ _ [.bool w1, .int .i64 w2, .int .i64 w3, .bool w4] _ _ 4 rfl rfl rfl]
    have a7 : (m3 ++ [ABlk.own [.bool w1, .int .i64 w2, .int .i64 w3, .bool w4] 30 none])[m3.length]? = some (.own [.bool w1, .int .i64 w2, .int .i64 w3, .bool w4] 30 none) := by simp
    have hm34 : m3 <+: m3 ++ [ABlk.own [.bool w1, .int .i64 w2, .int .i64 w3, .bool w4] 30 none] := List.prefix_append _ _
    generalize m3 ++ [ABlk.own [.bool w1, .int .i64 w2, .int .i64 w3, .bool w4] 30 none] = m4 at *
    generalize m3.length = n7 at *
    simp
    refine C_of (k16 s l u v m4 (hs.mono ((hm02.trans hm3).trans hm34)) hf.sm (by omega) hf.room) ?_
    rintro _ m5 ⟨hm5, rfl⟩
    rw [hU]
    simp
    rw [store_new _ _ [.bool w1, .int .i64 w2, .int .i64 w3, .bool w4] _ _ 4 rfl rfl rfl]
    have a10 : (m5 ++ [ABlk.own [.bool w1, .int .i64 w2, .int .i64 w3, .bool w4] 33 none])[m5.length]? = some (.own [.bool w1, .int .i64 w2, .int .i64 w3, .bool w4] 33 none) := by simp
    have hm56 : m5 <+: m5 ++ [ABlk.own [.bool w1, .int .i64 w2, .int .i64 w3, .bool w4] 33 none] := List.prefix_append _ _
    have r7 := bxW (own_read (own_mono a7 (hm5.trans hm56))) 4
    have r10 := bxW (own_read a10) 4
    rw [readN_all (n := 4) rfl] at r7 r10
    generalize m5 ++ [ABlk.own [.bool w1, .int .i64 w2, .int .i64 w3, .bool w4] 33 none] = m6 at *
    simp [r7, r10, eqC]
noncomputable def fn4 : Func := (Tryz.checked.prog.funcs[4]?).get (by kernel_rfl)
theorem func4 : Tryz.checked.prog.funcs[4]? = some fn4 := by kernel_rfl
theorem relatedModes_holds : Rows.RelatedModesSaid :=
  OpenClaim.holds_of_wide 4 fn4 rfl rfl rfl rfl rfl rfl rfl ⟨rfl, rfl, rfl, rfl, rfl⟩ rfl rfl rfl rfl rfl (by kernel_rfl) func4 (by kernel_rfl)
    (of_decide_eq_true (by kernel_rfl)) (by unfold Func.isWrapper; rw [if_neg (of_decide_eq_false (by kernel_rfl))]; exact ⟨rfl, rfl⟩)
    (fun os started H enc _ => lifted3 (s := Rows.relatedModesSpec) (conds := Rows.relatedModesRow.domain) started (by kernel_rfl) func4 (by kernel_rfl) (by kernel_rfl) rfl (fun _ _ _ => rfl)
      (ChangeSpec.witness6 (enc := enc) (C := Tryz.checked) false ⟨#[], #[.slice none 0 0, .int .i64 0, .int .i64 0], []⟩ 8 (by kernel_rfl) (by kernel_rfl) (by kernel_rfl) (by kernel_rfl)) k4)
end Go.Proofs.YtngfdjolleabeaaGreat
