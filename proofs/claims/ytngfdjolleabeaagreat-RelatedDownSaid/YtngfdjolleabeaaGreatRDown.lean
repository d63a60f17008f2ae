/- Down holds, for every input.  Conditions: none. -/
import Derived.Test.YtngfdjolleabeaaGreatR6
set_option linter.unusedSimpArgs false
set_option linter.unusedVariables false
namespace Go.Proofs.YtngfdjolleabeaaGreat
open Go Ax Go.ChangeShapes Go.WideShapes Go.ChangeAt Go.RowKit
set_option maxRecDepth 100000
set_option maxHeartbeats 4000000 in
theorem k7 : LawTJ 7 := by
  intro m s l u hs hb
  refine w7 ?_
  simp
  refine C_of (k11 m) ?_
  rintro _ m1 ⟨rfl, hm1⟩
  simp
  refine C_of (k12 s l 10 m1 (hs.mono hm1) (by omega)) ?_
  rintro _ m2 ⟨rfl, hm2⟩
  have hm02 := hm1.trans hm2
  cases hsm : (decide ((l.length : Int) ≤ 10) && l.all fun x => decide (x.elems.length ≤ 6) && decide (x.names.length ≤ 6))
  · simp
  · have hf := fitR hb hsm
    have hn := hf.n
    simp
    refine C_of (k18 s l u m2 (hs.mono hm02) hf.sm (by omega) hf.room) ?_
    rintro _ m3 ⟨hm3, t, rfl, hT⟩
    have hm03 := hm02.trans hm3
    simp
    refine C_of (k22 s l u m3 (hs.mono hm03) hf.sm (by omega) hf.room) ?_
    rintro _ m4 ⟨hm4, t', rfl, hT'⟩
    obtain ⟨h1, h2⟩ := downV_small hf u
    simp
    refine C_of (k23 t t' _ m4 (hT.mono hm4) hT' h1 (by omega)) ?_
    rintro _ m5 ⟨rfl, hm5⟩
    simp
noncomputable def fn7 : Func := (Tryz.checked.prog.funcs[7]?).get (by kernel_rfl)
theorem func7 : Tryz.checked.prog.funcs[7]? = some fn7 := by kernel_rfl
theorem relatedDown_holds : Rows.RelatedDownSaid :=
  OpenClaim.holds_of_wide 7 fn7 rfl rfl rfl rfl rfl rfl rfl ⟨rfl, rfl, rfl, rfl, rfl⟩ rfl rfl rfl rfl rfl (by kernel_rfl) func7 (by kernel_rfl)
    (of_decide_eq_true (by kernel_rfl)) (by unfold Func.isWrapper; rw [if_neg (of_decide_eq_false (by kernel_rfl))]; exact ⟨rfl, rfl⟩)
    (fun os started H enc _ => lifted2i (s := Rows.relatedDownSpec) (conds := Rows.relatedDownRow.domain) started (by kernel_rfl) func7 (by kernel_rfl) (by kernel_rfl) rfl (fun _ _ => rfl)
      (ChangeSpec.witness6 (enc := enc) (C := Tryz.checked) false ⟨#[], #[.slice none 0 0, .int .i64 0], []⟩ 8 (by kernel_rfl) (by kernel_rfl) (by kernel_rfl) (by kernel_rfl)) k7)
end Go.Proofs.YtngfdjolleabeaaGreat
