/- Sound holds, for every input.  Conditions: none. -/
import Derived.Test.YtngfdjolleabeaaGreatS6
set_option linter.unusedSimpArgs false
set_option linter.unusedVariables false
namespace Go.Proofs.YtngfdjolleabeaaGreat
open Go Ax Go.ChangeShapes Go.WideShapes Go.ChangeAt Go.RowKit
open Relation
set_option maxRecDepth 100000
noncomputable def fn8 : Func := (Tryz.checked.prog.funcs[8]?).get (by kernel_rfl)
theorem func8 : Tryz.checked.prog.funcs[8]? = some fn8 := by kernel_rfl
theorem relatedSound_holds : Rows.RelatedSoundSaid :=
  OpenClaim.holds_of_wide 8 fn8 rfl rfl rfl rfl rfl rfl rfl ⟨rfl, rfl, rfl, rfl, rfl⟩ rfl rfl rfl rfl rfl (by kernel_rfl) func8 (by kernel_rfl)
    (of_decide_eq_true (by kernel_rfl)) (by unfold Func.isWrapper; rw [if_neg (of_decide_eq_false (by kernel_rfl))]; exact ⟨rfl, rfl⟩)
    (fun os started H enc _ => lifted2i (s := Rows.relatedSoundSpec) (conds := Rows.relatedSoundRow.domain) started (by kernel_rfl) func8 (by kernel_rfl) (by kernel_rfl) rfl (fun _ _ => rfl)
      (ChangeSpec.witness6 (enc := enc) (C := Tryz.checked) false ⟨#[], #[.slice none 0 0, .int .i64 0], []⟩ 8 (by kernel_rfl) (by kernel_rfl) (by kernel_rfl) (by kernel_rfl)) k8)
end Go.Proofs.YtngfdjolleabeaaGreat
