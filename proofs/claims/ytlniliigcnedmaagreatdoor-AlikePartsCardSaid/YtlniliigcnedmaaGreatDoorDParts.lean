/- Parts holds, for every input.  Conditions: none. -/
import Derived.Test.YtlniliigcnedmaaGreatDoorD6
set_option linter.unusedSimpArgs false
set_option linter.unusedVariables false
namespace Go.Proofs.YtlniliigcnedmaaGreatDoor
open Go Ax Go.ChangeShapes Go.WideShapes Go.ChangeAt Go.RowKit
set_option maxRecDepth 100000
noncomputable def fn7 : Func := (Tryz.checked.prog.funcs[7]?).get (by kernel_rfl)
theorem func7 : Tryz.checked.prog.funcs[7]? = some fn7 := by kernel_rfl
theorem plain250 (f : FuncId) (fn : Func) (hf : Tryz.pinned.checked.prog.funcNamed "environ/environlaw10.AlikeParts" = some f) (hfn : Tryz.pinned.checked.prog.funcs[f]? = some fn) :
    false = Tryz.pinned.checked.prog.looks [] ∧ ∀ (j : Nat) t, fn.params[j]? = some t → Tryz.pinned.checked.prog.wantsStandIn t = false := by
  obtain rfl : f = 7 := Option.some.inj ((show Tryz.prog.funcNamed "environ/environlaw10.AlikeParts" = some 7 by kernel_rfl).symm.trans hf) |>.symm
  obtain rfl : fn = fn7 := (Option.some.inj (func7.symm.trans hfn)).symm
  refine ⟨by kernel_rfl, fun j t ht => ?_⟩
  rw [show fn7.params = #[22, 3] by kernel_rfl] at ht
  have h : t = 22 ∨ t = 3 := by simpa using Array.mem_of_getElem? ht
  rcases h with rfl | rfl
  · exact (show Tryz.prog.wantsStandIn 22 = false by kernel_rfl)
  · exact (show Tryz.prog.wantsStandIn 3 = false by kernel_rfl)
theorem said250 : Rows.AlikePartsSaid :=
  OpenClaim.holds_of_cond 7 fn7 rfl rfl rfl rfl rfl rfl rfl ⟨rfl, rfl, rfl, rfl, rfl⟩ rfl rfl rfl rfl rfl (by kernel_rfl) func7 (by kernel_rfl)
    (of_decide_eq_true (by kernel_rfl)) (by unfold Func.isWrapper; rw [if_neg (of_decide_eq_false (by kernel_rfl))]; exact ⟨rfl, rfl⟩)
    (fun os started H enc _ F => by
      rw [OpenClaim.pre_eq_preRow]
      exact liftedD2i (F := F) (s := Rows.alikePartsSpec) (conds := Rows.alikePartsRow.domain) started (by kernel_rfl) func7 (by kernel_rfl) (by kernel_rfl) rfl (fun _ _ => rfl)
        (witJ (by kernel_rfl) rfl (by kernel_rfl) rfl rfl (by kernel_rfl)) k7)
theorem alikeParts_holds : Rows.AlikePartsCardSaid :=
  Claim7.holds_tied_plain_at .later [] _ _ _ _ said250 (fun _ h => by cases h) (by kernel_rfl) (fun _ h => by cases h) alikeParts_row_tie rfl ⟨rfl, rfl⟩ (by kernel_rfl) rfl plain250 (by kernel_rfl)
end Go.Proofs.YtlniliigcnedmaaGreatDoor
