/- Texts holds, for every input.  Conditions: none. -/
import Derived.Test.YtlniliigcnedmaaGreatDoorE7
set_option linter.unusedSimpArgs false
set_option linter.unusedVariables false
namespace Go.Proofs.YtlniliigcnedmaaGreatDoor
open Go Ax Go.ChangeShapes Go.WideShapes Go.ChangeAt Go.RowKit
set_option maxRecDepth 100000
noncomputable def fn3 : Func := (Tryz.checked.prog.funcs[3]?).get (by kernel_rfl)
theorem func3 : Tryz.checked.prog.funcs[3]? = some fn3 := by kernel_rfl
theorem plain246 (f : FuncId) (fn : Func) (hf : Tryz.pinned.checked.prog.funcNamed "environ/environlaw10.AlikeTexts" = some f) (hfn : Tryz.pinned.checked.prog.funcs[f]? = some fn) :
    false = Tryz.pinned.checked.prog.looks [] ∧ ∀ (j : Nat) t, fn.params[j]? = some t → Tryz.pinned.checked.prog.wantsStandIn t = false := by
  obtain rfl : f = 3 := Option.some.inj ((show Tryz.prog.funcNamed "environ/environlaw10.AlikeTexts" = some 3 by kernel_rfl).symm.trans hf) |>.symm
  obtain rfl : fn = fn3 := (Option.some.inj (func3.symm.trans hfn)).symm
  refine ⟨by kernel_rfl, fun j t ht => ?_⟩
  rw [show fn3.params = #[22, 3] by kernel_rfl] at ht
  have h : t = 22 ∨ t = 3 := by simpa using Array.mem_of_getElem? ht
  rcases h with rfl | rfl
  · exact (show Tryz.prog.wantsStandIn 22 = false by kernel_rfl)
  · exact (show Tryz.prog.wantsStandIn 3 = false by kernel_rfl)
theorem said246 : Rows.AlikeTextsSaid :=
  OpenClaim.holds_of_cond 3 fn3 rfl rfl rfl rfl rfl rfl rfl ⟨rfl, rfl, rfl, rfl, rfl⟩ rfl rfl rfl rfl rfl (by kernel_rfl) func3 (by kernel_rfl)
    (of_decide_eq_true (by kernel_rfl)) (by unfold Func.isWrapper; rw [if_neg (of_decide_eq_false (by kernel_rfl))]; exact ⟨rfl, rfl⟩)
    (fun os started H enc _ F => by
      rw [OpenClaim.pre_eq_preRow]
      exact liftedD2i (F := F) (s := Rows.alikeTextsSpec) (conds := Rows.alikeTextsRow.domain) started (by kernel_rfl) func3 (by kernel_rfl) (by kernel_rfl) rfl (fun _ _ => rfl)
        (witJ (by kernel_rfl) rfl (by kernel_rfl) rfl rfl (by kernel_rfl)) k3)
theorem alikeTexts_holds : Rows.AlikeTextsCardSaid :=
  Claim7.holds_tied_plain_at .later [] _ _ _ _ said246 (fun _ h => by cases h) (by kernel_rfl) (fun _ h => by cases h) alikeTexts_row_tie rfl ⟨rfl, rfl⟩ (by kernel_rfl) rfl plain246 (by kernel_rfl)
end Go.Proofs.YtlniliigcnedmaaGreatDoor
