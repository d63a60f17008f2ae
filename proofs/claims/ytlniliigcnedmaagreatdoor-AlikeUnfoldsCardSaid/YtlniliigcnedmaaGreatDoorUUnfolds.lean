/- Unfolds holds, for every input.  Conditions: none. -/
import Derived.Test.YtlniliigcnedmaaGreatDoorU6
set_option linter.unusedSimpArgs false
set_option linter.unusedVariables false
namespace Go.Proofs.YtlniliigcnedmaaGreatDoor
open Go Ax Go.ChangeShapes Go.WideShapes Go.ChangeAt Go.RowKit
set_option maxRecDepth 100000
def argUnfolds : Array Value := #[.slice none 0 0, .int .i64 0, .int .i64 0]
theorem laid_metUnfolds (os : Os) : laidMet Tryz.prog laidL ((laidWorld os).forCall (fun _ _ => 0) ⟨#[], argUnfolds, []⟩).memory :=
  laidMet_of_run' 8 (by kernel_rfl) (by kernel_rfl)
theorem witUnfolds {os : Os} {f : FuncId} {fn : Func} {s : ChangeSpec} {conds : List PathCond} {H : Type} {enc : TypeId × Value → H} (hp : fn.params = #[22, 3, 3]) (hs : s.vars = [])
    (hok : Input.okWideB Tryz.checked.prog ((laidWorld os).forCall (fun _ _ => 0) ⟨#[], argUnfolds, []⟩) f ⟨#[], argUnfolds, []⟩ = true) (hc : conds = []) (hsp : (OpenSpec.ofChange s).cond = none)
    (hsz : (OpenSpec.ofChange s).bare.sizedB enc Tryz.prog fn false ((laidWorld os).forCall (fun _ _ => 0) ⟨#[], argUnfolds, []⟩).memory argUnfolds 8 = true) :
    ∃ (w : World) (tape : Tape) (i : Input), w.os = os ∧ (w.forCall tape i).Shaped Tryz.checked.prog ∧ i.vars = [] ∧ Input.okWide Tryz.checked.prog (w.forCall tape i) .any w.heap.size f i ∧
      (OpenSpec.ofChange s).preRow enc Tryz.prog fn conds false laidL (w.forCall tape i).memory i.args ∧ ({} : Assume).holds Tryz.checked.prog (lone (Frame.enter Tryz.checked.prog f i.args .normal) [] (w.forCall tape i)) := by
  have hx : ∃ places, DataW.whole enc Tryz.prog ((laidWorld os).forCall (fun _ _ => 0) ⟨#[], argUnfolds, []⟩).memory fn.params.toList s.vars false argUnfolds.toList 8 = some ([.nil, .lit (.int .i64 0), .lit (.int .i64 0)], [], places) := by
    rw [hp, hs]
    exact ⟨[], by kernel_rfl⟩
  obtain ⟨places, hx⟩ := hx
  exact witness_row_at (enc := enc) (C := Tryz.checked) (s := OpenSpec.ofChange s) false (laidWorld os) argUnfolds rfl (by kernel_rfl) (by kernel_rfl) hok
    (OpenSpec.preRow_of_cond 8 hx (by rw [hc]; rfl) (fun k hk => by rw [hsp] at hk; cases hk) hsz (laid_metUnfolds os))
noncomputable def fn10 : Func := (Tryz.checked.prog.funcs[10]?).get (by kernel_rfl)
theorem func10 : Tryz.checked.prog.funcs[10]? = some fn10 := by kernel_rfl
theorem plain253 (f : FuncId) (fn : Func) (hf : Tryz.pinned.checked.prog.funcNamed "environ/environlaw10.AlikeUnfolds" = some f) (hfn : Tryz.pinned.checked.prog.funcs[f]? = some fn) :
    false = Tryz.pinned.checked.prog.looks [] ∧ ∀ (j : Nat) t, fn.params[j]? = some t → Tryz.pinned.checked.prog.wantsStandIn t = false := by
  obtain rfl : f = 10 := Option.some.inj ((show Tryz.prog.funcNamed "environ/environlaw10.AlikeUnfolds" = some 10 by kernel_rfl).symm.trans hf) |>.symm
  obtain rfl : fn = fn10 := (Option.some.inj (func10.symm.trans hfn)).symm
  refine ⟨by kernel_rfl, fun j t ht => ?_⟩
  rw [show fn10.params = #[22, 3, 3] by kernel_rfl] at ht
  have h : t = 22 ∨ t = 3 := by simpa using Array.mem_of_getElem? ht
  rcases h with rfl | rfl
  · exact (show Tryz.prog.wantsStandIn 22 = false by kernel_rfl)
  · exact (show Tryz.prog.wantsStandIn 3 = false by kernel_rfl)
theorem said253 : Rows.AlikeUnfoldsSaid :=
  OpenClaim.holds_of_cond 10 fn10 rfl rfl rfl rfl rfl rfl rfl ⟨rfl, rfl, rfl, rfl, rfl⟩ rfl rfl rfl rfl rfl (by kernel_rfl) func10 (by kernel_rfl)
    (of_decide_eq_true (by kernel_rfl)) (by unfold Func.isWrapper; rw [if_neg (of_decide_eq_false (by kernel_rfl))]; exact ⟨rfl, rfl⟩)
    (fun os started H enc _ F => by
      rw [OpenClaim.pre_eq_preRow]
      exact liftedD3 (F := F) (s := Rows.alikeUnfoldsSpec) (conds := Rows.alikeUnfoldsRow.domain) started (by kernel_rfl) func10 (by kernel_rfl) (by kernel_rfl) rfl (fun _ _ _ => rfl)
        (witUnfolds (by kernel_rfl) rfl (by kernel_rfl) rfl rfl (by kernel_rfl)) k10)
theorem alikeUnfolds_holds : Rows.AlikeUnfoldsCardSaid :=
  Claim7.holds_tied_plain_at .later [] _ _ _ _ said253 (fun _ h => by cases h) (by kernel_rfl) (fun _ h => by cases h) alikeUnfolds_row_tie rfl ⟨rfl, rfl⟩ (by kernel_rfl) rfl plain253 (by kernel_rfl)
end Go.Proofs.YtlniliigcnedmaaGreatDoor
