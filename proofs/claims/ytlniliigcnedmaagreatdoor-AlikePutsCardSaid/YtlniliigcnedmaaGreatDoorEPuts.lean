/- Puts holds, for every input.  Conditions: none. -/
import Derived.Test.YtlniliigcnedmaaGreatDoorE7
set_option linter.unusedSimpArgs false
set_option linter.unusedVariables false
namespace Go.Proofs.YtlniliigcnedmaaGreatDoor
open Go Ax Go.ChangeShapes Go.WideShapes Go.ChangeAt Go.RowKit
set_option maxRecDepth 100000
def argPuts : Array Value := #[.slice none 0 0, .agg #[.int .i64 0, .int .i64 0, .slice none 0 0, .slice none 0 0, .int .i64 0, .bool false]]
theorem laid_metPuts (os : Os) : laidMet Tryz.prog laidL ((laidWorld os).forCall (fun _ _ => 0) ⟨#[], argPuts, []⟩).memory :=
  laidMet_of_run' 8 (by kernel_rfl) (by kernel_rfl)
theorem witPuts {os : Os} {f : FuncId} {fn : Func} {s : ChangeSpec} {conds : List PathCond} {H : Type} {enc : TypeId × Value → H} (hp : fn.params = #[22, 39]) (hs : s.vars = [])
    (hok : Input.okWideB Tryz.checked.prog ((laidWorld os).forCall (fun _ _ => 0) ⟨#[], argPuts, []⟩) f ⟨#[], argPuts, []⟩ = true) (hc : conds = []) (hsp : (OpenSpec.ofChange s).cond = none)
    (hsz : (OpenSpec.ofChange s).bare.sizedB enc Tryz.prog fn false ((laidWorld os).forCall (fun _ _ => 0) ⟨#[], argPuts, []⟩).memory argPuts 8 = true) :
    ∃ (w : World) (tape : Tape) (i : Input), w.os = os ∧ (w.forCall tape i).Shaped Tryz.checked.prog ∧ i.vars = [] ∧ Input.okWide Tryz.checked.prog (w.forCall tape i) .any w.heap.size f i ∧
      (OpenSpec.ofChange s).preRow enc Tryz.prog fn conds false laidL (w.forCall tape i).memory i.args ∧ ({} : Assume).holds Tryz.checked.prog (lone (Frame.enter Tryz.checked.prog f i.args .normal) [] (w.forCall tape i)) := by
  have hx : ∃ places, DataW.whole enc Tryz.prog ((laidWorld os).forCall (fun _ _ => 0) ⟨#[], argPuts, []⟩).memory fn.params.toList s.vars false argPuts.toList 8 = some ([.nil, .agg [.lit (.int .i64 0), .lit (.int .i64 0), .nil, .nil, .lit (.int .i64 0), .lit (.bool false)]], [], places) := by
    rw [hp, hs]
    exact ⟨[], by kernel_rfl⟩
  obtain ⟨places, hx⟩ := hx
  exact witness_row_at (enc := enc) (C := Tryz.checked) (s := OpenSpec.ofChange s) false (laidWorld os) argPuts rfl (by kernel_rfl) (by kernel_rfl) hok
    (OpenSpec.preRow_of_cond 8 hx (by rw [hc]; rfl) (fun k hk => by rw [hsp] at hk; cases hk) hsz (laid_metPuts os))
noncomputable def fn12 : Func := (Tryz.checked.prog.funcs[12]?).get (by kernel_rfl)
theorem func12 : Tryz.checked.prog.funcs[12]? = some fn12 := by kernel_rfl
theorem plain255 (f : FuncId) (fn : Func) (hf : Tryz.pinned.checked.prog.funcNamed "environ/environlaw10.AlikePuts" = some f) (hfn : Tryz.pinned.checked.prog.funcs[f]? = some fn) :
    false = Tryz.pinned.checked.prog.looks [] ∧ ∀ (j : Nat) t, fn.params[j]? = some t → Tryz.pinned.checked.prog.wantsStandIn t = false := by
  obtain rfl : f = 12 := Option.some.inj ((show Tryz.prog.funcNamed "environ/environlaw10.AlikePuts" = some 12 by kernel_rfl).symm.trans hf) |>.symm
  obtain rfl : fn = fn12 := (Option.some.inj (func12.symm.trans hfn)).symm
  refine ⟨by kernel_rfl, fun j t ht => ?_⟩
  rw [show fn12.params = #[22, 39] by kernel_rfl] at ht
  have h : t = 22 ∨ t = 39 := by simpa using Array.mem_of_getElem? ht
  rcases h with rfl | rfl
  · exact (show Tryz.prog.wantsStandIn 22 = false by kernel_rfl)
  · exact (show Tryz.prog.wantsStandIn 39 = false by kernel_rfl)
theorem said255 : Rows.AlikePutsSaid :=
  OpenClaim.holds_of_cond 12 fn12 rfl rfl rfl rfl rfl rfl rfl ⟨rfl, rfl, rfl, rfl, rfl⟩ rfl rfl rfl rfl rfl (by kernel_rfl) func12 (by kernel_rfl)
    (of_decide_eq_true (by kernel_rfl)) (by unfold Func.isWrapper; rw [if_neg (of_decide_eq_false (by kernel_rfl))]; exact ⟨rfl, rfl⟩)
    (fun os started H enc _ F => by
      rw [OpenClaim.pre_eq_preRow]
      exact liftedDM (F := F) (s := Rows.alikePutsSpec) (conds := Rows.alikePutsRow.domain) started (by kernel_rfl) func12 (by kernel_rfl) (by kernel_rfl) rfl (fun _ _ => rfl)
        (witPuts (by kernel_rfl) rfl (by kernel_rfl) rfl rfl (by kernel_rfl)) k12)
theorem alikePuts_holds : Rows.AlikePutsCardSaid :=
  Claim7.holds_tied_plain_at .later [] _ _ _ _ said255 (fun _ h => by cases h) (by kernel_rfl) (fun _ h => by cases h) alikePuts_row_tie rfl ⟨rfl, rfl⟩ (by kernel_rfl) rfl plain255 (by kernel_rfl)
end Go.Proofs.YtlniliigcnedmaaGreatDoor
