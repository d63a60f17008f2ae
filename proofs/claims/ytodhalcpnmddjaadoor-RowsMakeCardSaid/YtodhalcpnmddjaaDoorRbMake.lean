/- Make holds, for every input.  Conditions: none. -/
import Derived.Test.YtodhalcpnmddjaaDoorRb4
set_option linter.unusedSimpArgs false
set_option linter.unusedVariables false
set_option linter.unusedSectionVars false
namespace Go.Proofs.YtodhalcpnmddjaaDoor
open Go Ax Go.ChangeShapes Go.WideShapes Go.ChangeAt Go.RowKit
set_option maxRecDepth 100000
def argMake : Array Value := #[.slice none 0 0, .slice none 0 0, .int .i64 0]
theorem laid_metMake (os : Os) : laidMet Tryd.prog laidL ((laidWorld os).forCall (fun _ _ => 0) ⟨#[], argMake, []⟩).memory :=
  laidMet_of_run' 8 (by kernel_rfl) (by kernel_rfl)
theorem witMake {os : Os} {f : FuncId} {fn : Func} {s : ChangeSpec} {conds : List PathCond} {H : Type} {enc : TypeId × Value → H} (hp : fn.params = #[22, 22, 3]) (hs : s.vars = [])
    (hok : Input.okWideB Tryd.checked.prog ((laidWorld os).forCall (fun _ _ => 0) ⟨#[], argMake, []⟩) f ⟨#[], argMake, []⟩ = true) (hc : conds = []) (hsp : (OpenSpec.ofChange s).cond = none)
    (hsz : (OpenSpec.ofChange s).bare.sizedB enc Tryd.prog fn false ((laidWorld os).forCall (fun _ _ => 0) ⟨#[], argMake, []⟩).memory argMake 8 = true) :
    ∃ (w : World) (tape : Tape) (i : Input), w.os = os ∧ (w.forCall tape i).Shaped Tryd.checked.prog ∧ i.vars = [] ∧ Input.okWide Tryd.checked.prog (w.forCall tape i) .any w.heap.size f i ∧
      (OpenSpec.ofChange s).preRow enc Tryd.prog fn conds false laidL (w.forCall tape i).memory i.args ∧ ({} : Assume).holds Tryd.checked.prog (lone (Frame.enter Tryd.checked.prog f i.args .normal) [] (w.forCall tape i)) := by
  have hx : ∃ places, DataW.whole enc Tryd.prog ((laidWorld os).forCall (fun _ _ => 0) ⟨#[], argMake, []⟩).memory fn.params.toList s.vars false argMake.toList 8 = some ([.nil, .nil, .lit (.int .i64 0)], [], places) := by
    rw [hp, hs]
    exact ⟨[], by kernel_rfl⟩
  obtain ⟨places, hx⟩ := hx
  exact witness_row_at (enc := enc) (C := Tryd.checked) (s := OpenSpec.ofChange s) false (laidWorld os) argMake rfl (by kernel_rfl) (by kernel_rfl) hok
    (OpenSpec.preRow_of_cond 8 hx (by rw [hc]; rfl) (fun k hk => by rw [hsp] at hk; cases hk) hsz (laid_metMake os))
noncomputable def fn3 : Func := (Tryd.checked.prog.funcs[3]?).get (by kernel_rfl)
theorem func3 : Tryd.checked.prog.funcs[3]? = some fn3 := by kernel_rfl
theorem plain328 (f : FuncId) (fn : Func) (hf : Tryd.pinned.checked.prog.funcNamed "environ/environlaw22.RowsMake" = some f) (hfn : Tryd.pinned.checked.prog.funcs[f]? = some fn) :
    false = Tryd.pinned.checked.prog.looks [] ∧ ∀ (j : Nat) t, fn.params[j]? = some t → Tryd.pinned.checked.prog.wantsStandIn t = false := by
  obtain rfl : f = 3 := Option.some.inj ((show Tryd.prog.funcNamed "environ/environlaw22.RowsMake" = some 3 by kernel_rfl).symm.trans hf) |>.symm
  obtain rfl : fn = fn3 := (Option.some.inj (func3.symm.trans hfn)).symm
  refine ⟨by kernel_rfl, fun j t ht => ?_⟩
  rw [show fn3.params = #[22, 22, 3] by kernel_rfl] at ht
  have h : t = 22 ∨ t = 3 := by simpa using Array.mem_of_getElem? ht
  rcases h with rfl | rfl
  · exact (show Tryd.prog.wantsStandIn 22 = false by kernel_rfl)
  · exact (show Tryd.prog.wantsStandIn 3 = false by kernel_rfl)
theorem said328 : Rows.RowsMakeSaid :=
  OpenClaim.holds_of_cond 3 fn3 rfl rfl rfl rfl rfl rfl rfl ⟨rfl, rfl, rfl, rfl, rfl⟩ rfl rfl rfl rfl rfl (by kernel_rfl) func3 (by kernel_rfl)
    (of_decide_eq_true (by kernel_rfl)) (by unfold Func.isWrapper; rw [if_neg (of_decide_eq_false (by kernel_rfl))]; exact ⟨rfl, rfl⟩)
    (fun os started H enc _ F => by
      rw [OpenClaim.pre_eq_preRow]
      exact liftedR3 (F := F) (s := Rows.rowsMakeSpec) (conds := Rows.rowsMakeRow.domain) started opn_bnds opn_bnds opn_int bsR.mono bsR.mono (by kernel_rfl) (of_decide_eq_true (by kernel_rfl)) (by kernel_rfl) (of_decide_eq_true (by kernel_rfl)) (by kernel_rfl) (of_decide_eq_true (by kernel_rfl)) (by kernel_rfl) func3 (by kernel_rfl) (by kernel_rfl) rfl (fun _ _ _ => rfl)
        (witMake (by kernel_rfl) rfl (by kernel_rfl) rfl rfl (by kernel_rfl)) (fun bs cs n m x y z hx hy hz => by obtain ⟨rfl, _⟩ := hz; exact (k3 x y bs cs n m hx.1 hy.1 hx.2.2 (Nat.lt_of_le_of_lt hx.2.1 (by decide)) (Nat.lt_of_le_of_lt hy.2.1 (by decide))).mono fun v m' h => h.2))
theorem rowsMake_holds : Rows.RowsMakeCardSaid :=
  Claim7.holds_tied_plain_at .later [] _ _ _ _ said328 (fun _ h => by cases h) (by kernel_rfl) (fun _ h => by cases h) rowsMake_row_tie rfl ⟨rfl, rfl⟩ (by kernel_rfl) rfl plain328 (by kernel_rfl)
end Go.Proofs.YtodhalcpnmddjaaDoor
