/- Join holds, for every input.  Conditions: none. -/
import Derived.Test.YtodhalcpnmddjaaDoorRa4
set_option linter.unusedSimpArgs false
set_option linter.unusedVariables false
set_option linter.unusedSectionVars false
namespace Go.Proofs.YtodhalcpnmddjaaDoor
open Go Ax Go.ChangeShapes Go.WideShapes Go.ChangeAt Go.RowKit
set_option maxRecDepth 100000
def argJoin : Array Value := #[.int .i64 0, .slice none 0 0]
theorem laid_metJoin (os : Os) : laidMet Tryd.prog laidL ((laidWorld os).forCall (fun _ _ => 0) ⟨#[], argJoin, []⟩).memory :=
  laidMet_of_run' 8 (by kernel_rfl) (by kernel_rfl)
theorem witJoin {os : Os} {f : FuncId} {fn : Func} {s : ChangeSpec} {conds : List PathCond} {H : Type} {enc : TypeId × Value → H} (hp : fn.params = #[3, 22]) (hs : s.vars = [])
    (hok : Input.okWideB Tryd.checked.prog ((laidWorld os).forCall (fun _ _ => 0) ⟨#[], argJoin, []⟩) f ⟨#[], argJoin, []⟩ = true) (hc : conds = []) (hsp : (OpenSpec.ofChange s).cond = none)
    (hsz : (OpenSpec.ofChange s).bare.sizedB enc Tryd.prog fn false ((laidWorld os).forCall (fun _ _ => 0) ⟨#[], argJoin, []⟩).memory argJoin 8 = true) :
    ∃ (w : World) (tape : Tape) (i : Input), w.os = os ∧ (w.forCall tape i).Shaped Tryd.checked.prog ∧ i.vars = [] ∧ Input.okWide Tryd.checked.prog (w.forCall tape i) .any w.heap.size f i ∧
      (OpenSpec.ofChange s).preRow enc Tryd.prog fn conds false laidL (w.forCall tape i).memory i.args ∧ ({} : Assume).holds Tryd.checked.prog (lone (Frame.enter Tryd.checked.prog f i.args .normal) [] (w.forCall tape i)) := by
  have hx : ∃ places, DataW.whole enc Tryd.prog ((laidWorld os).forCall (fun _ _ => 0) ⟨#[], argJoin, []⟩).memory fn.params.toList s.vars false argJoin.toList 8 = some ([.lit (.int .i64 0), .nil], [], places) := by
    rw [hp, hs]
    exact ⟨[], by kernel_rfl⟩
  obtain ⟨places, hx⟩ := hx
  exact witness_row_at (enc := enc) (C := Tryd.checked) (s := OpenSpec.ofChange s) false (laidWorld os) argJoin rfl (by kernel_rfl) (by kernel_rfl) hok
    (OpenSpec.preRow_of_cond 8 hx (by rw [hc]; rfl) (fun k hk => by rw [hsp] at hk; cases hk) hsz (laid_metJoin os))
noncomputable def fn6 : Func := (Tryd.checked.prog.funcs[6]?).get (by kernel_rfl)
theorem func6 : Tryd.checked.prog.funcs[6]? = some fn6 := by kernel_rfl
theorem plain331 (f : FuncId) (fn : Func) (hf : Tryd.pinned.checked.prog.funcNamed "environ/environlaw22.RowsJoin" = some f) (hfn : Tryd.pinned.checked.prog.funcs[f]? = some fn) :
    false = Tryd.pinned.checked.prog.looks [] ∧ ∀ (j : Nat) t, fn.params[j]? = some t → Tryd.pinned.checked.prog.wantsStandIn t = false := by
  obtain rfl : f = 6 := Option.some.inj ((show Tryd.prog.funcNamed "environ/environlaw22.RowsJoin" = some 6 by kernel_rfl).symm.trans hf) |>.symm
  obtain rfl : fn = fn6 := (Option.some.inj (func6.symm.trans hfn)).symm
  refine ⟨by kernel_rfl, fun j t ht => ?_⟩
  rw [show fn6.params = #[3, 22] by kernel_rfl] at ht
  have h : t = 3 ∨ t = 22 := by simpa using Array.mem_of_getElem? ht
  rcases h with rfl | rfl
  · exact (show Tryd.prog.wantsStandIn 3 = false by kernel_rfl)
  · exact (show Tryd.prog.wantsStandIn 22 = false by kernel_rfl)
theorem said331 : Rows.RowsJoinSaid :=
  OpenClaim.holds_of_cond 6 fn6 rfl rfl rfl rfl rfl rfl rfl ⟨rfl, rfl, rfl, rfl, rfl⟩ rfl rfl rfl rfl rfl (by kernel_rfl) func6 (by kernel_rfl)
    (of_decide_eq_true (by kernel_rfl)) (by unfold Func.isWrapper; rw [if_neg (of_decide_eq_false (by kernel_rfl))]; exact ⟨rfl, rfl⟩)
    (fun os started H enc _ F => by
      rw [OpenClaim.pre_eq_preRow]
      exact liftedR2 (F := F) (s := Rows.rowsJoinSpec) (conds := Rows.rowsJoinRow.domain) started opn_int opn_bnds (fun _ _ _ _ _ h => h) (by kernel_rfl) (of_decide_eq_true (by kernel_rfl)) (by kernel_rfl) (of_decide_eq_true (by kernel_rfl)) (by kernel_rfl) func6 (by kernel_rfl) (by kernel_rfl) rfl (fun _ _ => rfl)
        (witJoin (by kernel_rfl) rfl (by kernel_rfl) rfl rfl (by kernel_rfl)) (fun n bs m x y hx hy => by obtain ⟨rfl, _⟩ := hx; exact (k6 y n bs m hy.1 (Nat.lt_of_le_of_lt hy.2.1 (by decide))).mono fun v m' h => h.2))
theorem rowsJoin_holds : Rows.RowsJoinCardSaid :=
  Claim7.holds_tied_plain_at .later [] _ _ _ _ said331 (fun _ h => by cases h) (by kernel_rfl) (fun _ h => by cases h) rowsJoin_row_tie rfl ⟨rfl, rfl⟩ (by kernel_rfl) rfl plain331 (by kernel_rfl)
end Go.Proofs.YtodhalcpnmddjaaDoor
