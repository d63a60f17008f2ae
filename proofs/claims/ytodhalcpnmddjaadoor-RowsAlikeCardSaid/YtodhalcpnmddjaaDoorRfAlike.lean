/- Alike holds, for every input.  Conditions: none. -/
import Derived.Test.YtodhalcpnmddjaaDoorRf4
set_option linter.unusedSimpArgs false
set_option linter.unusedVariables false
set_option linter.unusedSectionVars false
namespace Go.Proofs.YtodhalcpnmddjaaDoor
open Go Ax Go.ChangeShapes Go.WideShapes Go.ChangeAt Go.RowKit
set_option maxRecDepth 100000
def argAlike : Array Value := #[.agg #[.int .i64 0, .slice none 0 0], .agg #[.int .i64 0, .slice none 0 0]]
theorem laid_metAlike (os : Os) : laidMet Tryd.prog laidL ((laidWorld os).forCall (fun _ _ => 0) ⟨#[], argAlike, []⟩).memory :=
  laidMet_of_run' 8 (by kernel_rfl) (by kernel_rfl)
theorem witAlike {os : Os} {f : FuncId} {fn : Func} {s : ChangeSpec} {conds : List PathCond} {H : Type} {enc : TypeId × Value → H} (hp : fn.params = #[26, 26]) (hs : s.vars = [])
    (hok : Input.okWideB Tryd.checked.prog ((laidWorld os).forCall (fun _ _ => 0) ⟨#[], argAlike, []⟩) f ⟨#[], argAlike, []⟩ = true) (hc : conds = []) (hsp : (OpenSpec.ofChange s).cond = none)
    (hsz : (OpenSpec.ofChange s).bare.sizedB enc Tryd.prog fn false ((laidWorld os).forCall (fun _ _ => 0) ⟨#[], argAlike, []⟩).memory argAlike 8 = true) :
    ∃ (w : World) (tape : Tape) (i : Input), w.os = os ∧ (w.forCall tape i).Shaped Tryd.checked.prog ∧ i.vars = [] ∧ Input.okWide Tryd.checked.prog (w.forCall tape i) .any w.heap.size f i ∧
      (OpenSpec.ofChange s).preRow enc Tryd.prog fn conds false laidL (w.forCall tape i).memory i.args ∧ ({} : Assume).holds Tryd.checked.prog (lone (Frame.enter Tryd.checked.prog f i.args .normal) [] (w.forCall tape i)) := by
  have hx : ∃ places, DataW.whole enc Tryd.prog ((laidWorld os).forCall (fun _ _ => 0) ⟨#[], argAlike, []⟩).memory fn.params.toList s.vars false argAlike.toList 8 = some ([.agg [.lit (.int .i64 0), .nil], .agg [.lit (.int .i64 0), .nil]], [], places) := by
    rw [hp, hs]
    exact ⟨[], by kernel_rfl⟩
  obtain ⟨places, hx⟩ := hx
  exact witness_row_at (enc := enc) (C := Tryd.checked) (s := OpenSpec.ofChange s) false (laidWorld os) argAlike rfl (by kernel_rfl) (by kernel_rfl) hok
    (OpenSpec.preRow_of_cond 8 hx (by rw [hc]; rfl) (fun k hk => by rw [hsp] at hk; cases hk) hsz (laid_metAlike os))
noncomputable def fn5 : Func := (Tryd.checked.prog.funcs[5]?).get (by kernel_rfl)
theorem func5 : Tryd.checked.prog.funcs[5]? = some fn5 := by kernel_rfl
theorem plain330 (f : FuncId) (fn : Func) (hf : Tryd.pinned.checked.prog.funcNamed "environ/environlaw22.RowsAlike" = some f) (hfn : Tryd.pinned.checked.prog.funcs[f]? = some fn) :
    false = Tryd.pinned.checked.prog.looks [] ∧ ∀ (j : Nat) t, fn.params[j]? = some t → Tryd.pinned.checked.prog.wantsStandIn t = false := by
  obtain rfl : f = 5 := Option.some.inj ((show Tryd.prog.funcNamed "environ/environlaw22.RowsAlike" = some 5 by kernel_rfl).symm.trans hf) |>.symm
  obtain rfl : fn = fn5 := (Option.some.inj (func5.symm.trans hfn)).symm
  refine ⟨by kernel_rfl, fun j t ht => ?_⟩
  rw [show fn5.params = #[26, 26] by kernel_rfl] at ht
  have h : t = 26 := by simpa using Array.mem_of_getElem? ht
  subst h
  exact (show Tryd.prog.wantsStandIn 26 = false by kernel_rfl)
theorem said330 : Rows.RowsAlikeSaid :=
  OpenClaim.holds_of_cond 5 fn5 rfl rfl rfl rfl rfl rfl rfl ⟨rfl, rfl, rfl, rfl, rfl⟩ rfl rfl rfl rfl rfl (by kernel_rfl) func5 (by kernel_rfl)
    (of_decide_eq_true (by kernel_rfl)) (by unfold Func.isWrapper; rw [if_neg (of_decide_eq_false (by kernel_rfl))]; exact ⟨rfl, rfl⟩)
    (fun os started H enc _ F => by
      rw [OpenClaim.pre_eq_preRow]
      exact liftedR2 (F := F) (s := Rows.rowsAlikeSpec) (conds := Rows.rowsAlikeRow.domain) started opn_dsc opn_dsc dsR.mono (by kernel_rfl) (of_decide_eq_true (by kernel_rfl)) (by kernel_rfl) (of_decide_eq_true (by kernel_rfl)) (by kernel_rfl) func5 (by kernel_rfl) (by kernel_rfl) rfl (fun _ _ => rfl)
        (witAlike (by kernel_rfl) rfl (by kernel_rfl) rfl rfl (by kernel_rfl)) (fun d e m x y hx hy => (k5 x y d e m hx.1 hy.1 (Nat.lt_of_le_of_lt hx.2.1 (by decide)) (Nat.lt_of_le_of_lt hy.2.1 (by decide))).mono fun v m' h => h.2))
theorem rowsAlike_holds : Rows.RowsAlikeCardSaid :=
  Claim7.holds_tied_plain_at .later [] _ _ _ _ said330 (fun _ h => by cases h) (by kernel_rfl) (fun _ h => by cases h) rowsAlike_row_tie rfl ⟨rfl, rfl⟩ (by kernel_rfl) rfl plain330 (by kernel_rfl)
end Go.Proofs.YtodhalcpnmddjaaDoor
