/- Twice holds, for every input.  Conditions: none. -/
import Derived.Test.YtodhalcpnmddjaaDoorRd4
set_option linter.unusedSimpArgs false
set_option linter.unusedVariables false
set_option linter.unusedSectionVars false
namespace Go.Proofs.YtodhalcpnmddjaaDoor
open Go Ax Go.ChangeShapes Go.WideShapes Go.ChangeAt Go.RowKit
set_option maxRecDepth 100000
def argTwice : Array Value := #[.agg #[.int .i64 0, .slice none 0 0], .int .i64 0, .agg #[.int .i64 0, .int .i64 0, .int .i64 0, .int .i64 0]]
theorem laid_metTwice (os : Os) : laidMet Tryd.prog laidL ((laidWorld os).forCall (fun _ _ => 0) ⟨#[], argTwice, []⟩).memory :=
  laidMet_of_run' 8 (by kernel_rfl) (by kernel_rfl)
theorem witTwice {os : Os} {f : FuncId} {fn : Func} {s : ChangeSpec} {conds : List PathCond} {H : Type} {enc : TypeId × Value → H} (hp : fn.params = #[26, 3, 72]) (hs : s.vars = [])
    (hok : Input.okWideB Tryd.checked.prog ((laidWorld os).forCall (fun _ _ => 0) ⟨#[], argTwice, []⟩) f ⟨#[], argTwice, []⟩ = true) (hc : conds = []) (hsp : (OpenSpec.ofChange s).cond = none)
    (hsz : (OpenSpec.ofChange s).bare.sizedB enc Tryd.prog fn false ((laidWorld os).forCall (fun _ _ => 0) ⟨#[], argTwice, []⟩).memory argTwice 8 = true) :
    ∃ (w : World) (tape : Tape) (i : Input), w.os = os ∧ (w.forCall tape i).Shaped Tryd.checked.prog ∧ i.vars = [] ∧ Input.okWide Tryd.checked.prog (w.forCall tape i) .any w.heap.size f i ∧
      (OpenSpec.ofChange s).preRow enc Tryd.prog fn conds false laidL (w.forCall tape i).memory i.args ∧ ({} : Assume).holds Tryd.checked.prog (lone (Frame.enter Tryd.checked.prog f i.args .normal) [] (w.forCall tape i)) := by
  have hx : ∃ places, DataW.whole enc Tryd.prog ((laidWorld os).forCall (fun _ _ => 0) ⟨#[], argTwice, []⟩).memory fn.params.toList s.vars false argTwice.toList 8 = some ([.agg [.lit (.int .i64 0), .nil], .lit (.int .i64 0), .agg [.lit (.int .i64 0), .lit (.int .i64 0), .lit (.int .i64 0), .lit (.int .i64 0)]], [], places) := by
    rw [hp, hs]
    exact ⟨[], by kernel_rfl⟩
  obtain ⟨places, hx⟩ := hx
  exact witness_row_at (enc := enc) (C := Tryd.checked) (s := OpenSpec.ofChange s) false (laidWorld os) argTwice rfl (by kernel_rfl) (by kernel_rfl) hok
    (OpenSpec.preRow_of_cond 8 hx (by rw [hc]; rfl) (fun k hk => by rw [hsp] at hk; cases hk) hsz (laid_metTwice os))
noncomputable def fn8 : Func := (Tryd.checked.prog.funcs[8]?).get (by kernel_rfl)
theorem func8 : Tryd.checked.prog.funcs[8]? = some fn8 := by kernel_rfl
theorem plain333 (f : FuncId) (fn : Func) (hf : Tryd.pinned.checked.prog.funcNamed "environ/environlaw22.RowsTwice" = some f) (hfn : Tryd.pinned.checked.prog.funcs[f]? = some fn) :
    false = Tryd.pinned.checked.prog.looks [] ∧ ∀ (j : Nat) t, fn.params[j]? = some t → Tryd.pinned.checked.prog.wantsStandIn t = false := by
  obtain rfl : f = 8 := Option.some.inj ((show Tryd.prog.funcNamed "environ/environlaw22.RowsTwice" = some 8 by kernel_rfl).symm.trans hf) |>.symm
  obtain rfl : fn = fn8 := (Option.some.inj (func8.symm.trans hfn)).symm
  refine ⟨by kernel_rfl, fun j t ht => ?_⟩
  rw [show fn8.params = #[26, 3, 72] by kernel_rfl] at ht
  have h : t = 26 ∨ t = 3 ∨ t = 72 := by simpa using Array.mem_of_getElem? ht
  rcases h with rfl | rfl | rfl
  · exact (show Tryd.prog.wantsStandIn 26 = false by kernel_rfl)
  · exact (show Tryd.prog.wantsStandIn 3 = false by kernel_rfl)
  · exact (show Tryd.prog.wantsStandIn 72 = false by kernel_rfl)
theorem said333 : Rows.RowsTwiceSaid :=
  OpenClaim.holds_of_cond 8 fn8 rfl rfl rfl rfl rfl rfl rfl ⟨rfl, rfl, rfl, rfl, rfl⟩ rfl rfl rfl rfl rfl (by kernel_rfl) func8 (by kernel_rfl)
    (of_decide_eq_true (by kernel_rfl)) (by unfold Func.isWrapper; rw [if_neg (of_decide_eq_false (by kernel_rfl))]; exact ⟨rfl, rfl⟩)
    (fun os started H enc _ F => by
      rw [OpenClaim.pre_eq_preRow]
      exact liftedR3 (F := F) (s := Rows.rowsTwiceSpec) (conds := Rows.rowsTwiceRow.domain) started opn_dsc opn_int opn_a4 dsR.mono (fun _ _ _ _ _ h => h) (by kernel_rfl) (of_decide_eq_true (by kernel_rfl)) (by kernel_rfl) (of_decide_eq_true (by kernel_rfl)) (by kernel_rfl) (of_decide_eq_true (by kernel_rfl)) (by kernel_rfl) func8 (by kernel_rfl) (by kernel_rfl) rfl (fun _ _ _ => rfl)
        (witTwice (by kernel_rfl) rfl (by kernel_rfl) rfl rfl (by kernel_rfl)) (fun d k zs m x y z hx hy hz => by obtain ⟨rfl, _⟩ := hy; obtain ⟨rfl, hz1, hz2⟩ := hz; exact (k8 x d k zs m hx.1 (Nat.lt_of_le_of_lt hx.2.1 (by decide)) hz1 hz2).mono fun v m' h => h.2))
theorem rowsTwice_holds : Rows.RowsTwiceCardSaid :=
  Claim7.holds_tied_plain_at .later [] _ _ _ _ said333 (fun _ h => by cases h) (by kernel_rfl) (fun _ h => by cases h) rowsTwice_row_tie rfl ⟨rfl, rfl⟩ (by kernel_rfl) rfl plain333 (by kernel_rfl)
end Go.Proofs.YtodhalcpnmddjaaDoor
