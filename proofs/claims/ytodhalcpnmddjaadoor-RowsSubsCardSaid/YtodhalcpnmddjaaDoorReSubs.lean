/- Subs holds, for every input.  Conditions: none. -/
import Derived.Test.YtodhalcpnmddjaaDoorRe5
set_option linter.unusedSimpArgs false
set_option linter.unusedVariables false
set_option linter.unusedSectionVars false
namespace Go.Proofs.YtodhalcpnmddjaaDoor
open Go Ax Go.ChangeShapes Go.WideShapes Go.ChangeAt Go.RowKit
set_option maxRecDepth 100000
def argSubs : Array Value := #[.agg #[.int .i64 0, .slice none 0 0], .int .i64 0, .agg #[.int .i64 0, .int .i64 0, .int .i64 0, .int .i64 0]]
theorem laid_metSubs (os : Os) : laidMet Tryd.prog laidL ((laidWorld os).forCall (fun _ _ => 0) ⟨#[], argSubs, []⟩).memory :=
  laidMet_of_run' 8 (by kernel_rfl) (by kernel_rfl)
theorem witSubs {os : Os} {f : FuncId} {fn : Func} {s : ChangeSpec} {conds : List PathCond} {H : Type} {enc : TypeId × Value → H} (hp : fn.params = #[26, 3, 66]) (hs : s.vars = [])
    (hok : Input.okWideB Tryd.checked.prog ((laidWorld os).forCall (fun _ _ => 0) ⟨#[], argSubs, []⟩) f ⟨#[], argSubs, []⟩ = true) (hc : conds = []) (hsp : (OpenSpec.ofChange s).cond = none)
    (hsz : (OpenSpec.ofChange s).bare.sizedB enc Tryd.prog fn false ((laidWorld os).forCall (fun _ _ => 0) ⟨#[], argSubs, []⟩).memory argSubs 8 = true) :
    ∃ (w : World) (tape : Tape) (i : Input), w.os = os ∧ (w.forCall tape i).Shaped Tryd.checked.prog ∧ i.vars = [] ∧ Input.okWide Tryd.checked.prog (w.forCall tape i) .any w.heap.size f i ∧
      (OpenSpec.ofChange s).preRow enc Tryd.prog fn conds false laidL (w.forCall tape i).memory i.args ∧ ({} : Assume).holds Tryd.checked.prog (lone (Frame.enter Tryd.checked.prog f i.args .normal) [] (w.forCall tape i)) := by
  have hx : ∃ places, DataW.whole enc Tryd.prog ((laidWorld os).forCall (fun _ _ => 0) ⟨#[], argSubs, []⟩).memory fn.params.toList s.vars false argSubs.toList 8 = some ([.agg [.lit (.int .i64 0), .nil], .lit (.int .i64 0), .agg [.lit (.int .i64 0), .lit (.int .i64 0), .lit (.int .i64 0), .lit (.int .i64 0)]], [], places) := by
    rw [hp, hs]
    exact ⟨[], by kernel_rfl⟩
  obtain ⟨places, hx⟩ := hx
  exact witness_row_at (enc := enc) (C := Tryd.checked) (s := OpenSpec.ofChange s) false (laidWorld os) argSubs rfl (by kernel_rfl) (by kernel_rfl) hok
    (OpenSpec.preRow_of_cond 8 hx (by rw [hc]; rfl) (fun k hk => by rw [hsp] at hk; cases hk) hsz (laid_metSubs os))
noncomputable def fn7 : Func := (Tryd.checked.prog.funcs[7]?).get (by kernel_rfl)
theorem func7 : Tryd.checked.prog.funcs[7]? = some fn7 := by kernel_rfl
theorem plain332 (f : FuncId) (fn : Func) (hf : Tryd.pinned.checked.prog.funcNamed "environ/environlaw22.RowsSubs" = some f) (hfn : Tryd.pinned.checked.prog.funcs[f]? = some fn) :
    false = Tryd.pinned.checked.prog.looks [] ∧ ∀ (j : Nat) t, fn.params[j]? = some t → Tryd.pinned.checked.prog.wantsStandIn t = false := by
  obtain rfl : f = 7 := Option.some.inj ((show Tryd.prog.funcNamed "environ/environlaw22.RowsSubs" = some 7 by kernel_rfl).symm.trans hf) |>.symm
  obtain rfl : fn = fn7 := (Option.some.inj (func7.symm.trans hfn)).symm
  refine ⟨by kernel_rfl, fun j t ht => ?_⟩
  rw [show fn7.params = #[26, 3, 66] by kernel_rfl] at ht
  have h : t = 26 ∨ t = 3 ∨ t = 66 := by simpa using Array.mem_of_getElem? ht
  rcases h with rfl | rfl | rfl
  · exact (show Tryd.prog.wantsStandIn 26 = false by kernel_rfl)
  · exact (show Tryd.prog.wantsStandIn 3 = false by kernel_rfl)
  · exact (show Tryd.prog.wantsStandIn 66 = false by kernel_rfl)
theorem said332 : Rows.RowsSubsSaid :=
  OpenClaim.holds_of_cond 7 fn7 rfl rfl rfl rfl rfl rfl rfl ⟨rfl, rfl, rfl, rfl, rfl⟩ rfl rfl rfl rfl rfl (by kernel_rfl) func7 (by kernel_rfl)
    (of_decide_eq_true (by kernel_rfl)) (by unfold Func.isWrapper; rw [if_neg (of_decide_eq_false (by kernel_rfl))]; exact ⟨rfl, rfl⟩)
    (fun os started H enc _ F => by
      rw [OpenClaim.pre_eq_preRow]
      exact liftedR3 (F := F) (s := Rows.rowsSubsSpec) (conds := Rows.rowsSubsRow.domain) started opn_dsc opn_int opn_cut dsR.mono (fun _ _ _ _ _ h => h) (by kernel_rfl) (of_decide_eq_true (by kernel_rfl)) (by kernel_rfl) (of_decide_eq_true (by kernel_rfl)) (by kernel_rfl) (of_decide_eq_true (by kernel_rfl)) (by kernel_rfl) func7 (by kernel_rfl) (by kernel_rfl) rfl (fun _ _ _ => rfl)
        (witSubs (by kernel_rfl) rfl (by kernel_rfl) rfl rfl (by kernel_rfl)) (fun d k zs m x y z hx hy hz => by
          obtain ⟨rfl, _⟩ := hy
          obtain ⟨rfl, hz1, _⟩ := hz
          match zs, hz1 with
          | [a, b, c, e], _ => exact (k7 x d k ⟨a, b, c, e⟩ m hx.1 (Nat.lt_of_le_of_lt hx.2.1 (by decide))).mono fun v m' h => h.2))
theorem rowsSubs_holds : Rows.RowsSubsCardSaid :=
  Claim7.holds_tied_plain_at .later [] _ _ _ _ said332 (fun _ h => by cases h) (by kernel_rfl) (fun _ h => by cases h) rowsSubs_row_tie rfl ⟨rfl, rfl⟩ (by kernel_rfl) rfl plain332 (by kernel_rfl)
end Go.Proofs.YtodhalcpnmddjaaDoor
