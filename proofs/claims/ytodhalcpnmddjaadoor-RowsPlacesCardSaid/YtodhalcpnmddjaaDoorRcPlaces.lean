/- Places holds, for every input.  Conditions: none. -/
import Derived.Test.YtodhalcpnmddjaaDoorRc4
set_option linter.unusedSimpArgs false
set_option linter.unusedVariables false
set_option linter.unusedSectionVars false
namespace Go.Proofs.YtodhalcpnmddjaaDoor
open Go Ax Go.ChangeShapes Go.WideShapes Go.ChangeAt Go.RowKit
set_option maxRecDepth 100000
def argPlaces : Array Value := #[.agg #[.int .i64 0, .slice none 0 0], .slice none 0 0, .int .i64 0]
theorem laid_metPlaces (os : Os) : laidMet Tryd.prog laidL ((laidWorld os).forCall (fun _ _ => 0) ⟨#[], argPlaces, []⟩).memory :=
  laidMet_of_run' 8 (by kernel_rfl) (by kernel_rfl)
theorem witPlaces {os : Os} {f : FuncId} {fn : Func} {s : ChangeSpec} {conds : List PathCond} {H : Type} {enc : TypeId × Value → H} (hp : fn.params = #[26, 50, 3]) (hs : s.vars = [])
    (hok : Input.okWideB Tryd.checked.prog ((laidWorld os).forCall (fun _ _ => 0) ⟨#[], argPlaces, []⟩) f ⟨#[], argPlaces, []⟩ = true) (hc : conds = []) (hsp : (OpenSpec.ofChange s).cond = none)
    (hsz : (OpenSpec.ofChange s).bare.sizedB enc Tryd.prog fn false ((laidWorld os).forCall (fun _ _ => 0) ⟨#[], argPlaces, []⟩).memory argPlaces 8 = true) :
    ∃ (w : World) (tape : Tape) (i : Input), w.os = os ∧ (w.forCall tape i).Shaped Tryd.checked.prog ∧ i.vars = [] ∧ Input.okWide Tryd.checked.prog (w.forCall tape i) .any w.heap.size f i ∧
      (OpenSpec.ofChange s).preRow enc Tryd.prog fn conds false laidL (w.forCall tape i).memory i.args ∧ ({} : Assume).holds Tryd.checked.prog (lone (Frame.enter Tryd.checked.prog f i.args .normal) [] (w.forCall tape i)) := by
  have hx : ∃ places, DataW.whole enc Tryd.prog ((laidWorld os).forCall (fun _ _ => 0) ⟨#[], argPlaces, []⟩).memory fn.params.toList s.vars false argPlaces.toList 8 = some ([.agg [.lit (.int .i64 0), .nil], .nil, .lit (.int .i64 0)], [], places) := by
    rw [hp, hs]
    exact ⟨[], by kernel_rfl⟩
  obtain ⟨places, hx⟩ := hx
  exact witness_row_at (enc := enc) (C := Tryd.checked) (s := OpenSpec.ofChange s) false (laidWorld os) argPlaces rfl (by kernel_rfl) (by kernel_rfl) hok
    (OpenSpec.preRow_of_cond 8 hx (by rw [hc]; rfl) (fun k hk => by rw [hsp] at hk; cases hk) hsz (laid_metPlaces os))
noncomputable def fn4 : Func := (Tryd.checked.prog.funcs[4]?).get (by kernel_rfl)
theorem func4 : Tryd.checked.prog.funcs[4]? = some fn4 := by kernel_rfl
theorem plain329 (f : FuncId) (fn : Func) (hf : Tryd.pinned.checked.prog.funcNamed "environ/environlaw22.RowsPlaces" = some f) (hfn : Tryd.pinned.checked.prog.funcs[f]? = some fn) :
    false = Tryd.pinned.checked.prog.looks [] ∧ ∀ (j : Nat) t, fn.params[j]? = some t → Tryd.pinned.checked.prog.wantsStandIn t = false := by
  obtain rfl : f = 4 := Option.some.inj ((show Tryd.prog.funcNamed "environ/environlaw22.RowsPlaces" = some 4 by kernel_rfl).symm.trans hf) |>.symm
  obtain rfl : fn = fn4 := (Option.some.inj (func4.symm.trans hfn)).symm
  refine ⟨by kernel_rfl, fun j t ht => ?_⟩
  rw [show fn4.params = #[26, 50, 3] by kernel_rfl] at ht
  have h : t = 26 ∨ t = 50 ∨ t = 3 := by simpa using Array.mem_of_getElem? ht
  rcases h with rfl | rfl | rfl
  · exact (show Tryd.prog.wantsStandIn 26 = false by kernel_rfl)
  · exact (show Tryd.prog.wantsStandIn 50 = false by kernel_rfl)
  · exact (show Tryd.prog.wantsStandIn 3 = false by kernel_rfl)
theorem said329 : Rows.RowsPlacesSaid :=
  OpenClaim.holds_of_cond 4 fn4 rfl rfl rfl rfl rfl rfl rfl ⟨rfl, rfl, rfl, rfl, rfl⟩ rfl rfl rfl rfl rfl (by kernel_rfl) func4 (by kernel_rfl)
    (of_decide_eq_true (by kernel_rfl)) (by unfold Func.isWrapper; rw [if_neg (of_decide_eq_false (by kernel_rfl))]; exact ⟨rfl, rfl⟩)
    (fun os started H enc _ F => by
      rw [OpenClaim.pre_eq_preRow]
      exact liftedR3 (F := F) (s := Rows.rowsPlacesSpec) (conds := Rows.rowsPlacesRow.domain) started opn_dsc opn_subs opn_int dsR.mono ssR.mono (by kernel_rfl) (of_decide_eq_true (by kernel_rfl)) (by kernel_rfl) (of_decide_eq_true (by kernel_rfl)) (by kernel_rfl) (of_decide_eq_true (by kernel_rfl)) (by kernel_rfl) func4 (by kernel_rfl) (by kernel_rfl) rfl (fun _ _ _ => rfl)
        (witPlaces (by kernel_rfl) rfl (by kernel_rfl) rfl rfl (by kernel_rfl)) (fun d ss n m x y z hx hy hz => by obtain ⟨rfl, _⟩ := hz; exact (k4 x y d ss n m hx.1 hy.1 (Nat.lt_of_le_of_lt hx.2.1 (by decide)) (Nat.lt_of_le_of_lt hy.2 (by decide))).mono fun v m' h => h.2))
theorem rowsPlaces_holds : Rows.RowsPlacesCardSaid :=
  Claim7.holds_tied_plain_at .later [] _ _ _ _ said329 (fun _ h => by cases h) (by kernel_rfl) (fun _ h => by cases h) rowsPlaces_row_tie rfl ⟨rfl, rfl⟩ (by kernel_rfl) rfl plain329 (by kernel_rfl)
end Go.Proofs.YtodhalcpnmddjaaDoor
