/- Firm holds, for every input.  Conditions: none. -/
import Derived.Test.YtngfdjolleabeaaGreatR6
set_option linter.unusedSimpArgs false
set_option linter.unusedVariables false
namespace Go.Proofs.YtngfdjolleabeaaGreat
open Go Ax Go.ChangeShapes Go.WideShapes Go.ChangeAt Go.RowKit
set_option maxRecDepth 100000
set_option maxHeartbeats 4000000 in
theorem k3 : LawTII 3 := by
  intro m s l u v hs _ hb
  refine w3 ?_
  simp
  refine C_of (k11 m) ?_
  rintro _ m1 ⟨rfl, hm1⟩
  simp
  refine C_of (k12 s l 10 m1 (hs.mono hm1) (by omega)) ?_
  rintro _ m2 ⟨rfl, hm2⟩
  have hm02 := hm1.trans hm2
  cases hsm : (decide ((l.length : Int) ≤ 10) && l.all fun x => decide (x.elems.length ≤ 6) && decide (x.names.length ≤ 6))
  · simp
  · have hf := fitR hb hsm
    have hn := hf.n
    simp
    obtain ⟨n, b, e, hU⟩ := firmU_form l u v (firmI 100 l u.toNat v.toNat) (rightI l [u, v])
    refine C_of (k13 s l u v m2 (hs.mono hm02) hf.sm (by omega) hf.room) ?_
    rintro _ m3 ⟨hm3, rfl⟩
    rw [hU]
    simp
    refine C_of (k14 s l u v m3 (hs.mono (hm02.trans hm3)) hf.sm (by omega) hf.room) ?_
    rintro _ m4 ⟨hm4, rfl⟩
    rw [hU]
    simp
noncomputable def fn3 : Func := (Tryz.checked.prog.funcs[3]?).get (by kernel_rfl)
theorem func3 : Tryz.checked.prog.funcs[3]? = some fn3 := by kernel_rfl
theorem relatedFirm_holds : Rows.RelatedFirmSaid :=
  OpenClaim.holds_of_wide 3 fn3 rfl rfl rfl rfl rfl rfl rfl ⟨rfl, rfl, rfl, rfl, rfl⟩ rfl rfl rfl rfl rfl (by kernel_rfl) func3 (by kernel_rfl)
    (of_decide_eq_true (by kernel_rfl)) (by unfold Func.isWrapper; rw [if_neg (of_decide_eq_false (by kernel_rfl))]; exact ⟨rfl, rfl⟩)
    (fun os started H enc _ => lifted3 (s := Rows.relatedFirmSpec) (conds := Rows.relatedFirmRow.domain) started (by kernel_rfl) func3 (by kernel_rfl) (by kernel_rfl) rfl (fun _ _ _ => rfl)
      (ChangeSpec.witness6 (enc := enc) (C := Tryz.checked) false ⟨#[], #[.slice none 0 0, .int .i64 0, .int .i64 0], []⟩ 8 (by kernel_rfl) (by kernel_rfl) (by kernel_rfl) (by kernel_rfl)) k3)
end Go.Proofs.YtngfdjolleabeaaGreat
