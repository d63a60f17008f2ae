/- Turned holds, for every input.  Conditions: none. -/
import Derived.Test.YtngfdjolleabeaaGreatR6
set_option linter.unusedSimpArgs false
set_option linter.unusedVariables false
namespace Go.Proofs.YtngfdjolleabeaaGreat
open Go Ax Go.ChangeShapes Go.WideShapes Go.ChangeAt Go.RowKit
set_option maxRecDepth 100000
set_option maxHeartbeats 8000000 in
theorem k5 : LawTII 5 := by
  intro m s l u v hs _ hb
  refine w5 ?_
  simp
  refine C_of (k11 m) ?_
  rintro _ m1 ⟨rfl, hm1⟩
  simp
  refine C_of (k12 s l 10 m1 (hs.mono hm1) (by omega)) ?_
  rintro _ m2 ⟨rfl, hm2⟩
  have hm02 := hm1.trans hm2
  cases hsm : (decide ((l.length : Int) ≤ 10) && l.all fun x => decide (x.elems.length ≤ 6) && decide (x.names.length ≤ 6))
  · simp
  have hf := fitR hb hsm
  have hn := hf.n
  simp [fillA, setN]
  have hA := two_ints m2 u v
  have hm23 : m2 <+: m2 ++ [.own [.int .i64 u, .int .i64 v] 3 none] := List.prefix_append _ _
  generalize AVal.slice m2.length 0 2 2 none = t1 at *
  generalize m2 ++ [.own [.int .i64 u, .int .i64 v] 3 none] = m3 at *
  have hm03 := hm02.trans hm23
  refine C_of (k17 s t1 l [u, v] m3 (hs.mono hm03) hA.ints hf.sm (by omega) (by simp)) ?_
  rintro _ m4 ⟨rfl, hm4⟩
  have hm04 := hm03.trans hm4
  by_cases hri : rightI l [u, v] = 0
  rotate_left
  · simp [hri]
  obtain ⟨hc, a, b, rfl, rfl, ha, hb'⟩ := right2 hri
  have hr := hf.room hc
  simp [hri]
  refine C_of (k15 s l a b m4 (hs.mono hm04) hf.sm (by omega) hf.room) ?_
  rintro _ m5 ⟨hm5, rfl⟩
  rw [relU_ok hc ha hb']
  simp
  rw [rel_box _ _ _ rfl]
  have hm56 : m5 <+: m5 ++ [ABlk.own (wC (relI l a b)) 30 none] := List.prefix_append _ _
  generalize m5 ++ [ABlk.own (wC (relI l a b)) 30 none] = m6 at *
  have hm06 := (hm04.trans hm5).trans hm56
  simp
  refine C_of (k15 s l b a m6 (hs.mono hm06) hf.sm (by omega) hf.room) ?_
  rintro _ m7 ⟨hm7, rfl⟩
  rw [relU_ok hc hb' ha]
  simp
  rw [rel_box _ _ _ rfl]
  have hm78 : m7 <+: m7 ++ [ABlk.own (wC (relI l b a)) 30 none] := List.prefix_append _ _
  generalize m7 ++ [ABlk.own (wC (relI l b a)) 30 none] = m8 at *
  have hm08 := (hm06.trans hm7).trans hm78
  simp
  refine C_of (k15 s l a a m8 (hs.mono hm08) hf.sm (by omega) hf.room) ?_
  rintro _ m9 ⟨hm9, rfl⟩
  rw [relU_ok hc ha ha]
  simp
  rw [rel_box _ _ _ rfl]
  have hm9a : m9 <+: m9 ++ [ABlk.own (wC (relI l a a)) 30 none] := List.prefix_append _ _
  generalize m9 ++ [ABlk.own (wC (relI l a a)) 30 none] = m10 at *
  have hm010 := (hm08.trans hm9).trans hm9a
  have hsy : (relI l a b).isSome = (relI l b a).isSome := relI_symm
  have hself := relI_self hr ha
  rw [hsy, hself]
  have w0 : IntKind.i64.wrap 0 = 0 := by decide
  simp [w0]
  refine C_of (k18 s l a m10 (hs.mono hm010) hf.sm (by omega) hf.room) ?_
  rintro _ m11 ⟨hm11, t, rfl, hT⟩
  rw [downV_ok hc ha] at hT ⊢
  cases hd : downI l a with
  | none => simp
  | some p =>
    obtain ⟨k, n⟩ := p
    rw [hd] at hT
    simp only at hT
    obtain ⟨hla, hrk, hx, hnk, _⟩ := down_ok hr ha hd
    have hlen := hx.len
    have hkl := hrk.len
    simp
    refine C_of (k15 t k a n m11 hT hrk.sm (by omega) fun _ => hrk) ?_
    rintro _ m12 ⟨hm12, rfl⟩
    rw [relU_ok hrk.ck (by omega) hnk, relI_down hr ha hd]
    simp
    rw [rel_box _ _ _ rfl]
    simp
noncomputable def fn5 : Func := (Tryz.checked.prog.funcs[5]?).get (by kernel_rfl)
theorem func5 : Tryz.checked.prog.funcs[5]? = some fn5 := by kernel_rfl
theorem relatedTurned_holds : Rows.RelatedTurnedSaid :=
  OpenClaim.holds_of_wide 5 fn5 rfl rfl rfl rfl rfl rfl rfl ⟨rfl, rfl, rfl, rfl, rfl⟩ rfl rfl rfl rfl rfl (by kernel_rfl) func5 (by kernel_rfl)
    (of_decide_eq_true (by kernel_rfl)) (by unfold Func.isWrapper; rw [if_neg (of_decide_eq_false (by kernel_rfl))]; exact ⟨rfl, rfl⟩)
    (fun os started H enc _ => lifted3 (s := Rows.relatedTurnedSpec) (conds := Rows.relatedTurnedRow.domain) started (by kernel_rfl) func5 (by kernel_rfl) (by kernel_rfl) rfl (fun _ _ _ => rfl)
      (ChangeSpec.witness6 (enc := enc) (C := Tryz.checked) false ⟨#[], #[.slice none 0 0, .int .i64 0, .int .i64 0], []⟩ 8 (by kernel_rfl) (by kernel_rfl) (by kernel_rfl) (by kernel_rfl)) k5)
end Go.Proofs.YtngfdjolleabeaaGreat
