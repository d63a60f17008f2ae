/- Witness holds, for every input.  Conditions: none. -/
import Derived.Test.YtngfdjolleabeaaGreatR6
set_option linter.unusedSimpArgs false
set_option linter.unusedVariables false
namespace Go.Proofs.YtngfdjolleabeaaGreat
open Go Ax Go.ChangeShapes Go.WideShapes Go.ChangeAt Go.RowKit
set_option maxRecDepth 100000
set_option maxHeartbeats 8000000 in
theorem k6 : LawTII 6 := by
  intro m s l u v hs _ hb
  refine w6 ?_
  simp
  refine C_of (k11 m) ?_
  rintro _ m1 ⟨rfl, hm1⟩
  simp
  refine C_of (k12 s l 10 m1 (hs.mono hm1) (by omega)) ?_
  rintro _ m2 ⟨rfl, hm2⟩
  have hm02 := hm1.trans hm2
  cases hsm : (decide ((l.length : Int) ≤ 10) && l.all fun x => decide (x.elems.length ≤ 6) && decide (x.names.length ≤ 6))
  · simp
  have hf := fitR hb hsm
  have hn := hf.n
  simp [fillA, setN]
  have hA := two_ints m2 u v
  have hm23 : m2 <+: m2 ++ [.own [.int .i64 u, .int .i64 v] 3 none] := List.prefix_append _ _
  generalize AVal.slice m2.length 0 2 2 none = t1 at *
  generalize m2 ++ [.own [.int .i64 u, .int .i64 v] 3 none] = m3 at *
  have hm03 := hm02.trans hm23
  refine C_of (k17 s t1 l [u, v] m3 (hs.mono hm03) hA.ints hf.sm (by omega) (by simp)) ?_
  rintro _ m4 ⟨rfl, hm4⟩
  have hm04 := hm03.trans hm4
  by_cases hri : rightI l [u, v] = 0
  rotate_left
  · simp [hri]
  obtain ⟨hc, a, b, rfl, rfl, ha, hb'⟩ := right2 hri
  have hr := hf.room hc
  simp [hri]
  refine C_of (k15 s l a b m4 (hs.mono hm04) hf.sm (by omega) hf.room) ?_
  rintro _ m5 ⟨hm5, rfl⟩
  rw [relU_ok hc ha hb']
  simp
  rw [rel_box _ _ _ rfl]
  have hm56 : m5 <+: m5 ++ [ABlk.own (wC (relI l a b)) 30 none] := List.prefix_append _ _
  have a7 : (m5 ++ [ABlk.own (wC (relI l a b)) 30 none])[m5.length]? = some (.own (wC (relI l a b)) 30 none) := by simp
  generalize m5 ++ [ABlk.own (wC (relI l a b)) 30 none] = m6 at *
  generalize m5.length = n7 at *
  have hm06 := (hm04.trans hm5).trans hm56
  have r7 := bxW (own_read a7) 4
  rw [readN_all (wC_len _).1] at r7
  cases hW : relI l a b with
  | none =>
    rw [hW] at r7
    simp [r7, fillA, wC, eqC]
  | some w =>
    obtain ⟨w1, w2, w3, w4⟩ := w
    obtain ⟨hzb, hF⟩ := rel_inv hW
    simp only at hzb hF
    rw [hW] at a7
    have p0 := bx (own_read a7) 0
    have p1 := bx (own_read a7) 1
    have p2 := bx (own_read a7) 2
    have p3 := bx (own_read a7) 3
    simp [wC] at p0 p1 p2 p3
    obtain ⟨of, to, hof, hto, hoe, hte⟩ : ∃ of to : Nat, of < l.length ∧ to < l.length ∧ (if w1 = true then a else b) = of ∧ (if w1 = true then b else a) = to := ⟨_, _, by split <;> assumption, by split <;> assumption, rfl, rfl⟩
    rw [hoe] at hzb
    rw [hte] at hF
    have hg := (okT_of hc).good
    have hzl : w2 < l.length := (basesOf_sub hg hof hzb).lt hg hof
    obtain ⟨hh1, hh2⟩ := has_base hc hof hzb
    have hst := firm_lt 100 l w2 w3 w4 hF
    have e1 : ¬ (w2 : Int) < 0 := by omega
    have e2 : ¬ (l.length : Int) ≤ w2 := by omega
    have e3 : ¬ (w3 : Int) < 0 := by omega
    have e4 : ¬ (100 : Int) < w3 := by omega
    have hHv : hasV l of w2 = .tuple [.bool (hasB l of w2), .int .i64 0] := by simp [hasV, rightI_two hc hof hzl]
    obtain ⟨bk, ok, ck, k4, _, k5, _, _⟩ := (hs.mono hm06).atC hof
    have hmo := mdAt_eq hof
    obtain ⟨t0, ht0, hL0⟩ := Lead.has hr hzl
    have w0 : IntKind.i64.wrap 0 = 0 := by decide
    cases w1
    all_goals
      simp at hoe hte
      simp [p0, hoe, hte, p1, p2, e1, e2, e3, e4, (hs.mono hm06).len]
      refine C_of (k19 s l of w2 m6 (hs.mono hm06) hf.sm hr.nm hr.t13) ?_
      rintro _ m7 ⟨rfl, hm7⟩
      rw [hHv]
      have hm07 := hm06.trans hm7
      have a77 := own_mono a7 hm7
      have q1 := bx (own_read a77) 1
      simp [wC] at q1
      have hkk : (l[of].kind = 12 ∧ hasB l of w2 = true) ∨ (¬ l[of].kind = 12 ∧ w2 = of) := by
        by_cases hk : l[of].kind = 12
        · exact .inl ⟨hk, hh1 (by rw [hmo]; simp [isU, hk])⟩
        · exact .inr ⟨hk, hh2 (by rw [hmo]; simp [isU, hk])⟩
      have kE7 := loadE_mono hm7 k5
      obtain ⟨I, hI⟩ : ∃ I : Nat → AFrame → AMem → Prop, ∀ q f m', I q f m' ↔ (∃ (k : Nat) (lk : List Md) (sk : AVal) (mk : Nat), k + q ≤ 19 ∧ f = h6_0 sk (.ptr n7 0) (.int .i64 to) (.int .i64 mk) (.int .i64 k) ∧ m7 <+: m' ∧ RTab m' sk lk ∧ Room lk ∧ Ext l lk ∧ mk < lk.length ∧ Lead lk mk q ∧ FirmAt l w2 to k lk mk) := ⟨_, fun _ _ _ => Iff.rfl⟩
      have hI0 : I t0 (h6_0 s (.ptr n7 0) (.int .i64 to) (.int .i64 w2) (.int .i64 0)) m7 := (hI _ _ _).2 ⟨0, l, s, w2, by omega, by simp, List.prefix_refl _, hs.mono hm07, hr, .refl, hzl, hL0, by unfold FirmAt; simp⟩
      rcases hkk with ⟨hk, hh⟩ | ⟨hk, rfl⟩
      rotate_left
      all_goals
        first
        | simp [hk, hh, k4, kE7, q1]
        | simp [hk, k4, kE7, q1, beqF hk, bneT hk]
        refine W_loop I t0 hI0 ?_
        rintro q f m8 hIn
        obtain ⟨k, lk, sk, mk, hkq, rfl, hm8, hsk, hrk, hxk, hmk, hLk, hFk⟩ := (hI _ _ _).1 hIn
        clear hIn
        have hlen := hxk.len
        have hrkl := hrk.len
        simp
        refine C_of (k20 sk lk mk to m8 hsk hrk.sm hrk.t13 hrk.ck hmk (by omega)) ?_
        rintro _ m9 ⟨rfl, hm9⟩
        simp
        refine C_of (k21 sk lk mk to m9 (hsk.mono hm9) hrk.sm hrk.nm hrk.t13) ?_
        rintro _ m10 ⟨rfl, hm10⟩
        rw [uniV_ok hrk.ck hmk (by omega)]
        have hm810 := hm9.trans hm10
        have a710 := own_mono a77 (hm8.trans hm810)
        have q2 := bx (own_read a710) 2
        have q3 := bx (own_read a710) 3
        simp [wC] at q2 q3
        rcases hFk.inv (by omega) hF with ⟨rfl, hu, hme⟩ | ⟨hkn, hme, l', n', hd⟩
        · by_cases he : RR lk mk = RR lk to
          · simp [he] at hu
            simp [w0, he, hu, q2, q3]
          · have hu2 := hme.resolve_left he
            simp [he] at hu
            simp [w0, he, hu, hu2, q2, q3]
        · have he : ¬ RR lk mk = RR lk to := fun h => hme (.inl h)
          have hu : uniB lk mk to = false := by
            cases h : uniB lk mk to
            · rfl
            · exact absurd (.inr h) hme
          have hne : ((k : Int) == (w3 : Int)) = false := by simp; omega
          simp [w0, he, hu, q2, q3, hne]
          refine C_of (k18 sk lk mk m10 (hsk.mono hm810) hrk.sm (by omega) fun _ => hrk) ?_
          rintro _ m11 ⟨hm11, t, rfl, hT⟩
          rw [downV_ok hrk.ck hmk, hd] at hT ⊢
          simp only at hT
          have hw := step64 (k := k) (n := 100) (by omega) (by omega)
          obtain ⟨_, hr', hx', hn, hlt⟩ := down_ok hrk hmk hd
          obtain ⟨q', hq', hL'⟩ := hlt q hLk
          simp [hw]
          exact ⟨q', hq', (hI _ _ _).2 ⟨k + 1, l', t, n', by omega, by simp, (hm8.trans hm810).trans hm11, hT, hr', hxk.trans hx', hn, hL', hFk.down (by omega) hme hd⟩⟩
noncomputable def fn6 : Func := (Tryz.checked.prog.funcs[6]?).get (by kernel_rfl)
theorem func6 : Tryz.checked.prog.funcs[6]? = some fn6 := by kernel_rfl
theorem relatedWitness_holds : Rows.RelatedWitnessSaid :=
  OpenClaim.holds_of_wide 6 fn6 rfl rfl rfl rfl rfl rfl rfl ⟨rfl, rfl, rfl, rfl, rfl⟩ rfl rfl rfl rfl rfl (by kernel_rfl) func6 (by kernel_rfl)
    (of_decide_eq_true (by kernel_rfl)) (by unfold Func.isWrapper; rw [if_neg (of_decide_eq_false (by kernel_rfl))]; exact ⟨rfl, rfl⟩)
    (fun os started H enc _ => lifted3 (s := Rows.relatedWitnessSpec) (conds := Rows.relatedWitnessRow.domain) started (by kernel_rfl) func6 (by kernel_rfl) (by kernel_rfl) rfl (fun _ _ _ => rfl)
      (ChangeSpec.witness6 (enc := enc) (C := Tryz.checked) false ⟨#[], #[.slice none 0 0, .int .i64 0, .int .i64 0], []⟩ 8 (by kernel_rfl) (by kernel_rfl) (by kernel_rfl) (by kernel_rfl)) k6)
end Go.Proofs.YtngfdjolleabeaaGreat
