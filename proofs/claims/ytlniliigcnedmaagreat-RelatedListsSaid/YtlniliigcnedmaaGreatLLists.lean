/- Lists holds, for every input.  Conditions: none. -/
import Derived.Test.YtlniliigcnedmaaGreatL6
set_option linter.unusedSimpArgs false
set_option linter.unusedVariables false
namespace Go.Proofs.YtlniliigcnedmaaGreat
open Go Ax Go.ChangeShapes Go.WideShapes Go.ChangeAt Go.RowKit
open Relation
set_option maxRecDepth 100000
set_option maxHeartbeats 8000000 in
theorem k8 (s t u : AVal) (l : List Md) (az bs : List Int) (m : AMem) (hs : RTab m s l) (ht : RInts m t az) (hu : RInts m u bs) (hsm : ∀ y ∈ l, smallN y) (hl : l.length < 2 ^ 20) (hr : checkI l = 0 → Room l) (hla : az.length < 2 ^ 38) (hlb : bs.length < 2 ^ 38) :
    ACalls Tryz.prog 8 [s, t, u] m fun v m' => m <+: m' ∧ v = .tuple [.bool (listsI l az bs).1, .int .i64 (listsI l az bs).2] := by
  refine w8 ?_
  simp
  refine C_of (k18 s l m hs hsm (by omega)) ?_
  rintro _ m1 ⟨rfl, hm1⟩
  by_cases hc : checkI l = 0
  rotate_left
  · have hL : listsI l az bs = (false, checkI l) := by
      unfold listsI
      split
      · rfl
      · have : rightI l (az ++ bs) = checkI l := by unfold rightI; rw [if_pos hc]
        rw [this, if_pos hc]
    rw [hL]
    simp [bneT hc]
    exact hm1
  replace hr := hr hc
  simp [hc, (ht.mono hm1).len, (hu.mono hm1).len]
  by_cases hne : az.length = bs.length
  rotate_left
  · have hne' : ((az.length : Int) != bs.length) = true := by simp; omega
    simp [hne', listsI, hne, hc]
    exact hm1
  have hne' : ((az.length : Int) != bs.length) = false := by simp [hne]
  simp [hne', fillA, setN]
  have hA0 := OwL.new (f := AVal.int .i64) m1 3 []
  simp at hA0
  have hm2 : m1 <+: m1 ++ [ABlk.own [] 3 none] := List.prefix_append _ _
  have hlo : m1.length ≤ (m1 ++ [ABlk.own [] 3 none]).length := by simp
  generalize AVal.slice m1.length 0 0 0 none = t25 at *
  generalize m1 ++ [ABlk.own [] 3 none] = m2 at *
  have hm02 := hm1.trans hm2
  obtain ⟨t27, m3, h1, h2, h3, _⟩ := hA0.append hlo (by_ := 8) (by omega) az (by simp; omega)
  have hm13 : m1 <+: m3 := h2.pre hm2 fun c hc e => by have := (hA0.blk_lo e).1; omega
  have hlo3 := hm13.length_le
  simp only [List.nil_append] at h3
  obtain ⟨t29, m4, h5, h6, h7, _⟩ := h3.append hlo3 (by_ := 8) (by omega) bs (by omega)
  have hm14 : m1 <+: m4 := h6.pre hm13 fun c hc e => by have := (h3.blk_lo e).1; omega
  simp [Sl.cells (ht.mono hm02), h1, Sl.cells (hu.mono (hm1.trans hm13)), h5]
  have hm04 := hm1.trans hm14
  refine C_of (k19 s t29 l (az ++ bs) m4 (hs.mono hm04) h7.ints hsm (by omega) (by simp; omega)) ?_
  rintro _ m5 ⟨rfl, hm5⟩
  have hm05 := hm04.trans hm5
  by_cases hri : rightI l (az ++ bs) = 0
  rotate_left
  · simp [bneT hri, listsI, hne, hri]
    exact hm05
  obtain ⟨_, hA, hB⟩ := lists_nat hri
  have hL : listsI l az bs = ((List.range az.length).all (pairR l az bs), 0) := by unfold listsI; rw [if_neg (by simp [hne]), if_neg (by simp [hri])]
  rw [hL]
  simp [hri]
  obtain ⟨I, hI⟩ : ∃ I : Nat → AFrame → AMem → Prop, ∀ q f m', I q f m' ↔ (∃ i : Nat, i + q = az.length ∧ f = h8_0 s t u (.int .i64 i) ∧ m <+: m' ∧ ∀ i' < i, pairR l az bs i' = true) := ⟨_, fun _ _ _ => Iff.rfl⟩
  refine W_loop I az.length ((hI _ _ _).2 ⟨0, by simp, by simp, hm05, by omega⟩) ?_
  rintro q f m4' hIn
  obtain ⟨i, hi, rfl, hm4, hno⟩ := (hI _ _ _).1 hIn
  clear hIn
  simp [(ht.mono hm4).len]
  refine bbind_dec (fun hil => ?_) fun hil => ?_
  · have hil : i < az.length := by omega
    have hil2 : i < bs.length := by omega
    have hw := step64 (k := i) (n := az.length) hil (by omega)
    obtain ⟨q, rfl⟩ : ∃ q', q = q' + 1 := ⟨q - 1, by omega⟩
    obtain ⟨bz, oz, hpz, hlz⟩ := (ht.mono hm4).at (i := i) hil
    obtain ⟨by_, oy, hpy, hly⟩ := (hu.mono hm4).at (i := i) hil2
    obtain ⟨a, ea, ha⟩ := hA i hil
    obtain ⟨b, eb, hb⟩ := hB i hil2
    have hP := pair_at (l := l) hil hil2 ea eb
    rw [ea] at hlz
    rw [eb] at hly
    simp
    refine W_draw (fun _ v _ => v = .tuple [.agg (wC (relI l a b)), .bool (relI l a b).isSome, .int .i64 0]) (by simp [maxDst]) ?_
    refine D_pre 0 9 [9, 10, 11, 12, 13, 14, 15, 16, 17] (by simp only [List.drop_zero, List.drop_succ_cons, List.take_succ_cons, List.take_zero]; rfl) rfl rfl (fun _ _ => trivial) ?_
    simp [hpz, hlz, hpy, hly]
    intro _ _
    refine D_Cv (.tuple [.agg (wC (relI l a b)), .bool (relI l a b).isSome, .int .i64 0]) rfl trivial rfl rfl (fun m' hm' _ => (k20 s l a b m' (hs.mono (hm4.trans hm')) hr.sm (by omega) fun _ => hr).mono ?_) ?_
    · rintro w m'' ⟨g1, rfl⟩
      exact ⟨g1, relU_ok hc ha hb⟩
    refine D_P rfl trivial ?_
    simp
    refine D_P rfl trivial ?_
    simp
    refine D_P rfl trivial ?_
    simp
    refine D_P rfl trivial ?_
    simp
    refine D_An rfl trivial ?_
    simp [fillA]
    intro b' hb'
    refine D_W rfl rfl fun m8 hm8 hf8 => ?_
    have h8 := hf8 14
    simp [upd] at h8
    obtain ⟨m9, hs9, _, hc9⟩ := agg_store (n := 4) h8 (cs := wC (relI l a b)) (wC_len _).1 rfl (wC_len _).2
    simp [hs9]
    refine D_P rfl trivial ?_
    simp
    refine D_P rfl trivial ?_
    simp
    refine D_end fun m10 hm10 _ => ?_
    have hm410 : m4' <+: m10 := (hc9.pre hm8 fun c hc e => by omega).trans hm10
    cases hR : (relI l a b).isSome
    · rw [hR] at hP
      rw [all_false hil hP]
      simp [hR]
      exact hm4.trans hm410
    · rw [hR] at hP
      simp [hR, hw]
      refine ⟨q, by omega, (hI _ _ _).2 ⟨i + 1, by omega, by simp, hm4.trans hm410, fun j' h => ?_⟩⟩
      by_cases e : j' = i
      · subst e; exact hP
      · exact hno j' (by omega)
  · have hil : i = az.length := by omega
    subst hil
    rw [all_true hno]
    simp
    exact hm4
set_option maxHeartbeats 4000000 in
theorem k3 : LawTLL 3 := by
  intro m s t u l az bs hs ht hu hb hza hzb
  refine w3 ?_
  simp
  refine C_of (k5 m) ?_
  rintro _ m1 ⟨rfl, hm1⟩
  simp
  refine C_of (k6 s l 10 m1 (hs.mono hm1) (by omega)) ?_
  rintro _ m2 ⟨rfl, hm2⟩
  have hm02 := hm1.trans hm2
  cases hsm : (decide ((l.length : Int) ≤ 10) && l.all fun x => decide (x.elems.length ≤ 6) && decide (x.names.length ≤ 6))
  · simp
  have hf := fitR hb hsm
  have hn := hf.n
  simp [(ht.mono hm02).len, (hu.mono hm02).len]
  by_cases h4 : (4 : Int) < az.length
  · simp [h4]
  by_cases h5 : (4 : Int) < bs.length
  · simp [h4, h5, hu.len]
  simp [h4, h5, hu.len]
  refine C_of (k7 s t u l az bs m2 (hs.mono hm02) (ht.mono hm02) (hu.mono hm02) hf.sm (by omega) hf.room (by omega) (by omega)) ?_
  rintro _ m3 ⟨hm3, rfl⟩
  have hm03 := hm02.trans hm3
  simp
  refine C_of (k8 s t u l az bs m3 (hs.mono hm03) (ht.mono hm03) (hu.mono hm03) hf.sm (by omega) hf.room (by omega) (by omega)) ?_
  rintro _ m4 ⟨hm4, rfl⟩
  simp
noncomputable def fn3 : Func := (Tryz.checked.prog.funcs[3]?).get (by kernel_rfl)
theorem func3 : Tryz.checked.prog.funcs[3]? = some fn3 := by kernel_rfl
theorem relatedLists_holds : Rows.RelatedListsSaid :=
  OpenClaim.holds_of_wide 3 fn3 rfl rfl rfl rfl rfl rfl rfl ⟨rfl, rfl, rfl, rfl, rfl⟩ rfl rfl rfl rfl rfl (by kernel_rfl) func3 (by kernel_rfl)
    (of_decide_eq_true (by kernel_rfl)) (by unfold Func.isWrapper; rw [if_neg (of_decide_eq_false (by kernel_rfl))]; exact ⟨rfl, rfl⟩)
    (fun os started H enc _ => liftedLL (s := Rows.relatedListsSpec) (conds := Rows.relatedListsRow.domain) started (by kernel_rfl) func3 (by kernel_rfl) (by kernel_rfl) rfl (fun _ _ _ => rfl)
      (ChangeSpec.witness6 (enc := enc) (C := Tryz.checked) false ⟨#[], #[.slice none 0 0, .slice none 0 0, .slice none 0 0], []⟩ 8 (by kernel_rfl) (by kernel_rfl) (by kernel_rfl) (by kernel_rfl)) k3)
end Go.Proofs.YtlniliigcnedmaaGreat
