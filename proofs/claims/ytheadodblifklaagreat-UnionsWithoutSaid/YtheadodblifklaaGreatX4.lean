/- environlaw11.UnionsWithout returns true for every table of modes and any two numbers, and leaves its arguments as they were.  Conditions: none beyond those stated. -/
import Derived.Test.YtheadodblifklaaGreatX3
namespace Go.Proofs.YtheadodblifklaaGreat
open Go Ax
open Relation
set_option maxRecDepth 100000
theorem rowStruct_cases (x : Md) : (x.kind = 10 ∧ rowStruct x = true) ∨ (x.kind = 11 ∧ rowStruct x = true) ∨ (¬ x.kind = 10 ∧ ¬ x.kind = 11 ∧ rowStruct x = false) := by
  by_cases h : x.kind = 10
  · exact .inl ⟨h, by simp [rowStruct, h]⟩
  · by_cases h' : x.kind = 11
    · exact .inr (.inl ⟨h', by simp [rowStruct, h']⟩)
    · exact .inr (.inr ⟨h, h', by simp [rowStruct, h, h']⟩)
set_option maxHeartbeats 4000000 in
theorem k105 (s : AVal) (l : List Md) (m0 : AMem) (hs : RTab m0 s l) (hg : goodT l) (ha : acyc l) (hn : l.length ≤ 512) (hsz : ∀ x ∈ l, smallN x) (lo : Nat) (hlo : m0.length ≤ lo) (t : AVal) :
    ∀ (n i : Nat) (hi : i < l.length), hgt l i < n → ∀ (m : AMem) (N : List Bool), m0 <+: m → OwL AVal.bool lo m 4 t N → N.length = l.length → (∀ j, N[j]? = some true → ¬ FlexP l j) →
    ACalls Tryz.prog 105 [s, t, .int .i64 i] m fun v m' => m0 <+: m' ∧ (∃ b, v = .bool b ∧ (b = true ↔ FlexP l i)) ∧ Ch (fun c => t.blk = some c) m m' ∧ ∃ N, OwL AVal.bool lo m' 4 t N ∧ N.length = l.length ∧ ∀ j, N[j]? = some true → ¬ FlexP l j := by
  intro n
  induction n with
  | zero => intro i hi h; omega
  | succ n ih =>
    intro i hi hh m N hm hN hNl hNs
    refine w105 ?_
    obtain ⟨bx', ox, c, h4, h5, _, _, h6⟩ := hs.atC hi
    replace h5 := loadE_mono hm h5
    have hcl := h6.all
    simp [h4, h5]
    rw [store_new _ _ c _ _ 6 hcl.1 rfl hcl.2]
    have hb := readB_new m c 49 none
    have hm3 : m <+: m ++ [.own c 49 none] := List.prefix_append _ _
    have hbt : t.blk ≠ some m.length := fun hb => by have := (hN.blk_lo hb).2; omega
    have hch0 : Ch (fun c => t.blk = some c) m (m ++ [.own c 49 none]) := .of_prefix hm3
    replace hm := hm.trans hm3
    replace hN := hN.mono hm3
    generalize m ++ [.own c 49 none] = m1 at *
    generalize m.length = b7 at *
    obtain ⟨e, nm, c0, c1, c2, c3, c4, c5, he, hnm, rfl⟩ := h6.get
    have hlx : l[i]? = some l[i] := List.getElem?_eq_getElem hi
    have hxm : l[i] ∈ l := List.getElem_mem hi
    have hflex := FlexP.iff hlx
    generalize l[i] = x at *
    clear h5 h6 hm3 hcl h4 c0 c1 c2 c3 c4 c5
    obtain ⟨bt, ot, hbt', hpt, hlt, _⟩ := hN.at (i := i) (by omega)
    have stop : N[i]'(by omega) = true → ¬ FlexP l i := fun h => hNs i (by rw [List.getElem?_eq_getElem (by omega), h])
    rcases rowStruct_cases x with ⟨h, hr⟩ | ⟨h, hr⟩ | ⟨h, h', hr⟩
    rotate_left 2
    · simp [bx hb, bneT h, bneT h', hch0, hm]
      refine ⟨fun hf => ?_, N, hN, hNl, hNs⟩
      rw [hflex, hr] at hf
      cases hf.1
    all_goals
      simp [bx hb, h, hpt, hlt]
      refine bbind_intro (fun hst => ?_) fun hst => ?_
      · simp [hm, hch0]
        exact ⟨stop hst, N, hN, hNl, hNs⟩
      simp [bx hb]
      refine bbind_intro (fun hfl => ?_) fun hfl => ?_
      · simp [hm, hch0]
        exact ⟨hflex.2 ⟨hr, .inl hfl⟩, N, hN, hNl, hNs⟩
      simp
      obtain ⟨I, hI⟩ : ∃ I : Nat → AFrame → AMem → Prop, ∀ q a m', I q a m' ↔ (∃ (k : Nat) (N : List Bool), k + q = x.elems.length ∧ a = h105_0 s t (.int .i64 i) (.ptr b7 0) (.int .i64 k) ∧ m0 <+: m' ∧ Ch (fun c => t.blk = some c) m m' ∧ readB m' b7 = some [.int .i64 x.kind, .int .i64 x.size, e, nm, .int .i64 x.dims, .bool x.flex] ∧ OwL AVal.bool lo m' 4 t N ∧ N.length = l.length ∧ (∀ j, N[j]? = some true → ¬ FlexP l j) ∧ ∀ j y, j < k → x.elems[j]? = some y → ¬ FlexP l y.toNat) := ⟨_, fun _ _ _ => Iff.rfl⟩
      refine W_loop I x.elems.length ((hI _ _ _).2 ⟨0, N, by simp, rfl, hm, hch0, hb, hN, hNl, hNs, fun _ _ h => by omega⟩) ?_
      clear hN hNl hNs hm hch0 hb hlt stop hst
      rintro q a m2 hIn
      obtain ⟨k, N, hk, rfl, hm, hch, hb, hN, hNl, hNs, hno⟩ := (hI _ _ _).1 hIn
      clear hIn
      simp [bx hb, (he.mono hm).len]
      refine bbind_dec (fun hkl => ?_) fun hkl => ?_
      · have hw := step64 hkl (hsz _ hxm).1
        obtain ⟨q, rfl⟩ : ∃ q', q = q' + 1 := ⟨q - 1, by omega⟩
        obtain ⟨b1, o1, hp1, hl1⟩ := (he.mono hm).at hkl
        have hgx := hg _ hxm _ (List.getElem_mem hkl)
        have hee : x.elems[k]? = some x.elems[k] := List.getElem?_eq_getElem hkl
        have hem : x.elems[k] ∈ x.elems := List.getElem_mem hkl
        generalize x.elems[k] = ek at *
        obtain ⟨j, rfl⟩ : ∃ j : Nat, ek = j := ⟨ek.toNat, by omega⟩
        have hstep : stepF l i j := ⟨x, hlx, hr, hem⟩
        have hlt := hgt_lt hg ha hstep
        simp [bx hb, hp1, hl1]
        refine C_of (ih j (by omega) (by omega) m2 N hm hN hNl hNs) ?_
        rintro _ m3 ⟨hm3, ⟨b, rfl, hbf⟩, hch3, N', hN', hNl', hNs'⟩
        simp
        refine bbind_intro (fun hbb => ?_) fun hbb => ?_
        · simp [hm3]
          exact ⟨hflex.2 ⟨hr, .inr ⟨j, hstep, hbf.1 hbb⟩⟩, hch.trans hch3, N', hN', hNl', hNs'⟩
        · simp [hw]
          refine ⟨q, by omega, (hI _ _ _).2 ⟨k + 1, N', by omega, by simp, hm3, hch.trans hch3, hch3.read hbt hb, hN', hNl', hNs', fun j' y hj' hy => ?_⟩⟩
          by_cases hjk : j' = k
          · subst hjk
            rw [hee] at hy
            cases hy
            rw [Int.toNat_natCast]
            intro hf
            rw [hbf.2 hf] at hbb
            cases hbb
          · exact hno j' y (by omega) hy
      · have hnf : ¬ FlexP l i := by
          rw [hflex]
          rintro ⟨_, h1 | ⟨z, ⟨y, k1, k2, k3⟩, h2⟩⟩
          · rw [hfl] at h1; cases h1
          · rw [hlx] at k1; cases k1
            obtain ⟨j, hj, k4⟩ := List.mem_iff_getElem.1 k3
            refine hno j z (by omega) (by rw [List.getElem?_eq_getElem hj, k4]) ?_
            simpa using h2
        obtain ⟨bt2, ot2, hbt2, hpt2, hlt2, hst2⟩ := hN.at (i := i) (by omega)
        obtain ⟨m3, hst, hch3, hN3⟩ := hst2 true
        have hm3 : m0 <+: m3 := hch3.pre hm fun b hb => by have := (hN.blk_lo hbt2).1; omega
        simp [hpt2, hst, hm3, hnf]
        refine ⟨hch.trans (hch3.weaken fun b _ hb => by rw [hb]; exact hbt2), N.set i true, hN3, by simpa using hNl, fun j hj => ?_⟩
        rcases of_set hj with rfl | hj
        · exact hnf
        · exact hNs j hj
end Go.Proofs.YtheadodblifklaaGreat

namespace Go.Proofs.YtheadodblifklaaGreat
open Go Ax
open Relation
set_option maxRecDepth 100000
structure FS (s tk to : AVal) (b1 b2 b3 b4 lo : Nat) (m0 m : AMem) (K O : List Bool) : Prop where
  hm : m0 <+: m
  r1 : readB m b1 = some [s]
  r2 : readB m b2 = some [tk]
  r3 : readB m b3 = some [to]
  r4 : readB m b4 = some [.func (.func 133) [] [.ptr b1 0, .ptr b2 0, .ptr b3 0, .ptr b4 0]]
  oK : OwL AVal.bool lo m 4 tk K
  oO : OwL AVal.bool lo m 4 to O
theorem FS.mono {s tk to : AVal} {b1 b2 b3 b4 lo : Nat} {m0 m m' : AMem} {K O : List Bool} (h : FS s tk to b1 b2 b3 b4 lo m0 m K O) (hm : m <+: m') : FS s tk to b1 b2 b3 b4 lo m0 m' K O :=
  ⟨h.hm.trans hm, readB_mono hm h.r1, readB_mono hm h.r2, readB_mono hm h.r3, readB_mono hm h.r4, h.oK.mono hm, h.oO.mono hm⟩
def apart3 (s tk to : AVal) (b1 b2 b3 b4 lo : Nat) (m0 : AMem) : Prop := m0.length ≤ lo ∧ (∀ b, tk.blk = some b → to.blk ≠ some b) ∧ (∀ b, b = b1 ∨ b = b2 ∨ b = b3 ∨ b = b4 → tk.blk ≠ some b ∧ to.blk ≠ some b)
def rowsOf (tk to : AVal) (b : Nat) : Prop := tk.blk = some b ∨ to.blk = some b
theorem FS.ch {s tk to : AVal} {b1 b2 b3 b4 lo : Nat} {m0 m m' : AMem} {K O K' O' : List Bool} (h : FS s tk to b1 b2 b3 b4 lo m0 m K O) (ha : apart3 s tk to b1 b2 b3 b4 lo m0) (hc : Ch (rowsOf tk to) m m') (oK : OwL AVal.bool lo m' 4 tk K') (oO : OwL AVal.bool lo m' 4 to O') : FS s tk to b1 b2 b3 b4 lo m0 m' K' O' := by
  have hx : ∀ b, b = b1 ∨ b = b2 ∨ b = b3 ∨ b = b4 → ¬ rowsOf tk to b := fun b hb hr => hr.elim (ha.2.2 b hb).1 (ha.2.2 b hb).2
  refine ⟨hc.pre h.hm fun b hb hr => ?_, hc.read (hx _ (by simp)) h.r1, hc.read (hx _ (by simp)) h.r2, hc.read (hx _ (by simp)) h.r3, hc.read (hx _ (by simp)) h.r4, oK, oO⟩
  have := ha.1
  rcases hr with hr | hr
  · have := (h.oK.blk_lo hr).1; omega
  · have := (h.oO.blk_lo hr).1; omega
set_option maxHeartbeats 4000000 in
theorem k133 (s tk to : AVal) (b1 b2 b3 b4 lo : Nat) (l : List Md) (m0 : AMem) (hs : RTab m0 s l) (hg : goodT l) (ha : acyc l) (hn : l.length ≤ 512) (hsz : ∀ x ∈ l, smallN x) (hap : apart3 s tk to b1 b2 b3 b4 lo m0) :
    ∀ (n i : Nat) (hi : i < l.length), hgt l i < n → ∀ (m : AMem) (K O : List Bool) (B : Nat → Prop), FS s tk to b1 b2 b3 b4 lo m0 m K O → FInv l K O B → (∀ j, B j → ¬ (j = i ∨ TransGen (stepF l) i j)) →
    ACalls Tryz.prog 133 [.int .i64 i, .ptr b1 0, .ptr b2 0, .ptr b3 0, .ptr b4 0] m fun v m' => (∃ b, v = .bool b ∧ (b = true ↔ FlexP l i)) ∧ Ch (rowsOf tk to) m m' ∧ ∃ K' O', FS s tk to b1 b2 b3 b4 lo m0 m' K' O' ∧ FInv l K' O' B ∧ (∀ (j : Nat), K[j]? = some true → K'[j]? = some true ∧ O'[j]? = O[j]?) ∧ (K'[i]? = some true ∨ ∀ x, l[i]? = some x → rowStruct x = false) := by
  intro n
  induction n with
  | zero => intro i hi h; omega
  | succ n ih =>
    intro i hi hh m K O B hF hI hB
    refine w133 ?_
    obtain ⟨bx', ox, c, h4, h5, _, _, h6⟩ := hs.atC hi
    replace h5 := loadE_mono hF.hm h5
    have hcl := h6.all
    simp [bx hF.r1, h4, h5]
    rw [store_new _ _ c _ _ 6 hcl.1 rfl hcl.2]
    have hb := readB_new m c 49 none
    have hm3 : m <+: m ++ [.own c 49 none] := List.prefix_append _ _
    have hbt : ¬ rowsOf tk to m.length := fun hr => by
      rcases hr with hr | hr
      · have := (hF.oK.blk_lo hr).2; omega
      · have := (hF.oO.blk_lo hr).2; omega
    have hch0 : Ch (rowsOf tk to) m (m ++ [.own c 49 none]) := .of_prefix hm3
    replace hF := hF.mono hm3
    generalize m ++ [.own c 49 none] = m1 at *
    generalize m.length = b7 at *
    obtain ⟨e, nm, c0, c1, c2, c3, c4, c5, he, hnm, rfl⟩ := h6.get
    have hlx : l[i]? = some l[i] := List.getElem?_eq_getElem hi
    have hxm : l[i] ∈ l := List.getElem_mem hi
    have hflex := FlexP.iff hlx
    generalize l[i] = x at *
    clear h5 h6 hm3 hcl h4 c0 c1 c2 c3 c4 c5
    have hiK : i < K.length := by rw [hI.lenK]; exact hi
    have hiO : i < O.length := by rw [hI.lenO]; exact hi
    obtain ⟨bk, ok, hbk, hpk, hlk, hstk⟩ := hF.oK.at hiK
    obtain ⟨bo, oo, hbo, hpo, hlo, _⟩ := hF.oO.at hiO
    have hBi : ¬ B i := fun h => hB i h (.inl rfl)
    by_cases hskip : K[i] = true ∨ rowStruct x = false
    · have hOi : O[i] = true ↔ FlexP l i := by
        by_cases hK : K[i] = true
        · have := hI.done i (by rw [List.getElem?_eq_getElem hiK, hK]) hBi
          rw [← this, List.getElem?_eq_getElem hiO, Option.some.injEq]
        · have hr : rowStruct x = false := hskip.resolve_left hK
          have := hI.rest i (by rw [List.getElem?_eq_getElem hiK]; simpa using hK)
          rw [List.getElem?_eq_getElem hiO, Option.some.injEq] at this
          rw [this, hflex, hr]
          simp
      have hOi : O[i] = false ∧ ¬FlexP l i ∨ O[i] = true ∧ FlexP l i := by cases h : O[i] <;> rw [h] at hOi <;> simp at hOi <;> simp [hOi]
      cases hK : K[i]
      · have hr : rowStruct x = false := hskip.resolve_left (by rw [hK]; simp)
        rcases rowStruct_cases x with ⟨h, hr'⟩ | ⟨h, hr'⟩ | ⟨h, h', _⟩
        · rw [hr] at hr'; cases hr'
        · rw [hr] at hr'; cases hr'
        · simp [bx hF.r2, hpk, hlk, hK, bx hb, beqF h, beqF h', bx hF.r3, hpo, hlo]
          exact ⟨hOi, hch0, K, O, hF, hI, fun j hj => ⟨hj, rfl⟩, .inr fun y hy => by rw [hlx] at hy; cases hy; exact hr⟩
      · simp [bx hF.r2, hpk, hlk, hK, bx hF.r3, hpo, hlo]
        exact ⟨hOi, hch0, K, O, hF, hI, fun j hj => ⟨hj, rfl⟩, .inl (by rw [List.getElem?_eq_getElem hiK, hK])⟩
    · have hK : K[i] = false := by
        cases h : K[i]
        · rfl
        · exact absurd (.inl h) hskip
      have hr : rowStruct x = true := by
        cases h : rowStruct x
        · exact absurd (.inr h) hskip
        · rfl
      clear hskip
      obtain ⟨m2, hst2, hch2, hK2⟩ := hstk true
      have hch2' : Ch (rowsOf tk to) m1 m2 := hch2.weaken fun b _ hb => .inl (by rw [hb]; exact hbk)
      have hO2 := hF.oO.ch hch2 fun b hb hbb => hap.2.1 bk hbk (by rw [← hbb]; exact hb)
      have hF2 := hF.ch hap hch2' hK2 hO2
      obtain ⟨bo2, oo2, hbo2, hpo2, hlo2, hsto2⟩ := hF2.oO.at hiO
      obtain ⟨m3, hst3, hch3, hO3⟩ := hsto2 x.flex
      have hch3' : Ch (rowsOf tk to) m2 m3 := hch3.weaken fun b _ hb => .inr (by rw [hb]; exact hbo2)
      have hK3 := hF2.oK.ch hch3 fun b hb hbb => hap.2.1 b hb (by rw [hbb]; exact hbo2)
      have hF3 := hF2.ch hap hch3' hK3 hO3
      have hb2 := hch2'.read hbt hb
      have hb3 := hch3'.read hbt hb2
      have hel := (he.mono hF3.hm).len
      have hFI : FInv l (K.set i true) (O.set i x.flex) (fun j => B j ∨ j = i) := by
        refine ⟨by simpa using hI.lenK, by simpa using hI.lenO, fun j hj hnb => ?_, fun j hj => ?_, fun j y hy hj => ?_⟩
        · have hji : ¬ i = j := fun h => hnb (.inr h.symm)
          rw [List.getElem?_set_ne hji] at hj ⊢
          exact hI.done j hj fun h => hnb (.inl h)
        · by_cases hji : i = j
          · subst hji; rw [List.getElem?_set_self hiK] at hj; cases hj
          · rw [List.getElem?_set_ne hji] at hj ⊢
            exact hI.rest j hj
        · by_cases hji : i = j
          · subst hji; rw [hlx] at hy; cases hy; exact hr
          · rw [List.getElem?_set_ne hji] at hj
            exact hI.row j y hy hj
      have hkeep : ∀ (j : Nat), K[j]? = some true → (K.set i true)[j]? = some true ∧ (O.set i x.flex)[j]? = O[j]? := by
        intro j hj
        have hji : ¬ i = j := fun h => by subst h; rw [List.getElem?_eq_getElem hiK, hK] at hj; cases hj
        rw [List.getElem?_set_ne hji, List.getElem?_set_ne hji]
        exact ⟨hj, rfl⟩
      have hOi : (O.set i x.flex)[i]? = some x.flex := List.getElem?_set_self hiO
      have hch := (hch0.trans hch2').trans hch3'
      rcases rowStruct_cases x with ⟨h, _⟩ | ⟨h, _⟩ | ⟨_, _, h⟩
      rotate_left 2
      · rw [hr] at h; cases h
      all_goals
        simp [bx hF.r2, hpk, hlk, hK, bx hb, h, hst2, bx hF2.r3, hpo2, bx hb2, hst3, bx hb3, hel]
        obtain ⟨I, hJ⟩ : ∃ I : Nat → AFrame → AMem → Prop, ∀ q a m', I q a m' ↔ (∃ (k : Nat) (K2 O2 : List Bool), k + q = x.elems.length ∧ a = h133_0 (.int .i64 i) (.ptr b3 0) (.ptr b4 0) e (.int .i64 x.elems.length) (.int .i64 k) ∧ FS s tk to b1 b2 b3 b4 lo m0 m' K2 O2 ∧ FInv l K2 O2 (fun j => B j ∨ j = i) ∧ Ch (rowsOf tk to) m m' ∧ (∀ (j : Nat), K[j]? = some true → K2[j]? = some true ∧ O2[j]? = O[j]?) ∧ K2[i]? = some true ∧ ∃ b, O2[i]? = some b ∧ (b = true ↔ x.flex = true ∨ ∃ j y, j < k ∧ x.elems[j]? = some y ∧ FlexP l y.toNat)) := ⟨_, fun _ _ _ => Iff.rfl⟩
        refine W_loop I x.elems.length ((hJ _ _ _).2 ⟨0, _, _, by simp, rfl, hF3, hFI, hch, hkeep, List.getElem?_set_self hiK, x.flex, hOi, by simp⟩) ?_
        rintro q a m4 hIn
        obtain ⟨k, K2, O2, hk, rfl, hF4, hI4, hch4, hkeep4, hKi, b, hOb, hbf⟩ := (hJ _ _ _).1 hIn
        clear hIn
        simp
        refine bbind_dec (fun hkl => ?_) fun hkl => ?_
        · have hw := step64 hkl (hsz _ hxm).1
          obtain ⟨q, rfl⟩ : ∃ q', q = q' + 1 := ⟨q - 1, by omega⟩
          obtain ⟨b1', o1', hp1, hl1⟩ := (he.mono hF4.hm).at hkl
          have hgx := hg _ hxm _ (List.getElem_mem hkl)
          have hee : x.elems[k]? = some x.elems[k] := List.getElem?_eq_getElem hkl
          have hem : x.elems[k] ∈ x.elems := List.getElem_mem hkl
          generalize x.elems[k] = ek at *
          obtain ⟨j, rfl⟩ : ∃ j : Nat, ek = j := ⟨ek.toNat, by omega⟩
          have hstep : stepF l i j := ⟨x, hlx, hr, hem⟩
          have hlt := hgt_lt hg ha hstep
          have hBj : ∀ z, (B z ∨ z = i) → ¬ (z = j ∨ TransGen (stepF l) j z) := by
            rintro z (hz | rfl) hc
            · refine hB z hz (.inr ?_)
              rcases hc with rfl | hc
              · exact .single hstep
              · exact TransGen.head' hstep hc
            · rcases hc with rfl | hc
              · exact acycF ha z (.single hstep)
              · exact acycF ha z (TransGen.head' hstep hc)
          simp [hp1, hl1]
          refine W_draw (fun _ _ _ => True) (by simp [maxDst]) ?_
          refine D_pre 0 4 [4, 5, 6, 7, 8, 9, 10, 11, 12] (by simp only [List.drop_zero, List.drop_succ_cons, List.take_succ_cons, List.take_zero]; rfl) rfl rfl (fun _ _ => trivial) ?_
          simp [bx hF4.r3, bx hF4.r4]
          intro fs' hfs'
          refine D_X rfl rfl fun m5 hm5 _ => ?_
          simp
          refine C_of (ih j (by omega) (by omega) m5 K2 O2 _ (hF4.mono hm5) hI4 hBj) ?_
          rintro _ m6 ⟨⟨bj, rfl, hbj⟩, hch6, K3, O3, hF6, hI6, hkeep6, _⟩
          refine ⟨?_, ?_⟩
          · simp [lateOf, ROp.ev, hF6.r3]
          have hO3i : O3[i]? = some b := by rw [(hkeep6 i hKi).2, hOb]
          have hK3i : K3[i]? = some true := (hkeep6 i hKi).1
          have hi3 : i < O3.length := by rw [hI6.lenO]; exact hi
          have hO3i' : O3[i] = b := by rw [List.getElem?_eq_getElem hi3] at hO3i; simpa using hO3i
          obtain ⟨bo6, oo6, hbo6, hpo6, hlo6, _⟩ := hF6.oO.at hi3
          refine D_pre 5 7 [12] (by simp only [List.drop_zero, List.drop_succ_cons, List.take_succ_cons, List.take_zero]; rfl) rfl rfl (fun _ _ => trivial) ?_
          have fin : ∀ (m7 : AMem), m6 <+: m7 → ∃ m8, storeE m7 1 (.ptr bo6 oo6) (.bool (bj || b)) = some (.undef, m8) ∧ ∀ m9, m8 <+: m9 → I q (mat 61 [(0, .int .i64 i), (3, .ptr b3 0), (4, .ptr b4 0), (38, e), (39, .int .i64 x.elems.length), (40, .int .i64 (k + 1 : Nat))]) m9 := by
            intro m7 hm7
            have hF7 := hF6.mono hm7
            obtain ⟨bo7, oo7, hbo7, hpo7, _, hst7⟩ := hF7.oO.at hi3
            obtain ⟨rfl, rfl⟩ : bo7 = bo6 ∧ oo7 = oo6 := by have := (hpo7 .i64).symm.trans (hpo6 .i64); simpa using this
            obtain ⟨m8, hst8, hch8, hO8⟩ := hst7 (bj || b)
            refine ⟨m8, hst8, fun m9 hm9 => (hJ _ _ _).2 ⟨k + 1, K3, O3.set i (bj || b), by omega, rfl, ?_, ?_, ?_, ?_, hK3i, bj || b, List.getElem?_set_self hi3, ?_⟩⟩
            · have hch8' : Ch (rowsOf tk to) m7 m8 := hch8.weaken fun b _ hb => .inr (by rw [hb]; exact hbo7)
              have hK8 := hF7.oK.ch hch8 fun b hb hbb => hap.2.1 b hb (by rw [hbb]; exact hbo7)
              exact (hF7.ch hap hch8' hK8 hO8).mono hm9
            · refine ⟨hI6.lenK, by simpa using hI6.lenO, fun z hz hnb => ?_, fun z hz => ?_, hI6.row⟩
              · have hzi : ¬ i = z := fun h => hnb (.inr h.symm)
                rw [List.getElem?_set_ne hzi]
                exact hI6.done z hz hnb
              · have hzi : ¬ i = z := fun h => by subst h; rw [hK3i] at hz; cases hz
                rw [List.getElem?_set_ne hzi]
                exact hI6.rest z hz
            · have hch8' : Ch (rowsOf tk to) m7 m8 := hch8.weaken fun b _ hb => .inr (by rw [hb]; exact hbo7)
              exact ((((hch4.trans (.of_prefix hm5)).trans hch6).trans (.of_prefix hm7)).trans hch8').trans (.of_prefix hm9)
            · intro z hz
              have hzi : ¬ i = z := fun h => by subst h; rw [List.getElem?_eq_getElem hiK, hK] at hz; cases hz
              rw [List.getElem?_set_ne hzi]
              have h1 := hkeep4 z hz
              have h2 := hkeep6 z h1.1
              exact ⟨h2.1, h2.2.trans h1.2⟩
            · rw [Bool.or_eq_true, hbf, hbj]
              constructor
              · rintro (h1 | h1 | ⟨j', y, h1, h2, h3⟩)
                · exact .inr ⟨k, j, by omega, hee, by simpa using h1⟩
                · exact .inl h1
                · exact .inr ⟨j', y, by omega, h2, h3⟩
              · rintro (h1 | ⟨j', y, h1, h2, h3⟩)
                · exact .inr (.inl h1)
                · by_cases hjk : j' = k
                  · subst hjk
                    rw [hee] at h2; cases h2
                    exact .inl (by simpa using h3)
                  · exact .inr (.inr ⟨j', y, by omega, h2, h3⟩)
          cases bj
          · simp [bx hF6.r3, hpo6, hlo6, hO3i']
            intro fs'' hfs''
            refine D_W rfl rfl fun m7 hm7 _ => ?_
            obtain ⟨m8, hst8, hk8⟩ := fin m7 hm7
            simp at hst8
            simp [hst8]
            refine D_end fun m9 hm9 _ => ?_
            simp [hw]
            exact ⟨q, by omega, hk8 m9 hm9⟩
          · simp [bx hF6.r3, hpo6, hlo6, hO3i']
            intro fs'' hfs''
            refine D_W rfl rfl fun m7 hm7 _ => ?_
            obtain ⟨m8, hst8, hk8⟩ := fin m7 hm7
            simp at hst8
            simp [hst8]
            refine D_end fun m9 hm9 _ => ?_
            simp [hw]
            exact ⟨q, by omega, hk8 m9 hm9⟩
        · have hi2 : i < O2.length := by rw [hI4.lenO]; exact hi
          have hO2i : O2[i] = b := by rw [List.getElem?_eq_getElem hi2] at hOb; simpa using hOb
          obtain ⟨bo4, oo4, _, hpo4, hlo4, _⟩ := hF4.oO.at hi2
          simp [bx hF4.r3, hpo4, hlo4, hO2i]
          have hbF : b = true ↔ FlexP l i := by
            rw [hbf, hflex]
            constructor
            · rintro (h1 | ⟨j, y, h1, h2, h3⟩)
              · exact ⟨hr, .inl h1⟩
              · have hym : y ∈ x.elems := List.mem_of_getElem? h2
                have := hg _ hxm _ hym
                exact ⟨hr, .inr ⟨y.toNat, ⟨x, hlx, hr, by rw [Int.toNat_of_nonneg this.1]; exact hym⟩, h3⟩⟩
            · rintro ⟨_, h1 | ⟨z, ⟨y, k1, k2, k3⟩, h2⟩⟩
              · exact .inl h1
              · rw [hlx] at k1; cases k1
                obtain ⟨j, hj, k4⟩ := List.mem_iff_getElem.1 k3
                exact .inr ⟨j, z, by omega, by rw [List.getElem?_eq_getElem hj, k4], by simpa using h2⟩
          have hbF' : b = false ∧ ¬FlexP l i ∨ b = true ∧ FlexP l i := by cases b <;> simp at hbF <;> simp [hbF]
          refine ⟨hbF', hch4, K2, O2, hF4, ⟨hI4.lenK, hI4.lenO, fun z hz hnb => ?_, hI4.rest, hI4.row⟩, hkeep4, .inl hKi⟩
          by_cases hzi : z = i
          · subst hzi
            rw [hOb, Option.some.injEq]; exact hbF
          · exact hI4.done z hz fun h => h.elim hnb hzi
end Go.Proofs.YtheadodblifklaaGreat

namespace Go.Proofs.YtheadodblifklaaGreat
open Go Ax
open Relation
set_option maxRecDepth 100000
theorem store_at {m : AMem} {b : Nat} {z v : AVal} {ty : TypeId} {g : Option Nat} (h : m[b]? = some (.own [z] ty g)) (h1 : v.cells = [v]) (h3 : v.one = true) : storeE m 1 (.ptr b 0) v = some (.undef, m.set b (.own [v] ty g)) := by
  simp [storeE, h1, writeB, h, h3, setN]
theorem Ax.OwL.of_get {α : Type} {f : α → AVal} [hf : Cell f] {m : AMem} {b lo : Nat} {ty : TypeId} {xs : List α} (h : m[b]? = some (.own (xs.map f) ty none)) (hlo : lo ≤ b) : OwL f lo m ty (.slice b 0 xs.length xs.length none) xs := by
  refine .inr ⟨b, 0, xs.length, none, xs.map f, none, rfl, hlo, h, ?_, Nat.le_refl _, by simp, by simp [hf.one], .inl rfl⟩
  unfold readN
  rw [if_pos (by simp), List.drop_zero, List.take_of_length_le (by simp)]
set_option maxHeartbeats 4000000 in
theorem k86 (s : AVal) (l : List Md) (m : AMem) (hs : RTab m s l) (hg : goodT l) (ha : acyc l) (hn : l.length ≤ 512) (hsz : ∀ x ∈ l, smallN x) :
    ACalls Tryz.prog 86 [s] m fun v m' => m <+: m' ∧ ∃ O, OwL AVal.bool m.length m' 4 v O ∧ O.length = l.length ∧ ∀ (j : Nat), O[j]? = some true ↔ j < l.length ∧ FlexP l j := by
  refine w86 ?_
  obtain ⟨hsl, hsc⟩ := hs.self
  have hc1 : (l.length : Int) ≤ 281474976710656 := by omega
  have hc2 : (l.length : Int) ≤ 9223372036854775807 := by omega
  simp [hsl, hsc, hs.len, hc1, hc2]
  have hb1 : loadE (m ++ [ABlk.own [s] 22 none]) 1 false (.ptr m.length 0) = some s := by rw [bx (readB_new m [s] 22 none)]; rfl
  rw [store_at (z := .nilslice) (ty := 83) (g := none) (by simp) rfl rfl]
  simp [List.set_append, loadE, readB, ABlk.cells, hs.len, hc1, hc2]
  rw [store_at (z := .nilslice) (ty := 83) (g := none) (by simp) rfl rfl]
  simp [List.set_append]
  rw [store_at (z := .nilfunc) (ty := 61) (g := none) (by simp) rfl rfl]
  simp [List.set_append, loadE, readB, ABlk.cells, hs.len]
  generalize hM : m ++ [ABlk.own [s] 22 none, ABlk.own (List.replicate l.length (AVal.bool false)) 4 none, ABlk.own [AVal.slice (List.length m + 1) 0 l.length l.length none] 83 none, ABlk.own (List.replicate l.length (AVal.bool false)) 4 none, ABlk.own [AVal.slice (List.length m + 3) 0 l.length l.length none] 83 none, ABlk.own [AVal.func (Fn.func 133) [] [AVal.ptr (List.length m) 0, AVal.ptr (List.length m + 4) 0, AVal.ptr (List.length m + 2) 0, AVal.ptr (List.length m + 5) 0]] 61 none] = M
  have g : ∀ k, M[m.length + k]? = ([ABlk.own [s] 22 none, ABlk.own (List.replicate l.length (AVal.bool false)) 4 none, ABlk.own [AVal.slice (List.length m + 1) 0 l.length l.length none] 83 none, ABlk.own (List.replicate l.length (AVal.bool false)) 4 none, ABlk.own [AVal.slice (List.length m + 3) 0 l.length l.length none] 83 none, ABlk.own [AVal.func (Fn.func 133) [] [AVal.ptr (List.length m) 0, AVal.ptr (List.length m + 4) 0, AVal.ptr (List.length m + 2) 0, AVal.ptr (List.length m + 5) 0]] 61 none] : AMem)[k]? := fun k => by
    rw [← hM, List.getElem?_append_right (by omega)]
    congr 1
    omega
  have hrl : (List.replicate l.length false).length = l.length := by simp
  have hF : FS s (.slice (m.length + 3) 0 l.length l.length none) (.slice (m.length + 1) 0 l.length l.length none) m.length (m.length + 4) (m.length + 2) (m.length + 5) m.length m M (List.replicate l.length false) (List.replicate l.length false) := by
    refine ⟨by rw [← hM]; exact List.prefix_append _ _, by have := g 0; simp at this; simp [readB, this, ABlk.cells], by simp [readB, g 4, ABlk.cells], by simp [readB, g 2, ABlk.cells], by simp [readB, g 5, ABlk.cells], ?_, ?_⟩
    · have := OwL.of_get (f := AVal.bool) (m := M) (b := m.length + 3) (lo := m.length) (ty := 4) (xs := List.replicate l.length false) (by simp [g 3]) (by omega)
      rw [hrl] at this
      exact this
    · have := OwL.of_get (f := AVal.bool) (m := M) (b := m.length + 1) (lo := m.length) (ty := 4) (xs := List.replicate l.length false) (by simp [g 1]) (by omega)
      rw [hrl] at this
      exact this
  have hap : apart3 s (.slice (m.length + 3) 0 l.length l.length none) (.slice (m.length + 1) 0 l.length l.length none) m.length (m.length + 4) (m.length + 2) (m.length + 5) m.length m := by
    refine ⟨Nat.le_refl _, fun b hb => ?_, fun b hb => ?_⟩ <;> simp [AVal.blk] at * <;> omega
  have hI0 : FInv l (List.replicate l.length false) (List.replicate l.length false) (fun _ => False) := by
    have hx : ∀ (j : Nat), (List.replicate l.length false)[j]? = some true → False := fun j h => by
      rw [List.getElem?_replicate] at h
      split at h <;> cases h
    exact ⟨by simp, by simp, fun j h => (hx j h).elim, fun j h => h, fun j _ _ h => (hx j h).elim⟩
  generalize AVal.slice (m.length + 3) 0 l.length l.length none = tk at *
  generalize AVal.slice (m.length + 1) 0 l.length l.length none = to at *
  obtain ⟨I, hJ⟩ : ∃ I : Nat → AFrame → AMem → Prop, ∀ q a m', I q a m' ↔ (∃ (k : Nat) (K O : List Bool), k + q = l.length ∧ a = h86_0 (.ptr (m.length + 2) 0) (.ptr (m.length + 5) 0) (.int .i64 l.length) (.int .i64 k) ∧ FS s tk to m.length (m.length + 4) (m.length + 2) (m.length + 5) m.length m m' K O ∧ FInv l K O (fun _ => False) ∧ ∀ j x, j < k → l[j]? = some x → K[j]? = some true ∨ rowStruct x = false) := ⟨_, fun _ _ _ => Iff.rfl⟩
  refine W_loop I l.length ((hJ _ _ _).2 ⟨0, _, _, by simp, rfl, hF, hI0, fun _ _ h => by omega⟩) ?_
  clear hF hI0 g hM
  rintro q a m2 hIn
  obtain ⟨k, K, O, hk, rfl, hF, hI, hdone⟩ := (hJ _ _ _).1 hIn
  clear hIn
  simp
  refine bbind_dec (fun hkl => ?_) fun hkl => ?_
  · have hw := step64 hkl (by omega)
    obtain ⟨q, rfl⟩ : ∃ q', q = q' + 1 := ⟨q - 1, by omega⟩
    simp [bx hF.r4]
    refine C_of (k133 s tk to _ _ _ _ _ l m hs hg ha hn hsz hap (hgt l k + 1) k hkl (by omega) m2 K O _ hF hI (fun _ h => h.elim)) ?_
    rintro _ m3 ⟨⟨b, rfl, hbf⟩, hch, K', O', hF', hI', hkeep, hki⟩
    simp [hw]
    refine ⟨q, by omega, (hJ _ _ _).2 ⟨k + 1, K', O', by omega, by simp, hF', hI', fun j x hj hx => ?_⟩⟩
    by_cases hjk : j = k
    · subst hjk
      exact hki.imp id fun h => h x hx
    · exact (hdone j x (by omega) hx).imp (fun h => (hkeep j h).1) id
  · simp [bx hF.r3]
    refine ⟨hF.hm, O, hF.oO, hI.lenO, fun j => ?_⟩
    by_cases hj : j < l.length
    · have hlx : l[j]? = some l[j] := List.getElem?_eq_getElem hj
      rcases hdone j _ (by omega) hlx with h | h
      · rw [hI.done j h (fun h => h)]
        exact ⟨fun h => ⟨hj, h⟩, And.right⟩
      · have hK : K[j]? = some false := by
          rw [List.getElem?_eq_getElem (by rw [hI.lenK]; exact hj)]
          cases hc : K[j]'(by rw [hI.lenK]; exact hj)
          · rfl
          · have := hI.row j _ hlx (by rw [List.getElem?_eq_getElem (by rw [hI.lenK]; exact hj), hc])
            rw [this] at h; cases h
        rw [hI.rest j hK, FlexP.iff hlx, h]
        simp
    · rw [List.getElem?_eq_none (by rw [hI.lenO]; omega)]
      simp [hj]
end Go.Proofs.YtheadodblifklaaGreat

namespace Go.Proofs.YtheadodblifklaaGreat
open Go Ax
open Relation
def firstI : List Int → Int
  | [] => 0
  | x :: r => if x = 0 then firstI r else x
theorem firstI_zero : ∀ {l : List Int}, firstI l = 0 ↔ ∀ x ∈ l, x = 0
  | [] => by simp [firstI]
  | x :: r => by
    unfold firstI
    by_cases h : x = 0
    · rw [if_pos h, firstI_zero]; simp [h]
    · rw [if_neg h]; simp [h]
theorem firstI_at : ∀ {l : List Int} {k : Nat} (hk : k < l.length), (∀ j (hj : j < l.length), j < k → l[j] = 0) → l[k] ≠ 0 → firstI l = l[k]
  | [], k, hk, _, _ => by cases hk
  | x :: r, 0, _, _, h => by simp at h; simp [firstI, h]
  | x :: r, k + 1, hk, h0, h => by
    have h1 := h0 0 (by simp) (by omega)
    simp at h1
    simp only [List.getElem_cons_succ] at h ⊢
    rw [firstI, if_pos h1]
    exact firstI_at (by simpa using hk) (fun j hj hjk => by have := h0 (j + 1) (by simp; omega) (by omega); simpa using this) h
def flexOf (x : Md) : Bool := x.kind == 12 || x.kind == 13
open Classical in
noncomputable def checkI (l : List Md) : Int :=
  if 512 < l.length then 3
  else if firstI (l.map (oneI · l.length)) ≠ 0 then firstI (l.map (oneI · l.length))
  else if l.any (voidsB l) then 7
  else if ∃ r, r < l.length ∧ badM l r then 10
  else if ∃ x ∈ l, flexOf x = true ∧ ∃ e ∈ x.elems, FlexP l e.toNat then 7
  else 0
theorem oneI_zero {x : Md} {n : Nat} (h : oneI x n = 0) : shapeI x = 0 ∧ (∀ e ∈ x.elems, 0 ≤ e ∧ e < n) ∧ (∀ s ∈ x.names, wordB 97 122 s = true) ∧ twiceB x.names = false := by
  unfold oneI at h
  by_cases h1 : shapeI x = 0
  · rw [if_neg (by simp [h1])] at h
    by_cases h2 : x.elems.any (outB n) = true
    · rw [if_pos h2] at h; omega
    · rw [if_neg h2] at h
      by_cases h3 : x.names.any (fun s => !wordB 97 122 s) = true
      · rw [if_pos h3] at h; omega
      · rw [if_neg h3] at h
        by_cases h4 : twiceB x.names = true
        · rw [if_pos h4] at h; omega
        · refine ⟨h1, fun e he => ?_, fun s hs => ?_, by simpa using h4⟩
          · simp only [List.any_eq_true, not_exists, not_and] at h2
            have := h2 e he
            simp [outB] at this
            omega
          · simp only [List.any_eq_true, not_exists, not_and] at h3
            have := h3 s hs
            simpa using this
  · rw [if_pos h1] at h; exact absurd h h1
theorem shapeI_zero {x : Md} (h : shapeI x = 0) : 0 ≤ x.kind ∧ x.kind < 14 ∧ shaped x ∧ x.elems.length ≤ 64 := by
  unfold shapeI at h
  split at h
  · omega
  · split at h
    · split at h
      · omega
      · rename_i h1 h2 h3
        exact ⟨by omega, by omega, h2, by omega⟩
    · omega
theorem goodT_of {l : List Md} (h : firstI (l.map (oneI · l.length)) = 0) : goodT l := by
  intro x hx e he
  rw [firstI_zero] at h
  exact (oneI_zero (h _ (List.mem_map.2 ⟨x, hx, rfl⟩))).2.1 e he
theorem one_of {l : List Md} (h : firstI (l.map (oneI · l.length)) = 0) {x : Md} (hx : x ∈ l) : oneI x l.length = 0 := by
  rw [firstI_zero] at h
  exact h _ (List.mem_map.2 ⟨x, hx, rfl⟩)
theorem proc_of {x : Md} {n : Nat} (h : oneI x n = 0) (hk : x.kind = 13) : 1 ≤ x.elems.length := by
  obtain ⟨_, _, h1, _⟩ := shapeI_zero (oneI_zero h).1
  have := h1.1
  unfold least at this
  rw [if_pos (by omega)] at this
  omega
theorem acyc_of {l : List Md} (h : ¬ ∃ r, r < l.length ∧ badM l r) : acyc l := by
  intro r hr
  refine h ⟨r, ?_, .inl hr⟩
  have : ∀ a b, TransGen (stepR l (fun x => !yinB x)) a b → a < l.length := by
    intro a b h
    induction h with
    | single h1 => obtain ⟨x, h1, _⟩ := h1; exact (List.getElem?_eq_some_iff.1 h1).1
    | tail _ _ ih => exact ih
  exact this _ _ hr
theorem okM_false {l : List Md} : (∃ j, j < l.length ∧ ¬ okM l j) ↔ ∃ r, r < l.length ∧ badM l r := by
  constructor
  · rintro ⟨j, hj, h⟩
    by_cases hb : badM l j
    · exact ⟨j, hj, hb⟩
    · have : ¬ ∀ z, TransGen (stepR l (fun _ => true)) j z → ¬ badM l z := fun h1 => h ⟨hb, h1⟩
      simp only [Classical.not_forall, Classical.not_not] at this
      obtain ⟨z, hz, hbz⟩ := this
      refine ⟨z, ?_, hbz⟩
      have : ∀ a b p, TransGen (stepR l p) a b → a < l.length := by
        intro a b p h
        induction h with
        | single h1 => obtain ⟨x, h1, _⟩ := h1; exact (List.getElem?_eq_some_iff.1 h1).1
        | tail _ _ ih => exact ih
      rcases hbz with h2 | h2 <;> exact this _ _ _ h2
  · rintro ⟨r, hr, hb⟩
    exact ⟨r, hr, fun h => h.1 hb⟩
end Go.Proofs.YtheadodblifklaaGreat

namespace Go.Proofs.YtheadodblifklaaGreat
open Go Ax
structure Ord (C : Int → Int → Int) (D : Int → Prop) : Prop where
  anti : ∀ a b, D a → D b → (C a b < 0 ↔ 0 < C b a)
  trans : ∀ a b c, D a → D b → D c → C a b ≤ 0 → C b c ≤ 0 → C a c ≤ 0
theorem Ord.le_of_not {C : Int → Int → Int} {D : Int → Prop} (h : Ord C D) {a b : Int} (ha : D a) (hb : D b) (hc : ¬ C a b < 0) : C b a ≤ 0 := by
  rw [h.anti a b ha hb] at hc; omega
def SortedTo (C : Int → Int → Int) (zs : List Int) (n : Nat) : Prop := ∀ (p q : Nat) a b, p < q → q < n → zs[p]? = some a → zs[q]? = some b → C a b ≤ 0
structure InsInv (C : Int → Int → Int) (zs : List Int) (i j : Nat) : Prop where
  le : j ≤ i
  rest : ∀ (p q : Nat) a b, p < q → q ≤ i → p ≠ j → q ≠ j → zs[p]? = some a → zs[q]? = some b → C a b ≤ 0
  aft : ∀ (q : Nat) a b, j < q → q ≤ i → zs[j]? = some a → zs[q]? = some b → C a b ≤ 0
variable {C : Int → Int → Int} {D : Int → Prop} {zs : List Int} {i j : Nat}
theorem InsInv.start (h : SortedTo C zs i) : InsInv C zs i i :=
  ⟨Nat.le_refl _, fun p q a b h1 h2 _ h4 h5 h6 => h p q a b h1 (by omega) h5 h6, fun q _ _ h1 h2 => by omega⟩
theorem InsInv.stop (hC : Ord C D) (hD : ∀ x ∈ zs, D x) (h : InsInv C zs i j) (hs : j = 0 ∨ ∀ a b, zs[j]? = some a → zs[j - 1]? = some b → ¬ C a b < 0) : SortedTo C zs (i + 1) := by
  intro p q a b h1 h2 h3 h4
  have da := hD a (List.mem_of_getElem? h3)
  have db := hD b (List.mem_of_getElem? h4)
  by_cases hp : p = j
  · subst hp; exact h.aft q a b h1 (by omega) h3 h4
  · by_cases hq : q = j
    · subst hq
      rcases hs with hs | hs
      · omega
      · have hlen := (List.getElem?_eq_some_iff.1 h4).1
        have hc : zs[q - 1]? = some zs[q - 1] := List.getElem?_eq_getElem (by omega)
        have hle := hC.le_of_not db (hD _ (List.mem_of_getElem? hc)) (hs b _ h4 hc)
        by_cases hpq : p = q - 1
        · subst hpq
          rw [h3] at hc; cases hc
          exact hle
        · exact hC.trans _ _ _ da (hD _ (List.mem_of_getElem? hc)) db (h.rest p (q - 1) a _ (by omega) (by omega) hp (by omega) h3 hc) hle
    · exact h.rest p q a b h1 (by omega) hp hq h3 h4
theorem InsInv.swap (h : InsInv C zs i (j + 1)) {x y : Int} (hx : zs[j + 1]? = some x) (hy : zs[j]? = some y) (hc : C x y < 0) : InsInv C ((zs.set (j + 1) y).set j x) i j := by
  have hl := (List.getElem?_eq_some_iff.1 hx).1
  have hget : ∀ (p : Nat), ((zs.set (j + 1) y).set j x)[p]? = if p = j then some x else if p = j + 1 then some y else zs[p]? := by
    intro p
    rw [List.getElem?_set]
    by_cases h1 : j = p
    · subst h1; rw [if_pos rfl, if_pos (by simp; omega), if_pos rfl]
    · rw [if_neg h1, if_neg (fun h => h1 h.symm), List.getElem?_set]
      by_cases h2 : j + 1 = p
      · subst h2; rw [if_pos rfl, if_pos hl, if_pos rfl]
      · rw [if_neg h2, if_neg (fun h => h2 h.symm)]
  have hle := h.le
  refine ⟨by omega, fun p q a b h1 h2 h3 h4 h5 h6 => ?_, fun q a b h1 h2 h3 h4 => ?_⟩
  · rw [hget, if_neg h3] at h5
    rw [hget, if_neg h4] at h6
    by_cases hp : p = j + 1
    · rw [if_pos hp] at h5
      rw [if_neg (by omega)] at h6
      exact h.rest j q a b (by omega) h2 (by omega) (by omega) (by rw [hy]; exact h5) h6
    · rw [if_neg hp] at h5
      by_cases hq : q = j + 1
      · rw [if_pos hq] at h6
        exact h.rest p j a b (by omega) (by omega) (by omega) (by omega) h5 (by rw [hy]; exact h6)
      · rw [if_neg hq] at h6
        exact h.rest p q a b h1 h2 hp hq h5 h6
  · rw [hget, if_pos rfl] at h3
    cases h3
    rw [hget, if_neg (by omega)] at h4
    by_cases hq : q = j + 1
    · rw [if_pos hq] at h4; cases h4; omega
    · rw [if_neg hq] at h4
      exact h.aft q x b (by omega) h2 hx h4
end Go.Proofs.YtheadodblifklaaGreat

namespace Go.Proofs.YtheadodblifklaaGreat
open Go Ax
structure DenseOf (n : Nat) (lt : Nat → Nat → Prop) (ds : List Nat) (k : Nat) : Prop where
  len : ds.length = n
  ord : ∀ (a b : Nat) x y, ds[a]? = some x → ds[b]? = some y → (x < y ↔ lt a b)
  bound : ∀ (a : Nat) x, ds[a]? = some x → x < k
  surj : ∀ v, v < k → ∃ a : Nat, ds[a]? = some v
def kk (C : Int → Int → Int) (ys : List Int) : Nat → Nat
  | 0 => 0
  | j + 1 => kk C ys j + (if C (ys.getD j 0) (ys.getD (j + 1) 0) ≠ 0 then 1 else 0)
theorem kk_mono (C : Int → Int → Int) (ys : List Int) {i j : Nat} (h : i ≤ j) : kk C ys i ≤ kk C ys j := by
  induction j with
  | zero => obtain rfl : i = 0 := by omega
            exact Nat.le_refl _
  | succ j ih =>
    by_cases hij : i = j + 1
    · subst hij; exact Nat.le_refl _
    · have := ih (by omega)
      rw [kk]; omega
theorem kk_surj (C : Int → Int → Int) (ys : List Int) : ∀ (j v : Nat), v ≤ kk C ys j → ∃ i, i ≤ j ∧ kk C ys i = v
  | 0, v, h => ⟨0, Nat.le_refl _, by rw [kk] at h ⊢; omega⟩
  | j + 1, v, h => by
    by_cases hv : v ≤ kk C ys j
    · obtain ⟨i, h1, h2⟩ := kk_surj C ys j v hv
      exact ⟨i, by omega, h2⟩
    · refine ⟨j + 1, Nat.le_refl _, ?_⟩
      have h' := h
      rw [kk] at h' ⊢
      split at h'
      · rename_i hc
        rw [if_pos hc]
        omega
      · omega
theorem kk_lt {C : Int → Int → Int} {D : Int → Prop} (hC : Ord C D) {ys : List Int} (hD : ∀ x ∈ ys, D x) (hs : SortedTo C ys ys.length) : ∀ {i j : Nat} (_ : i < j) (hj : j < ys.length), (kk C ys i < kk C ys j ↔ C (ys[i]'(by omega)) ys[j] < 0) := by
  intro i j
  induction j with
  | zero => intro h _; omega
  | succ j ih =>
    intro hij hj
    have hjl : j < ys.length := by omega
    have d1 : D (ys[j + 1]) := hD _ (List.getElem_mem hj)
    have d2 : D (ys[j]) := hD _ (List.getElem_mem hjl)
    have hle : C ys[j] ys[j + 1] ≤ 0 := hs j (j + 1) _ _ (by omega) hj (List.getElem?_eq_getElem hjl) (List.getElem?_eq_getElem hj)
    have hk : kk C ys (j + 1) = kk C ys j + (if C ys[j] ys[j + 1] ≠ 0 then 1 else 0) := by
      rw [kk]; simp [List.getD, hjl, hj]
    by_cases hji : i = j
    · subst hji
      rw [hk]
      by_cases h0 : C ys[i] ys[i + 1] = 0
      · simp [h0]
      · simp [h0]; omega
    · have hil : i < ys.length := by omega
      have d3 : D (ys[i]) := hD _ (List.getElem_mem hil)
      have hile : C ys[i] ys[j] ≤ 0 := hs i j _ _ (by omega) hjl (List.getElem?_eq_getElem hil) (List.getElem?_eq_getElem hjl)
      have hih := ih (by omega) hjl
      have hmono := kk_mono C ys (i := i) (j := j) (by omega)
      rw [hk]
      have a1 := hC.anti _ _ d3 d2
      have a2 := hC.anti _ _ d2 d1
      have a3 := hC.anti _ _ d3 d1
      constructor
      · intro h
        by_cases h1 : C ys[i] ys[j] < 0
        · -- strictly before j, and j not behind j+1
          have : C ys[i] ys[j + 1] ≤ 0 := hC.trans _ _ _ d3 d2 d1 hile hle
          by_cases h2 : C ys[i] ys[j + 1] = 0
          · exfalso
            have h3 : ¬ 0 < C ys[j + 1] ys[i] := fun h => by have := a3.2 h; omega
            have := hC.trans _ _ _ d2 d1 d3 hle (by omega)
            have := a1.1 h1
            omega
          · omega
        · have hn : ¬ kk C ys i < kk C ys j := fun h => h1 (hih.1 h)
          have h2 : C ys[j] ys[j + 1] ≠ 0 := fun h0 => by simp [h0] at h; omega
          have h3 : C ys[j] ys[j + 1] < 0 := by omega
          by_cases h4 : C ys[i] ys[j + 1] < 0
          · exact h4
          · exfalso
            have h5 := hC.le_of_not d3 d1 h4
            have h6 := hC.trans _ _ _ d1 d3 d2 h5 hile
            have := a2.1 h3
            omega
      · intro h
        by_cases h1 : C ys[i] ys[j] < 0
        · have := hih.2 h1
          omega
        · have h2 := hC.le_of_not d3 d2 h1
          have h3 : C ys[j] ys[j + 1] ≠ 0 := fun h0 => by
            have h4 : ¬ C ys[j] ys[j + 1] < 0 := by omega
            have h5 := hC.le_of_not d2 d1 h4
            have h6 := hC.trans _ _ _ d1 d2 d3 h5 h2
            have := a3.1 h
            omega
          simp [h3]; omega
theorem kk_eq {C : Int → Int → Int} {D : Int → Prop} (hC : Ord C D) {ys : List Int} (hD : ∀ x ∈ ys, D x) (hs : SortedTo C ys ys.length) {i j : Nat} (hi : i < ys.length) (hj : j < ys.length) : (kk C ys i < kk C ys j ↔ C ys[i] ys[j] < 0) := by
  have di := hD _ (List.getElem_mem hi)
  have dj := hD _ (List.getElem_mem hj)
  rcases Nat.lt_trichotomy i j with h | h | h
  · exact kk_lt hC hD hs h hj
  · subst h
    have := hC.anti _ _ di di
    constructor <;> intro h
    · omega
    · have := this.1 h; omega
  · have h1 := kk_mono C ys (Nat.le_of_lt h)
    have h2 : C ys[j] ys[i] ≤ 0 := hs j i _ _ h hi (List.getElem?_eq_getElem hj) (List.getElem?_eq_getElem hi)
    have := (hC.anti _ _ di dj)
    constructor <;> intro h'
    · omega
    · have := this.1 h'; omega
theorem DenseOf.of_kk {C : Int → Int → Int} {n : Nat} (hC : Ord C (fun x => 0 ≤ x ∧ x < n)) {ys : List Int} (hp : ys.Perm ((List.range n).map fun i : Nat => (i : Int))) (hs : SortedTo C ys ys.length) {ds : List Nat} (hl : ds.length = n) (hd : ∀ (j : Nat) (hj : j < ys.length), ds[(ys[j]).toNat]? = some (kk C ys j)) :
    DenseOf n (fun a b => C a b < 0) ds (if n = 0 then 0 else kk C ys (n - 1) + 1) := by
  have hyl : ys.length = n := by rw [hp.length_eq]; simp
  have hD : ∀ x ∈ ys, 0 ≤ x ∧ x < n := fun x hx => by
    have := hp.mem_iff.1 hx
    obtain ⟨i, hi, rfl⟩ := List.mem_map.1 this
    have := List.mem_range.1 hi
    omega
  have hat : ∀ (a : Nat), a < n → ∃ j, ∃ hj : j < ys.length, ys[j] = (a : Int) := fun a ha => by
    have : (a : Int) ∈ ys := hp.mem_iff.2 (List.mem_map.2 ⟨a, List.mem_range.2 ha, rfl⟩)
    obtain ⟨j, hj, h⟩ := List.mem_iff_getElem.1 this
    exact ⟨j, hj, h⟩
  have hget : ∀ (a : Nat) x, ds[a]? = some x → ∃ j, ∃ hj : j < ys.length, ys[j] = (a : Int) ∧ x = kk C ys j := fun a x hx => by
    have ha := (List.getElem?_eq_some_iff.1 hx).1
    obtain ⟨j, hj, h⟩ := hat a (by omega)
    have := hd j hj
    rw [h, Int.toNat_natCast, hx] at this
    exact ⟨j, hj, h, by simpa using this⟩
  refine ⟨hl, fun a b x y hx hy => ?_, fun a x hx => ?_, fun v hv => ?_⟩
  · obtain ⟨i, hi, h1, rfl⟩ := hget a x hx
    obtain ⟨j, hj, h2, rfl⟩ := hget b y hy
    rw [kk_eq hC hD hs hi hj, h1, h2]
  · obtain ⟨i, hi, h1, rfl⟩ := hget a x hx
    have := kk_mono C ys (i := i) (j := n - 1) (by omega)
    rw [if_neg (by omega)]
    omega
  · by_cases hn : n = 0
    · rw [if_pos hn] at hv; omega
    · rw [if_neg hn] at hv
      obtain ⟨i, h1, h2⟩ := kk_surj C ys (n - 1) v (by omega)
      refine ⟨(ys[i]'(by omega)).toNat, ?_⟩
      rw [hd i (by omega), h2]
end Go.Proofs.YtheadodblifklaaGreat

namespace Go.Proofs.YtheadodblifklaaGreat
open Go Ax
set_option maxRecDepth 100000
theorem w147 {args : List AVal} {m : AMem} {R : AVal → AMem → Prop} (h : W Tryz.prog (.seq (.reg [⟨some 4,.P (.mov (.c (.bool false))),none⟩]) (.kill [0,1] (.seq (.reg [⟨some 5,.P (.mov (.t 1)),none⟩,⟨some 6,.P (.bin .geq (.t 5) (.c (.int .i64 0))),none⟩,⟨some 7,.P (.mov (.t 6)),none⟩,⟨some 8,.P (.mov (.t 1)),(some (7, true))⟩,⟨some 9,.P (.mov (.t 0)),(some (7, true))⟩,⟨some 10,.P (.len (.t 9)),(some (7, true))⟩,⟨some 11,.P (.bin .lss (.t 8) (.t 10)),(some (7, true))⟩,⟨some 12,.P (.pick (.t 7) (.t 11) (.c (.bool false))),none⟩,⟨some 4,.P (.mov (.t 12)),none⟩]) .ret))) (E [(.tmp 4)] R .mk) .mk (mat 13 (sArgs 0 args)) m) (hl : Nat.ble args.length 13 = true := by rfl) : ACalls Tryz.prog 147 args m R := walk mix (by kernel_rfl) (Nat.le_of_ble_eq_true hl) h
theorem w148 {args : List AVal} {m : AMem} {R : AVal → AMem → Prop} (h : W Tryz.prog (.seq (.reg [⟨some 10,.P (.mov (.t 1)),none⟩,⟨some 11,.P (.bin .add (.t 10) (.c (.int .i64 1))),none⟩,⟨some 8,.P (.mov (.t 11)),none⟩]) (.kill [0,1,2,3,8] (.block 0 (.kill [0,1,2,3,8] (.loop (.fin [0,1,2,3,8] (.seq (.seq (.reg [⟨some 12,.P (.mov (.t 8)),none⟩,⟨some 13,.P (.mov (.t 2)),none⟩,⟨some 14,.P (.bin .lss (.t 12) (.t 13)),none⟩]) (.kill [0,1,2,3,8,14] (.cond (.t 14) .skip (.exit 0)))) (.kill [0,1,2,3,8] (.seq (.block 1 (.seq (.reg [⟨some 17,.P (.mov (.t 8)),none⟩,⟨some 9,.P (.mov (.t 17)),none⟩]) (.kill [0,1,2,3,8,9] (.block 2 (.kill [0,1,2,3,8,9] (.loop (.fin [0,1,2,3,8,9] (.seq (.seq (.draw true [⟨some 18,.P (.mov (.t 9)),none⟩,⟨some 19,.P (.mov (.t 1)),none⟩,⟨some 20,.P (.bin .gtr (.t 18) (.t 19)),none⟩,⟨some 21,.P (.mov (.t 20)),none⟩,⟨some 22,.P (.mov (.t 3)),(some (21, true))⟩,⟨some 23,.P (.mov (.t 0)),(some (21, true))⟩,⟨some 24,.P (.mov (.t 9)),(some (21, true))⟩,⟨some 25,.P (.iaddr 1 (.t 23) (.t 24)),(some (21, true))⟩,⟨some 26,.R (.load 1 false (.t 25)),(some (21, true))⟩,⟨some 27,.P (.mov (.t 0)),(some (21, true))⟩,⟨some 28,.P (.mov (.t 9)),(some (21, true))⟩,⟨some 29,.P (.bin .sub (.t 28) (.c (.int .i64 1))),(some (21, true))⟩,⟨some 30,.P (.iaddr 1 (.t 27) (.t 29)),(some (21, true))⟩,⟨some 31,.R (.load 1 false (.t 30)),(some (21, true))⟩,⟨some 32,.C (.t 22) [(.t 26),(.t 31)], (some (21, true))⟩,⟨some 33,.P (.bin .lss (.t 32) (.c (.int .i64 0))),(some (21, true))⟩,⟨some 34,.P (.pick (.t 21) (.t 33) (.c (.bool false))),none⟩] [[],[],[],[],[],[],[],[],[],[],[],[],[],[],[],[14], [14]] [[],[],[],[],[],[],[],[],[],[],[],[],[],[],[],[],[]] [0,1,2,3,4,5,6,7,8,9,10,11,12,13,14,15,16]) (.kill [0,1,2,3,8,9,34] (.cond (.t 34) .skip (.exit 2)))) (.kill [0,1,2,3,8,9] (.seq (.block 3 (.draw true [⟨some 37,.P (.mov (.t 0)),none⟩,⟨some 38,.P (.mov (.t 9)),none⟩,⟨some 39,.P (.mov (.t 0)),none⟩,⟨some 40,.P (.mov (.t 9)),none⟩,⟨some 41,.P (.bin .sub (.t 40) (.c (.int .i64 1))),none⟩,⟨some 42,.P (.mov (.t 0)),none⟩,⟨some 43,.P (.mov (.t 9)),none⟩,⟨some 44,.P (.bin .sub (.t 43) (.c (.int .i64 1))),none⟩,⟨some 45,.P (.iaddr 1 (.t 42) (.t 44)),none⟩,⟨some 46,.R (.load 1 false (.t 45)),none⟩,⟨some 47,.P (.mov (.t 0)),none⟩,⟨some 48,.P (.mov (.t 9)),none⟩,⟨some 49,.P (.iaddr 1 (.t 47) (.t 48)),none⟩,⟨some 50,.R (.load 1 false (.t 49)),none⟩,⟨some 51,.P (.iaddr 1 (.t 37) (.t 38)),none⟩,⟨none,.W (.store 1 (.t 51) (.t 46)),none⟩,⟨some 52,.P (.iaddr 1 (.t 39) (.t 41)),none⟩,⟨none,.W (.store 1 (.t 52) (.t 50)),none⟩] [[],[],[],[],[],[],[],[],[],[],[],[],[],[],[],[],[],[]] [[],[],[],[],[],[],[],[],[],[],[],[],[],[],[],[],[],[]] [0,1,2,3,4,5,6,7,8,9,10,11,12,13,14,15,16,17])) (.kill [0,1,2,3,8,9] (.reg [⟨some 35,.P (.mov (.t 9)),none⟩,⟨some 36,.P (.bin .sub (.t 35) (.c (.int .i64 1))),none⟩,⟨some 9,.P (.mov (.t 36)),none⟩])))))))))))) (.kill [0,1,2,3,8] (.reg [⟨some 15,.P (.mov (.t 8)),none⟩,⟨some 16,.P (.bin .add (.t 15) (.c (.int .i64 1))),none⟩,⟨some 8,.P (.mov (.t 16)),none⟩]))))))))))) (E [] R .mk) .mk (mat 53 (sArgs 0 args)) m) (hl : Nat.ble args.length 53 = true := by rfl) : ACalls Tryz.prog 148 args m R := walk mix (by kernel_rfl) (Nat.le_of_ble_eq_true hl) h
abbrev h148_0 (t0 t1 t2 t3 t8 : AVal) : AFrame := mat 53 [(0, t0),(1, t1),(2, t2),(3, t3),(8, t8)]
abbrev h148_1 (t0 t1 t2 t3 t8 t9 : AVal) : AFrame := mat 53 [(0, t0),(1, t1),(2, t2),(3, t3),(8, t8),(9, t9)]
theorem w151 {args : List AVal} {m : AMem} {R : AVal → AMem → Prop} (h : W Tryz.prog (.seq (.reg [⟨some 8,.P (.mov (.c (.int .i64 0))),none⟩,⟨some 9,.P (.mov (.c (.int .i64 0))),none⟩]) (.kill [0,1,2,3] (.seq (.reg [⟨some 15,.P (.mov (.t 2)),none⟩,⟨some 16,.P (.mov (.t 1)),none⟩,⟨some 17,.P (.bin .sub (.t 15) (.t 16)),none⟩,⟨some 10,.P (.mov (.t 17)),none⟩]) (.kill [0,1,3,10] (.seq (.reg [⟨some 11,.A (.alloc 3 [(.int .i64 0)]),none⟩]) (.seq (.reg [⟨some 18,.P (.mov (.t 1)),none⟩,⟨some 19,.P (.mov (.t 10)),none⟩,⟨some 20,.P (.bin .quo (.t 19) (.c (.int .i64 4))),none⟩,⟨some 21,.P (.bin .mul (.t 20) (.c (.int .i64 1))),none⟩,⟨some 22,.P (.bin .add (.t 18) (.t 21)),none⟩,⟨some 12,.P (.mov (.t 22)),none⟩]) (.kill [0,1,3,10,11,12] (.seq (.reg [⟨some 23,.P (.mov (.t 1)),none⟩,⟨some 24,.P (.mov (.t 10)),none⟩,⟨some 25,.P (.bin .quo (.t 24) (.c (.int .i64 4))),none⟩,⟨some 26,.P (.bin .mul (.t 25) (.c (.int .i64 2))),none⟩,⟨some 27,.P (.bin .add (.t 23) (.t 26)),none⟩,⟨some 13,.P (.mov (.t 27)),none⟩]) (.kill [0,1,3,10,11,12,13] (.seq (.reg [⟨some 28,.P (.mov (.t 1)),none⟩,⟨some 29,.P (.mov (.t 10)),none⟩,⟨some 30,.P (.bin .quo (.t 29) (.c (.int .i64 4))),none⟩,⟨some 31,.P (.bin .mul (.t 30) (.c (.int .i64 3))),none⟩,⟨some 32,.P (.bin .add (.t 28) (.t 31)),none⟩,⟨some 14,.P (.mov (.t 32)),none⟩]) (.kill [0,3,10,11,12,13,14] (.seq (.seq (.reg [⟨some 33,.P (.mov (.t 10)),none⟩,⟨some 34,.P (.bin .geq (.t 33) (.c (.int .i64 8))),none⟩]) (.kill [0,3,10,11,12,13,14,34] (.cond (.t 34) (.seq (.seq (.reg [⟨some 35,.P (.mov (.t 10)),none⟩,⟨some 36,.P (.bin .geq (.t 35) (.c (.int .i64 50))),none⟩]) (.kill [0,3,11,12,13,14,36] (.cond (.t 36) (.seq (.reg [⟨some 37,.P (.mov (.t 0)),none⟩,⟨some 38,.P (.mov (.t 12)),none⟩,⟨some 39,.P (.mov (.t 3)),none⟩,⟨some 40,.C (.c (.func (.func 178) [] [])) [(.t 37),(.t 38),(.t 11),(.t 39)],none⟩,⟨some 12,.P (.mov (.t 40)),none⟩]) (.kill [0,3,11,12,13,14] (.seq (.reg [⟨some 41,.P (.mov (.t 0)),none⟩,⟨some 42,.P (.mov (.t 13)),none⟩,⟨some 43,.P (.mov (.t 3)),none⟩,⟨some 44,.C (.c (.func (.func 178) [] [])) [(.t 41),(.t 42),(.t 11),(.t 43)],none⟩,⟨some 13,.P (.mov (.t 44)),none⟩]) (.kill [0,3,11,12,13,14] (.reg [⟨some 45,.P (.mov (.t 0)),none⟩,⟨some 46,.P (.mov (.t 14)),none⟩,⟨some 47,.P (.mov (.t 3)),none⟩,⟨some 48,.C (.c (.func (.func 178) [] [])) [(.t 45),(.t 46),(.t 11),(.t 47)],none⟩,⟨some 14,.P (.mov (.t 48)),none⟩]))))) .skip))) (.kill [0,3,11,12,13,14] (.reg [⟨some 49,.P (.mov (.t 0)),none⟩,⟨some 50,.P (.mov (.t 12)),none⟩,⟨some 51,.P (.mov (.t 13)),none⟩,⟨some 52,.P (.mov (.t 14)),none⟩,⟨some 53,.P (.mov (.t 3)),none⟩,⟨some 54,.C (.c (.func (.func 179) [] [])) [(.t 49),(.t 50),(.t 51),(.t 52),(.t 11),(.t 53)],none⟩,⟨some 13,.P (.mov (.t 54)),none⟩]))) .skip))) (.kill [11,13] (.seq (.reg [⟨some 55,.R (.load 1 false (.t 11)),none⟩]) (.kill [13,55] (.block 0 (.seq (.reg [⟨some 58,.P (.bin .eql (.t 55) (.c (.int .i64 0))),none⟩,⟨some 57,.P (.mov (.t 58)),none⟩]) (.kill [13,55,57] (.cond (.t 57) (.seq (.reg [⟨some 59,.P (.mov (.t 13)),none⟩,⟨some 8,.P (.mov (.t 59)),none⟩,⟨some 9,.P (.mov (.c (.int .i64 1))),none⟩]) .ret) (.seq (.reg [⟨some 61,.P (.bin .eql (.t 55) (.c (.int .i64 12))),none⟩,⟨some 60,.P (.mov (.t 61)),none⟩]) (.kill [13,60] (.cond (.t 60) (.seq (.reg [⟨some 62,.P (.mov (.t 13)),none⟩,⟨some 8,.P (.mov (.t 62)),none⟩,⟨some 9,.P (.mov (.c (.int .i64 2))),none⟩]) .ret) (.seq (.reg [⟨some 56,.P (.mov (.t 13)),none⟩,⟨some 8,.P (.mov (.t 56)),none⟩,⟨some 9,.P (.mov (.c (.int .i64 0))),none⟩]) .ret))))))))))))))))))))))) (E [(.tmp 8),(.tmp 9)] R .mk) .mk (mat 63 (sArgs 0 args)) m) (hl : Nat.ble args.length 63 = true := by rfl) : ACalls Tryz.prog 151 args m R := walk mix (by kernel_rfl) (Nat.le_of_ble_eq_true hl) h
theorem w153 {args : List AVal} {m : AMem} {R : AVal → AMem → Prop} (h : W Tryz.prog (.seq (.reg [⟨some 8,.P (.mov (.c (.bool false))),none⟩]) (.kill [0,1,2,3] (.seq (.reg [⟨some 13,.P (.mov (.t 1)),none⟩,⟨some 14,.P (.bin .add (.t 13) (.c (.int .i64 1))),none⟩,⟨some 9,.P (.mov (.t 14)),none⟩]) (.kill [0,1,2,3,9] (.seq (.seq (.reg [⟨some 10,.P (.mov (.c (.int .i64 0))),none⟩]) (.block 0 (.kill [0,1,2,3,9,10] (.loop (.fin [0,1,2,3,9,10] (.seq (.seq (.reg [⟨some 15,.P (.mov (.t 10)),none⟩,⟨some 16,.P (.bin .lss (.t 15) (.c (.int .i64 5))),none⟩]) (.kill [0,1,2,3,9,10,16] (.cond (.t 16) .skip (.exit 0)))) (.kill [0,1,2,3,9,10] (.seq (.block 1 (.seq (.block 2 (.kill [0,1,2,3,9,10] (.loop (.fin [0,1,2,3,9,10] (.seq (.seq (.draw true [⟨some 19,.P (.mov (.t 9)),none⟩,⟨some 20,.P (.mov (.t 2)),none⟩,⟨some 21,.P (.bin .lss (.t 19) (.t 20)),none⟩,⟨some 22,.P (.mov (.t 21)),none⟩,⟨some 23,.P (.mov (.t 3)),(some (22, true))⟩,⟨some 24,.P (.mov (.t 0)),(some (22, true))⟩,⟨some 25,.P (.mov (.t 9)),(some (22, true))⟩,⟨some 26,.P (.iaddr 1 (.t 24) (.t 25)),(some (22, true))⟩,⟨some 27,.R (.load 1 false (.t 26)),(some (22, true))⟩,⟨some 28,.P (.mov (.t 0)),(some (22, true))⟩,⟨some 29,.P (.mov (.t 9)),(some (22, true))⟩,⟨some 30,.P (.bin .sub (.t 29) (.c (.int .i64 1))),(some (22, true))⟩,⟨some 31,.P (.iaddr 1 (.t 28) (.t 30)),(some (22, true))⟩,⟨some 32,.R (.load 1 false (.t 31)),(some (22, true))⟩,⟨some 33,.C (.t 23) [(.t 27),(.t 32)], (some (22, true))⟩,⟨some 34,.P (.bin .lss (.t 33) (.c (.int .i64 0))),(some (22, true))⟩,⟨some 35,.P (.un .not (.t 34)),(some (22, true))⟩,⟨some 36,.P (.pick (.t 22) (.t 35) (.c (.bool false))),none⟩] [[],[],[],[],[],[],[],[],[],[],[],[],[],[],[],[14], [14], [14]] [[],[],[],[],[],[],[],[],[],[],[],[],[],[],[],[],[],[]] [0,1,2,3,4,5,6,7,8,9,10,11,12,13,14,15,16,17]) (.kill [0,1,2,3,9,10,36] (.cond (.t 36) .skip (.exit 2)))) (.kill [0,1,2,3,9,10] (.block 3 (.reg [⟨some 37,.P (.mov (.t 9)),none⟩,⟨some 38,.P (.bin .add (.t 37) (.c (.int .i64 1))),none⟩,⟨some 9,.P (.mov (.t 38)),none⟩])))))))) (.kill [0,1,2,3,9,10] (.seq (.seq (.reg [⟨some 39,.P (.mov (.t 9)),none⟩,⟨some 40,.P (.mov (.t 2)),none⟩,⟨some 41,.P (.bin .eql (.t 39) (.t 40)),none⟩]) (.kill [0,1,2,3,9,10,41] (.cond (.t 41) (.seq (.reg [⟨some 8,.P (.mov (.c (.bool true))),none⟩]) .ret) .skip))) (.kill [0,1,2,3,9,10] (.seq (.seq (.reg [⟨some 42,.P (.mov (.t 2)),none⟩,⟨some 43,.P (.mov (.t 1)),none⟩,⟨some 44,.P (.bin .sub (.t 42) (.t 43)),none⟩,⟨some 45,.P (.bin .lss (.t 44) (.c (.int .i64 50))),none⟩]) (.kill [0,1,2,3,9,10,45] (.cond (.t 45) (.seq (.reg [⟨some 8,.P (.mov (.c (.bool false))),none⟩]) .ret) .skip))) (.kill [0,1,2,3,9,10] (.seq (.draw true [⟨some 46,.P (.mov (.t 0)),none⟩,⟨some 47,.P (.mov (.t 9)),none⟩,⟨some 48,.P (.mov (.t 0)),none⟩,⟨some 49,.P (.mov (.t 9)),none⟩,⟨some 50,.P (.bin .sub (.t 49) (.c (.int .i64 1))),none⟩,⟨some 51,.P (.mov (.t 0)),none⟩,⟨some 52,.P (.mov (.t 9)),none⟩,⟨some 53,.P (.bin .sub (.t 52) (.c (.int .i64 1))),none⟩,⟨some 54,.P (.iaddr 1 (.t 51) (.t 53)),none⟩,⟨some 55,.R (.load 1 false (.t 54)),none⟩,⟨some 56,.P (.mov (.t 0)),none⟩,⟨some 57,.P (.mov (.t 9)),none⟩,⟨some 58,.P (.iaddr 1 (.t 56) (.t 57)),none⟩,⟨some 59,.R (.load 1 false (.t 58)),none⟩,⟨some 60,.P (.iaddr 1 (.t 46) (.t 47)),none⟩,⟨none,.W (.store 1 (.t 60) (.t 55)),none⟩,⟨some 61,.P (.iaddr 1 (.t 48) (.t 50)),none⟩,⟨none,.W (.store 1 (.t 61) (.t 59)),none⟩] [[],[],[],[],[],[],[],[],[],[],[],[],[],[],[],[],[],[]] [[],[],[],[],[],[],[],[],[],[],[],[],[],[],[],[],[],[]] [0,1,2,3,4,5,6,7,8,9,10,11,12,13,14,15,16,17]) (.kill [0,1,2,3,9,10] (.seq (.seq (.reg [⟨some 62,.P (.mov (.t 9)),none⟩,⟨some 63,.P (.mov (.t 1)),none⟩,⟨some 64,.P (.bin .sub (.t 62) (.t 63)),none⟩,⟨some 65,.P (.bin .geq (.t 64) (.c (.int .i64 2))),none⟩]) (.kill [0,1,2,3,9,10,65] (.cond (.t 65) (.seq (.reg [⟨some 66,.P (.mov (.t 9)),none⟩,⟨some 67,.P (.bin .sub (.t 66) (.c (.int .i64 1))),none⟩,⟨some 11,.P (.mov (.t 67)),none⟩]) (.kill [0,1,2,3,9,10,11] (.block 4 (.kill [0,1,2,3,9,10,11] (.loop (.fin [0,1,2,3,9,10,11] (.seq (.seq (.reg [⟨some 68,.P (.mov (.t 11)),none⟩,⟨some 69,.P (.bin .geq (.t 68) (.c (.int .i64 1))),none⟩]) (.kill [0,1,2,3,9,10,11,69] (.cond (.t 69) .skip (.exit 4)))) (.kill [0,1,2,3,9,10,11] (.seq (.block 5 (.seq (.seq (.draw true [⟨some 72,.P (.mov (.t 3)),none⟩,⟨some 73,.P (.mov (.t 0)),none⟩,⟨some 74,.P (.mov (.t 11)),none⟩,⟨some 75,.P (.iaddr 1 (.t 73) (.t 74)),none⟩,⟨some 76,.R (.load 1 false (.t 75)),none⟩,⟨some 77,.P (.mov (.t 0)),none⟩,⟨some 78,.P (.mov (.t 11)),none⟩,⟨some 79,.P (.bin .sub (.t 78) (.c (.int .i64 1))),none⟩,⟨some 80,.P (.iaddr 1 (.t 77) (.t 79)),none⟩,⟨some 81,.R (.load 1 false (.t 80)),none⟩,⟨some 82,.C (.t 72) [(.t 76),(.t 81)],none⟩,⟨some 83,.P (.bin .lss (.t 82) (.c (.int .i64 0))),none⟩,⟨some 84,.P (.un .not (.t 83)),none⟩] [[],[],[],[],[],[],[],[],[],[],[],[10], [10]] [[],[],[],[],[],[],[],[],[],[],[],[],[]] [0,1,2,3,4,5,6,7,8,9,10,11,12]) (.kill [0,1,2,3,9,10,11,84] (.cond (.t 84) (.exit 4) .skip))) (.kill [0,1,2,3,9,10,11] (.draw true [⟨some 85,.P (.mov (.t 0)),none⟩,⟨some 86,.P (.mov (.t 11)),none⟩,⟨some 87,.P (.mov (.t 0)),none⟩,⟨some 88,.P (.mov (.t 11)),none⟩,⟨some 89,.P (.bin .sub (.t 88) (.c (.int .i64 1))),none⟩,⟨some 90,.P (.mov (.t 0)),none⟩,⟨some 91,.P (.mov (.t 11)),none⟩,⟨some 92,.P (.bin .sub (.t 91) (.c (.int .i64 1))),none⟩,⟨some 93,.P (.iaddr 1 (.t 90) (.t 92)),none⟩,⟨some 94,.R (.load 1 false (.t 93)),none⟩,⟨some 95,.P (.mov (.t 0)),none⟩,⟨some 96,.P (.mov (.t 11)),none⟩,⟨some 97,.P (.iaddr 1 (.t 95) (.t 96)),none⟩,⟨some 98,.R (.load 1 false (.t 97)),none⟩,⟨some 99,.P (.iaddr 1 (.t 85) (.t 86)),none⟩,⟨none,.W (.store 1 (.t 99) (.t 94)),none⟩,⟨some 100,.P (.iaddr 1 (.t 87) (.t 89)),none⟩,⟨none,.W (.store 1 (.t 100) (.t 98)),none⟩] [[],[],[],[],[],[],[],[],[],[],[],[],[],[],[],[],[],[]] [[],[],[],[],[],[],[],[],[],[],[],[],[],[],[],[],[],[]] [0,1,2,3,4,5,6,7,8,9,10,11,12,13,14,15,16,17])))) (.kill [0,1,2,3,9,10,11] (.reg [⟨some 70,.P (.mov (.t 11)),none⟩,⟨some 71,.P (.bin .sub (.t 70) (.c (.int .i64 1))),none⟩,⟨some 11,.P (.mov (.t 71)),none⟩]))))))))))) .skip))) (.kill [0,1,2,3,9,10] (.seq (.reg [⟨some 101,.P (.mov (.t 2)),none⟩,⟨some 102,.P (.mov (.t 9)),none⟩,⟨some 103,.P (.bin .sub (.t 101) (.t 102)),none⟩,⟨some 104,.P (.bin .geq (.t 103) (.c (.int .i64 2))),none⟩]) (.kill [0,1,2,3,9,10,104] (.cond (.t 104) (.seq (.reg [⟨some 105,.P (.mov (.t 9)),none⟩,⟨some 106,.P (.bin .add (.t 105) (.c (.int .i64 1))),none⟩,⟨some 12,.P (.mov (.t 106)),none⟩]) (.kill [0,1,2,3,9,10,12] (.block 6 (.kill [0,1,2,3,9,10,12] (.loop (.fin [0,1,2,3,9,10,12] (.seq (.seq (.reg [⟨some 107,.P (.mov (.t 12)),none⟩,⟨some 108,.P (.mov (.t 2)),none⟩,⟨some 109,.P (.bin .lss (.t 107) (.t 108)),none⟩]) (.kill [0,1,2,3,9,10,12,109] (.cond (.t 109) .skip (.exit 6)))) (.kill [0,1,2,3,9,10,12] (.seq (.block 7 (.seq (.seq (.draw true [⟨some 112,.P (.mov (.t 3)),none⟩,⟨some 113,.P (.mov (.t 0)),none⟩,⟨some 114,.P (.mov (.t 12)),none⟩,⟨some 115,.P (.iaddr 1 (.t 113) (.t 114)),none⟩,⟨some 116,.R (.load 1 false (.t 115)),none⟩,⟨some 117,.P (.mov (.t 0)),none⟩,⟨some 118,.P (.mov (.t 12)),none⟩,⟨some 119,.P (.bin .sub (.t 118) (.c (.int .i64 1))),none⟩,⟨some 120,.P (.iaddr 1 (.t 117) (.t 119)),none⟩,⟨some 121,.R (.load 1 false (.t 120)),none⟩,⟨some 122,.C (.t 112) [(.t 116),(.t 121)],none⟩,⟨some 123,.P (.bin .lss (.t 122) (.c (.int .i64 0))),none⟩,⟨some 124,.P (.un .not (.t 123)),none⟩] [[],[],[],[],[],[],[],[],[],[],[],[10], [10]] [[],[],[],[],[],[],[],[],[],[],[],[],[]] [0,1,2,3,4,5,6,7,8,9,10,11,12]) (.kill [0,1,2,3,9,10,12,124] (.cond (.t 124) (.exit 6) .skip))) (.kill [0,1,2,3,9,10,12] (.draw true [⟨some 125,.P (.mov (.t 0)),none⟩,⟨some 126,.P (.mov (.t 12)),none⟩,⟨some 127,.P (.mov (.t 0)),none⟩,⟨some 128,.P (.mov (.t 12)),none⟩,⟨some 129,.P (.bin .sub (.t 128) (.c (.int .i64 1))),none⟩,⟨some 130,.P (.mov (.t 0)),none⟩,⟨some 131,.P (.mov (.t 12)),none⟩,⟨some 132,.P (.bin .sub (.t 131) (.c (.int .i64 1))),none⟩,⟨some 133,.P (.iaddr 1 (.t 130) (.t 132)),none⟩,⟨some 134,.R (.load 1 false (.t 133)),none⟩,⟨some 135,.P (.mov (.t 0)),none⟩,⟨some 136,.P (.mov (.t 12)),none⟩,⟨some 137,.P (.iaddr 1 (.t 135) (.t 136)),none⟩,⟨some 138,.R (.load 1 false (.t 137)),none⟩,⟨some 139,.P (.iaddr 1 (.t 125) (.t 126)),none⟩,⟨none,.W (.store 1 (.t 139) (.t 134)),none⟩,⟨some 140,.P (.iaddr 1 (.t 127) (.t 129)),none⟩,⟨none,.W (.store 1 (.t 140) (.t 138)),none⟩] [[],[],[],[],[],[],[],[],[],[],[],[],[],[],[],[],[],[]] [[],[],[],[],[],[],[],[],[],[],[],[],[],[],[],[],[],[]] [0,1,2,3,4,5,6,7,8,9,10,11,12,13,14,15,16,17])))) (.kill [0,1,2,3,9,10,12] (.reg [⟨some 110,.P (.mov (.t 12)),none⟩,⟨some 111,.P (.bin .add (.t 110) (.c (.int .i64 1))),none⟩,⟨some 12,.P (.mov (.t 111)),none⟩]))))))))))) .skip)))))))))))))) (.kill [0,1,2,3,9,10] (.reg [⟨some 17,.P (.mov (.t 10)),none⟩,⟨some 18,.P (.bin .add (.t 17) (.c (.int .i64 1))),none⟩,⟨some 10,.P (.mov (.t 18)),none⟩])))))))))) (.kill [] (.seq (.reg [⟨some 8,.P (.mov (.c (.bool false))),none⟩]) .ret))))))) (E [(.tmp 8)] R .mk) .mk (mat 141 (sArgs 0 args)) m) (hl : Nat.ble args.length 141 = true := by rfl) : ACalls Tryz.prog 153 args m R := walk mix (by kernel_rfl) (Nat.le_of_ble_eq_true hl) h
abbrev h153_0 (t0 t1 t2 t3 t9 t10 : AVal) : AFrame := mat 141 [(0, t0),(1, t1),(2, t2),(3, t3),(9, t9),(10, t10)]
abbrev h153_1 (t0 t1 t2 t3 t9 t10 : AVal) : AFrame := mat 141 [(0, t0),(1, t1),(2, t2),(3, t3),(9, t9),(10, t10)]
abbrev h153_2 (t0 t1 t2 t3 t9 t10 t11 : AVal) : AFrame := mat 141 [(0, t0),(1, t1),(2, t2),(3, t3),(9, t9),(10, t10),(11, t11)]
abbrev h153_3 (t0 t1 t2 t3 t9 t10 t12 : AVal) : AFrame := mat 141 [(0, t0),(1, t1),(2, t2),(3, t3),(9, t9),(10, t10),(12, t12)]
end Go.Proofs.YtheadodblifklaaGreat
namespace Go.Proofs.YtheadodblifklaaGreat
open Go Ax
set_option maxRecDepth 100000
def CmpOk (m0 : AMem) (g : FuncId) (fs cs : List AVal) (D : Int → Prop) (C : Int → Int → Int) : Prop :=
  ∀ a b, D a → D b → ∀ m', m0 <+: m' → ACalls Tryz.prog g (fs ++ [.int .i64 a, .int .i64 b] ++ cs) m' fun v m'' => v = .int .i64 (C a b) ∧ m' <+: m''
set_option maxHeartbeats 4000000 in
theorem k148 (t : AVal) (ty : TypeId) (lo : Nat) (m0 : AMem) (hlo : m0.length ≤ lo) (g : FuncId) (fs cs : List AVal) (C : Int → Int → Int) (D : Int → Prop) (hC : Ord C D) (hcmp : CmpOk m0 g fs cs D C) (xs : List Int) (hD : ∀ x ∈ xs, D x) (hn : xs.length < 2 ^ 62) (m : AMem) (hm : m0 <+: m) (hX : OwL (AVal.int .i64) lo m ty t xs) :
    ACalls Tryz.prog 148 [t, .int .i64 0, .int .i64 xs.length, .func (.func g) fs cs] m fun _ m' => m0 <+: m' ∧ Ch (fun b => t.blk = some b) m m' ∧ ∃ ys, OwL (AVal.int .i64) lo m' ty t ys ∧ ys.Perm xs ∧ SortedTo C ys ys.length := by
  refine w148 ?_
  simp
  rw [wrap64 (x := 1) (by omega) (by omega)]
  obtain ⟨I, hI⟩ : ∃ I : Nat → AFrame → AMem → Prop, ∀ q a m', I q a m' ↔ (∃ (i : Nat) (ys : List Int), i + q = xs.length + 1 ∧ 1 ≤ i ∧ a = h148_0 t (.int .i64 0) (.int .i64 xs.length) (.func (.func g) fs cs) (.int .i64 i) ∧ m0 <+: m' ∧ Ch (fun b => t.blk = some b) m m' ∧ OwL (AVal.int .i64) lo m' ty t ys ∧ ys.Perm xs ∧ SortedTo C ys i) := ⟨_, fun _ _ _ => Iff.rfl⟩
  refine W_loop I xs.length ((hI _ _ _).2 ⟨1, xs, by omega, by omega, rfl, hm, .refl _ _, hX, .refl _, fun p q a b h1 h2 => by omega⟩) ?_
  clear hX hm
  rintro q a m1 hIn
  obtain ⟨i, ys, hk, hi1, rfl, hm1, hch1, hY, hperm, hsort⟩ := (hI _ _ _).1 hIn
  clear hIn
  have hyl := hperm.length_eq
  simp
  refine bbind_dec (fun hil => ?_) fun hil => ?_
  · have hw := step64 hil hn
    obtain ⟨q, rfl⟩ : ∃ q', q = q' + 1 := ⟨q - 1, by omega⟩
    simp
    obtain ⟨I2, hI2⟩ : ∃ I : Nat → AFrame → AMem → Prop, ∀ q a m', I q a m' ↔ (∃ (ys : List Int), a = h148_1 t (.int .i64 0) (.int .i64 xs.length) (.func (.func g) fs cs) (.int .i64 i) (.int .i64 q) ∧ m0 <+: m' ∧ Ch (fun b => t.blk = some b) m m' ∧ OwL (AVal.int .i64) lo m' ty t ys ∧ ys.Perm xs ∧ InsInv C ys i q) := ⟨_, fun _ _ _ => Iff.rfl⟩
    refine W_loop I2 i ((hI2 _ _ _).2 ⟨ys, rfl, hm1, hch1, hY, hperm, .start hsort⟩) ?_
    clear hm1 hch1 hY hperm hsort hyl
    rintro j a m2 hIn
    obtain ⟨ys, rfl, hm2, hch2, hY, hperm, hins⟩ := (hI2 _ _ _).1 hIn
    clear hIn
    have hyl := hperm.length_eq
    have hDy : ∀ x ∈ ys, D x := fun x hx => hD x (hperm.mem_iff.1 hx)
    have hji := hins.le
    simp
    have done : ∀ m3, m2 <+: m3 → (j = 0 ∨ ∀ a b, ys[j]? = some a → ys[j - 1]? = some b → ¬ C a b < 0) → I q (h148_0 t (.int .i64 0) (.int .i64 xs.length) (.func (.func g) fs cs) (.int .i64 (i + 1 : Nat))) m3 := fun m3 hm3 hs => (hI _ _ _).2 ⟨i + 1, ys, by omega, by omega, rfl, hm2.trans hm3, hch2.trans (.of_prefix hm3), hY.mono hm3, hperm, hins.stop hC hDy hs⟩
    refine W_draw (fun _ _ _ => True) (by simp [maxDst]) ?_
    refine D_pre 0 14 [14, 15, 16] (by simp only [List.drop_zero, List.drop_succ_cons, List.take_succ_cons, List.take_zero]; rfl) rfl rfl (fun _ _ => trivial) ?_
    by_cases hj : 0 < j
    · have hj' : (0 : Int) < j := by omega
      obtain ⟨j, rfl⟩ : ∃ j', j = j' + 1 := ⟨j - 1, by omega⟩
      simp only [Nat.add_sub_cancel] at done
      have hj1 : j + 1 < ys.length := by omega
      have hj0 : j < ys.length := by omega
      obtain ⟨b1, o1, hb1, hp1, hl1, _⟩ := hY.at hj1
      obtain ⟨b0, o0, hb0, hp0, hl0, _⟩ := hY.at hj0
      have hx : ys[j + 1]? = some ys[j + 1] := List.getElem?_eq_getElem hj1
      have hy : ys[j]? = some ys[j] := List.getElem?_eq_getElem hj0
      have hDx := hDy _ (List.getElem_mem hj1)
      have hDy' := hDy _ (List.getElem_mem hj0)
      have hswapP := List.set_set_perm hj1 hj0
      generalize hxx : ys[j + 1] = x at *
      generalize hyy : ys[j] = y at *
      simp only [Int.natCast_add, Int.cast_ofNat_Int] at hp1 hj' ⊢
      have hpj : IntKind.i64.wrap (j : Int) = j := wrap64 (by omega) (by omega)
      simp [hj', hp1, hl1, hpj, hp0, hl0]
      intro fs' hfs'
      refine D_Xg rfl rfl (b := true) (by simp) (fun _ m5 hm5 _ => ?_) (fun h => absurd rfl h)
      simp
      have hcall := hcmp x y hDx hDy' m5 (hm2.trans hm5)
      simp at hcall
      refine C_of hcall ?_
      rintro _ m6 ⟨rfl, hm6⟩
      refine ⟨by simp [lateOf], ?_⟩
      refine D_pre 15 2 [] (by simp only [List.drop_zero, List.drop_succ_cons, List.take_succ_cons, List.take_zero]; rfl) rfl rfl (fun _ _ => trivial) ?_
      simp
      intro fs'' hfs''
      refine D_end fun m7 hm7 _ => ?_
      simp
      have hm27 := (hm5.trans hm6).trans hm7
      refine bbind_dec (fun hlt => ?_) fun hlt => ?_
      · simp
        refine W_draw (fun _ _ _ => True) (by simp [maxDst]) ?_
        refine D_pre 0 15 [15, 16, 17] (by simp only [List.drop_zero, List.drop_succ_cons, List.take_succ_cons, List.take_zero]; rfl) rfl rfl (fun _ _ => trivial) ?_
        simp [hp1, hpj, hp0, loadE_mono hm27 hl1, loadE_mono hm27 hl0]
        intro fs3 _
        refine D_W rfl rfl fun m8 hm8 _ => ?_
        have hY8 := hY.mono (hm27.trans hm8)
        obtain ⟨b1', o1', hb1', hp1', _, hst1⟩ := hY8.at hj1
        obtain ⟨rfl, rfl⟩ : b1' = b1 ∧ o1' = o1 := by have := (hp1' .i64).symm.trans (by simpa using hp1 .i64); simpa using this
        obtain ⟨m9, hst9, hch9, hY9⟩ := hst1 y
        simp [hst9]
        refine D_pre 16 1 [17] (by simp only [List.drop_zero, List.drop_succ_cons, List.take_succ_cons, List.take_zero]; rfl) rfl rfl (fun _ _ => trivial) ?_
        simp [hp0]
        intro fs4 _
        refine D_W rfl rfl fun m10 hm10 _ => ?_
        have hY10 := hY9.mono hm10
        obtain ⟨b0', o0', hb0', hp0', _, hst0⟩ := hY10.at (i := j) (by simpa using hj0)
        obtain ⟨rfl, rfl⟩ : b0' = b0 ∧ o0' = o0 := by have := (hp0' .i64).symm.trans (hp0 .i64); simpa using this
        obtain ⟨m11, hst11, hch11, hY11⟩ := hst0 x
        simp [hst11]
        refine D_end fun m12 hm12 _ => ?_
        simp [hpj]
        have hcc : Ch (fun b => t.blk = some b) m2 m12 := ((((Ch.of_prefix (hm27.trans hm8)).trans (hch9.weaken fun b _ hb => by rw [hb]; exact hb1')).trans (.of_prefix hm10)).trans (hch11.weaken fun b _ hb => by rw [hb]; exact hb0')).trans (.of_prefix hm12)
        refine ⟨j, by omega, (hI2 _ _ _).2 ⟨_, rfl, hcc.pre hm2 fun b hb hbb => ?_, hch2.trans hcc, hY11.mono hm12, ?_, hins.swap hx hy hlt⟩⟩
        · have := (hY.blk_lo hbb).1; omega
        · exact (by simpa using hswapP : ((ys.set (j + 1) y).set j x).Perm ys).trans hperm
      · simp [hw]
        have hd := done m7 hm27 (.inr fun a b ha hb => by rw [hx] at ha; cases ha; rw [hy] at hb; cases hb; exact hlt)
        exact ⟨q, by omega, by simpa using hd⟩
    · obtain rfl : j = 0 := by omega
      simp
      intro fs' hfs'
      refine D_Xg rfl rfl (b := false) (by simp) (fun h => by cases h) (fun _ m5 hm5 _ => ⟨by simp [lateOf], ?_⟩)
      refine D_pre 15 2 [] (by simp only [List.drop_zero, List.drop_succ_cons, List.take_succ_cons, List.take_zero]; rfl) rfl rfl (fun _ _ => trivial) ?_
      simp
      intro fs'' hfs''
      refine D_end fun m7 hm7 _ => ?_
      simp [hw]
      exact ⟨q, by omega, by simpa using done m7 (hm5.trans hm7) (.inl rfl)⟩
  · simp
    refine ⟨hm1, hch1, ys, hY, hperm, ?_⟩
    by_cases h1 : i = ys.length
    · rw [← h1]; exact hsort
    · intro p q' a b h1' h2 h3 h4
      exact hsort p q' a b h1' (by omega) h3 h4
end Go.Proofs.YtheadodblifklaaGreat

namespace Go.Proofs.YtheadodblifklaaGreat
open Go Ax
set_option maxRecDepth 100000
theorem ixs_some (s : ByteArray) (n : Nat) (hn : n < s.size) : ∃ z : Int, ixsE (.str s) (.int .u8 n) = some (.int .u8 z) := ⟨_, by simp [ixsE, hn]; rfl⟩
theorem obind_ix {k : AVal → Prop} {t : Tag k} {s : ByteArray} {n : Nat} (hn : n < s.size) (h : ∀ z, k (.int .u8 z)) : obind k t (ixsE (.str s) (.int .u8 n)) := by
  obtain ⟨z, hz⟩ := ixs_some s n hn
  rw [hz, obind_some]
  exact h z
theorem k157 (n : Nat) (hn : n < 256) (m : AMem) : ACalls Tryz.prog 157 [.int .u64 n] m fun v m' => (∃ z, v = .int .i64 z) ∧ m' = m := by
  refine w157 ?_
  have h1 : ¬ (4294967296 : Int) ≤ n := by omega
  have h2 : ¬ (65536 : Int) ≤ n := by omega
  have h3 : ¬ (256 : Int) ≤ n := by omega
  have hw : IntKind.u8.wrap (n : Int) = n := by
    simp only [IntKind.wrap, IntKind.bits, IntKind.signed, Bool.false_and]
    simp
    omega
  simp [h1, h2, h3, hw]
  refine obind_ix ?_ fun z => ?_
  · exact Nat.lt_of_lt_of_eq hn rfl
  simp
theorem k118 (n : Nat) (hn : n < 256) (m : AMem) : ACalls Tryz.prog 118 [.int .u64 n] m fun v m' => (∃ z, v = .int .i64 z) ∧ m' = m := by
  refine w118 ?_
  simp
  refine C_of (k157 n hn m) ?_
  rintro _ _ ⟨⟨z, rfl⟩, rfl⟩
  simp
theorem k117 (t : AVal) (ty : TypeId) (lo : Nat) (m0 : AMem) (hlo : m0.length ≤ lo) (g : FuncId) (fs cs : List AVal) (C : Int → Int → Int) (D : Int → Prop) (hC : Ord C D) (hcmp : CmpOk m0 g fs cs D C) (xs : List Int) (hD : ∀ x ∈ xs, D x) (hn : xs.length ≤ 12) (z : AVal) (m : AMem) (hm : m0 <+: m) (hX : OwL (AVal.int .i64) lo m ty t xs) :
    ACalls Tryz.prog 117 [t, .int .i64 0, .int .i64 xs.length, z, .func (.func g) fs cs] m fun _ m' => m0 <+: m' ∧ Ch (fun b => t.blk = some b) m m' ∧ ∃ ys, OwL (AVal.int .i64) lo m' ty t ys ∧ ys.Perm xs ∧ SortedTo C ys ys.length := by
  refine w117 ?_
  simp
  refine W_loop (fun _ a m' => m' = m ∧ ∃ x y, a = h117_0 t (.int .i64 0) (.int .i64 xs.length) z (.func (.func g) fs cs) x y) 0 ⟨rfl, _, _, rfl⟩ ?_
  rintro n a m ⟨rfl, x, y, rfl⟩
  have hw : IntKind.i64.wrap (xs.length : Int) = xs.length := wrap64 (by omega) (by omega)
  have hle : (xs.length : Int) ≤ 12 := by omega
  simp [hw, hle]
  refine C_of (k148 t ty lo m0 hlo g fs cs C D hC hcmp xs hD (by omega) m hm hX) ?_
  rintro v m' h
  simp
  exact h
theorem k75s (t : AVal) (ty : TypeId) (lo : Nat) (m0 : AMem) (hlo : m0.length ≤ lo) (g : FuncId) (fs cs : List AVal) (C : Int → Int → Int) (D : Int → Prop) (hC : Ord C D) (hcmp : CmpOk m0 g fs cs D C) (xs : List Int) (hD : ∀ x ∈ xs, D x) (hn : xs.length ≤ 12) (m : AMem) (hm : m0 <+: m) (hX : OwL (AVal.int .i64) lo m ty t xs) :
    ACalls Tryz.prog 75 [t, .func (.func g) fs cs] m fun _ m' => m0 <+: m' ∧ Ch (fun b => t.blk = some b) m m' ∧ ∃ ys, OwL (AVal.int .i64) lo m' ty t ys ∧ ys.Perm xs ∧ SortedTo C ys ys.length := by
  refine w75 ?_
  have hw : IntKind.u64.wrap (xs.length : Int) = xs.length := by
    simp only [IntKind.wrap, IntKind.bits, IntKind.signed, Bool.false_and]
    simp
    omega
  simp [hX.len, hw]
  refine C_of (k118 xs.length (by omega) m) ?_
  rintro _ _ ⟨⟨z, rfl⟩, rfl⟩
  simp
  refine C_of (k117 t ty lo m0 hlo g fs cs C D hC hcmp xs hD hn _ _ hm hX) ?_
  rintro v m' h
  simp
  exact h
end Go.Proofs.YtheadodblifklaaGreat

namespace Go.Proofs.YtheadodblifklaaGreat
open Go Ax
theorem store_fld {m : AMem} {b i : Nat} {cs : List AVal} {v : AVal} {ty : TypeId} {g : Option Nat} (h : m[b]? = some (.own cs ty g)) (hi : i < cs.length) (h1 : v.cells = [v]) (h3 : v.one = true) : storeE m 1 (.ptr b i) v = some (.undef, m.set b (.own (cs.set i v) ty g)) := by
  simp only [storeE, if_true, writeB, h, h1]
  simp [h3, setN]
  omega
theorem fld_store {m : AMem} {b i : Nat} {cs : List AVal} {v : AVal} {ty : TypeId} {g : Option Nat} (h : m[b]? = some (.own cs ty g)) (hi : i < cs.length) (h1 : v.cells = [v]) (h3 : v.one = true) : ∃ m', storeE m 1 (.ptr b i) v = some (.undef, m') ∧ m'[b]? = some (.own (cs.set i v) ty g) ∧ Ch (fun c => c = b) m m' :=
  ⟨_, store_fld h hi h1 h3, List.getElem?_set_self (List.getElem?_eq_some_iff.1 h).1, Ch.setS _ rfl⟩
theorem fld_len {m m' : AMem} {n b i : Nat} {v x : AVal} (h : storeE m n (.ptr b i) v = some (x, m')) : m'.length = m.length := by
  simp only [storeE] at h
  split at h
  · unfold writeB at h
    split at h
    · split at h
      · cases h; simp
      · cases h
    · cases h
  · cases h
theorem all_set {cs : List AVal} {i : Nat} {v : AVal} (h : cs.all AVal.one = true) (hv : v.one = true) : (cs.set i v).all AVal.one = true := by
  rw [List.all_eq_true] at h ⊢
  intro y hy
  rcases List.mem_or_eq_of_mem_set hy with hy | rfl
  · exact h y hy
  · exact hv
theorem own_ch {S : Nat → Prop} {m m' : AMem} {b : Nat} {blk : ABlk} (h : m[b]? = some blk) (hc : Ch S m m') (hb : ¬ S b) : m'[b]? = some blk := hc.keep b _ h hb
theorem own_mono {m m' : AMem} {b : Nat} {blk : ABlk} (h : m[b]? = some blk) (hc : m <+: m') : m'[b]? = some blk := (Ch.of_prefix (S := fun _ => False) hc).keep b _ h id
theorem own_read {m : AMem} {b : Nat} {cs : List AVal} {ty : TypeId} {g : Option Nat} (h : m[b]? = some (.own cs ty g)) : readB m b = some cs := by simp [readB, h, ABlk.cells]
end Go.Proofs.YtheadodblifklaaGreat

namespace Go.Proofs.YtheadodblifklaaGreat
open Go Ax
structure Shuf (xs ys : List Int) (a b : Nat) : Prop where
  len : ys.length = xs.length
  perm : ys.Perm xs
  out : ∀ i, i < a ∨ b ≤ i → ys[i]? = xs[i]?
  inn : ∀ (j : Nat) y, a ≤ j → j < b → ys[j]? = some y → ∃ k, a ≤ k ∧ k < b ∧ xs[k]? = some y
theorem Shuf.refl (xs : List Int) (a b : Nat) : Shuf xs xs a b := ⟨rfl, .refl _, fun _ _ => rfl, fun j _ h1 h2 h3 => ⟨j, h1, h2, h3⟩⟩
theorem Shuf.trans {xs ys zs : List Int} {a b : Nat} (h : Shuf xs ys a b) (k : Shuf ys zs a b) : Shuf xs zs a b :=
  ⟨k.len.trans h.len, k.perm.trans h.perm, fun i hi => (k.out i hi).trans (h.out i hi), fun j y h1 h2 h3 => by
    obtain ⟨p, p1, p2, p3⟩ := k.inn j y h1 h2 h3
    exact h.inn p y p1 p2 p3⟩
theorem Shuf.wide {xs ys : List Int} {a b a' b' : Nat} (h : Shuf xs ys a b) (ha : a' ≤ a) (hb : b ≤ b') : Shuf xs ys a' b' :=
  ⟨h.len, h.perm, fun i hi => h.out i (by omega), fun j y h1 h2 h3 => by
    by_cases hj : a ≤ j ∧ j < b
    · obtain ⟨p, p1, p2, p3⟩ := h.inn j y hj.1 hj.2 h3
      exact ⟨p, by omega, by omega, p3⟩
    · exact ⟨j, h1, h2, by rw [← h.out j (by omega)]; exact h3⟩⟩
theorem swap_get {ys : List Int} {i j : Nat} {x y : Int} (hi : i < ys.length) (hj : j < ys.length) (k : Nat) : ((ys.set i y).set j x)[k]? = if k = j then some x else if k = i then some y else ys[k]? := by
  rw [List.getElem?_set]
  by_cases h1 : j = k
  · subst h1; rw [if_pos rfl, if_pos (by simp; omega), if_pos rfl]
  · rw [if_neg h1, if_neg (fun h => h1 h.symm), List.getElem?_set]
    by_cases h2 : i = k
    · subst h2; rw [if_pos rfl, if_pos hi, if_pos rfl]
    · rw [if_neg h2, if_neg (fun h => h2 h.symm)]
theorem Shuf.swap {ys : List Int} {a b i j : Nat} {x y : Int} (hi : ys[i]? = some x) (hj : ys[j]? = some y) (h1 : a ≤ i) (h2 : i < b) (h3 : a ≤ j) (h4 : j < b) : Shuf ys ((ys.set i y).set j x) a b := by
  have li := (List.getElem?_eq_some_iff.1 hi).1
  have lj := (List.getElem?_eq_some_iff.1 hj).1
  have ei : ys[i] = x := by rw [List.getElem?_eq_getElem li] at hi; exact Option.some.inj hi
  have ej : ys[j] = y := by rw [List.getElem?_eq_getElem lj] at hj; exact Option.some.inj hj
  refine ⟨by simp, ?_, fun k hk => ?_, fun k z k1 k2 k3 => ?_⟩
  · have := List.set_set_perm li lj
    rw [ei, ej] at this
    exact this
  · rw [swap_get li lj, if_neg (by omega), if_neg (by omega)]
  · rw [swap_get li lj] at k3
    split at k3
    · cases k3; exact ⟨i, h1, h2, hi⟩
    · split at k3
      · cases k3; exact ⟨j, h3, h4, hj⟩
      · exact ⟨k, k1, k2, k3⟩
def SortedR (C : Int → Int → Int) (ys : List Int) (a b : Nat) : Prop := ∀ (p q : Nat) x y, a ≤ p → p < q → q < b → ys[p]? = some x → ys[q]? = some y → C x y ≤ 0
theorem sortedR_drop {C : Int → Int → Int} {ys : List Int} {a n : Nat} (h : SortedTo C (ys.drop a) n) : SortedR C ys a (a + n) := by
  intro p q x y h1 h2 h3 h4 h5
  refine h (p - a) (q - a) x y (by omega) (by omega) ?_ ?_
  · rw [List.getElem?_drop, show a + (p - a) = p by omega]; exact h4
  · rw [List.getElem?_drop, show a + (q - a) = q by omega]; exact h5
theorem drop_swap {ys : List Int} {a j : Nat} {x y : Int} (h : a + j + 1 < ys.length) : ((ys.set (a + j + 1) y).set (a + j) x).drop a = ((ys.drop a).set (j + 1) y).set j x := by
  apply List.ext_getElem?
  intro k
  rw [List.getElem?_drop, swap_get h (by omega), swap_get (by simp; omega) (by simp; omega), List.getElem?_drop]
  by_cases h1 : k = j
  · subst h1; rw [if_pos rfl, if_pos rfl]
  · rw [if_neg (by omega), if_neg h1]
    by_cases h2 : k = j + 1
    · subst h2; rw [if_pos (by omega), if_pos rfl]
    · rw [if_neg (by omega), if_neg h2]
structure Part (C : Int → Int → Int) (xs : List Int) (a b : Nat) (P : Int) (ys : List Int) (i j : Nat) : Prop where
  sh : Shuf xs ys a b
  pa : ys[a]? = some P
  lo : ∀ (k : Nat) y, a < k → k < i → ys[k]? = some y → C y P < 0
  hi : ∀ (k : Nat) y, j < k → k < b → ys[k]? = some y → ¬ C y P < 0
  ia : a < i
  ij : i ≤ j + 1
  jb : j < b
theorem Part.up {C : Int → Int → Int} {xs : List Int} {a b : Nat} {P : Int} {ys : List Int} {i j : Nat} (h : Part C xs a b P ys i j) (hij : i ≤ j) {y : Int} (hy : ys[i]? = some y) (hc : C y P < 0) : Part C xs a b P ys (i + 1) j :=
  { h with
    lo := fun k z h1 h2 h3 => by
      by_cases hk : k = i
      · subst hk; rw [hy] at h3; cases h3; exact hc
      · exact h.lo k z h1 (by omega) h3
    ia := by have := h.ia; omega
    ij := by omega }
theorem Part.down {C : Int → Int → Int} {xs : List Int} {a b : Nat} {P : Int} {ys : List Int} {i j : Nat} (h : Part C xs a b P ys i j) (hij : i ≤ j) {y : Int} (hy : ys[j]? = some y) (hc : ¬ C y P < 0) : Part C xs a b P ys i (j - 1) :=
  { h with
    hi := fun k z h1 h2 h3 => by
      by_cases hk : k = j
      · subst hk; rw [hy] at h3; cases h3; exact hc
      · exact h.hi k z (by omega) h2 h3
    ij := by have := h.ia; omega
    jb := by have := h.jb; omega }
theorem Part.swap {C : Int → Int → Int} {xs : List Int} {a b : Nat} {P : Int} {ys : List Int} {i j : Nat} (h : Part C xs a b P ys i j) (hij : i ≤ j) {x y : Int} (hx : ys[i]? = some x) (hy : ys[j]? = some y) (hcx : ¬ C x P < 0) (hcy : C y P < 0) : Part C xs a b P ((ys.set i y).set j x) (i + 1) (j - 1) ∧ i < j := by
  have hne : i ≠ j := fun e => by subst e; rw [hx] at hy; cases hy; exact hcx hcy
  have ha := h.ia
  have hb := h.jb
  have li := (List.getElem?_eq_some_iff.1 hx).1
  have lj := (List.getElem?_eq_some_iff.1 hy).1
  refine ⟨⟨h.sh.trans (Shuf.swap hx hy (by omega) (by omega) (by omega) hb), ?_, fun k z h1 h2 h3 => ?_, fun k z h1 h2 h3 => ?_, by omega, by omega, by omega⟩, by omega⟩
  · rw [swap_get li lj, if_neg (by omega), if_neg (by omega)]; exact h.pa
  · rw [swap_get li lj, if_neg (by omega)] at h3
    split at h3
    · cases h3; exact hcy
    · exact h.lo k z h1 (by omega) h3
  · rw [swap_get li lj] at h3
    split at h3
    · cases h3; exact hcx
    · rw [if_neg (by omega)] at h3
      exact h.hi k z (by omega) h2 h3
structure Parted (C : Int → Int → Int) (xs ys : List Int) (a b mid : Nat) : Prop where
  sh : Shuf xs ys a b
  am : a ≤ mid
  mb : mid < b
  ex : ∃ P, ys[mid]? = some P ∧ (∀ (k : Nat) y, a ≤ k → k < mid → ys[k]? = some y → C y P < 0) ∧ ∀ (k : Nat) y, mid < k → k < b → ys[k]? = some y → ¬ C y P < 0
theorem Part.done {C : Int → Int → Int} {xs : List Int} {a b : Nat} {P : Int} {ys : List Int} {j : Nat} (h : Part C xs a b P ys (j + 1) j) {y : Int} (hy : ys[j]? = some y) : Parted C xs ((ys.set j P).set a y) a b j := by
  have ha := h.ia
  have hb := h.jb
  have la := (List.getElem?_eq_some_iff.1 h.pa).1
  have lj := (List.getElem?_eq_some_iff.1 hy).1
  refine ⟨h.sh.trans (Shuf.swap hy h.pa (by omega) hb (by omega) (by omega)), by omega, hb, P, ?_, fun k z h1 h2 h3 => ?_, fun k z h1 h2 h3 => ?_⟩
  · rw [swap_get lj la]
    by_cases hj : j = a
    · subst hj; rw [if_pos rfl]; rw [h.pa] at hy; exact hy.symm
    · rw [if_neg hj, if_pos rfl]
  · rw [swap_get lj la] at h3
    split at h3
    · cases h3; exact h.lo j _ (by omega) (by omega) hy
    · rw [if_neg (by omega)] at h3
      exact h.lo k z (by omega) (by omega) h3
  · rw [swap_get lj la, if_neg (by omega), if_neg (by omega)] at h3
    exact h.hi k z h1 h2 h3
theorem Parted.sorted {C : Int → Int → Int} {D : Int → Prop} (hC : Ord C D) {xs ys zs ws : List Int} {a b mid : Nat} (hD : ∀ x ∈ xs, D x) (h : Parted C xs ys a b mid) (h1 : Shuf ys zs a mid) (s1 : SortedR C zs a mid) (h2 : Shuf zs ws (mid + 1) b) (s2 : SortedR C ws (mid + 1) b) : Shuf xs ws a b ∧ SortedR C ws a b := by
  have hm := h.am
  have hb := h.mb
  have hsh := (h.sh.trans (h1.wide (Nat.le_refl _) (by omega))).trans (h2.wide (by omega) (Nat.le_refl _))
  have hDw : ∀ x ∈ ws, D x := fun x hx => hD x (hsh.perm.mem_iff.1 hx)
  obtain ⟨P, hP, hlo, hhi⟩ := h.ex
  have hPw : ws[mid]? = some P := by rw [h2.out mid (.inl (by omega)), h1.out mid (.inr (Nat.le_refl _))]; exact hP
  have hPD := hDw P (List.mem_of_getElem? hPw)
  have lw : ∀ (k : Nat) y, a ≤ k → k < mid → ws[k]? = some y → C y P < 0 := fun k y k1 k2 k3 => by
    rw [h2.out k (.inl (by omega))] at k3
    obtain ⟨p, p1, p2, p3⟩ := h1.inn k y k1 k2 k3
    exact hlo p y p1 p2 p3
  have hw : ∀ (k : Nat) y, mid < k → k < b → ws[k]? = some y → ¬ C y P < 0 := fun k y k1 k2 k3 => by
    obtain ⟨p, p1, p2, p3⟩ := h2.inn k y (by omega) k2 k3
    rw [h1.out p (.inr (by omega))] at p3
    exact hhi p y (by omega) p2 p3
  refine ⟨hsh, fun p q x y e1 e2 e3 e4 e5 => ?_⟩
  have dx := hDw x (List.mem_of_getElem? e4)
  have dy := hDw y (List.mem_of_getElem? e5)
  by_cases hq : q < mid
  · refine s1 p q x y e1 e2 hq ?_ ?_
    · rw [← h2.out p (.inl (by omega))]; exact e4
    · rw [← h2.out q (.inl (by omega))]; exact e5
  · by_cases hp : mid < p
    · exact s2 p q x y (by omega) e2 e3 e4 e5
    · have hxP : C x P ≤ 0 := by
        by_cases hpm : p = mid
        · subst hpm; rw [hPw] at e4; cases e4
          have := hC.anti P P hPD hPD; omega
        · have := lw p x e1 (by omega) e4; omega
      have hPy : C P y ≤ 0 := by
        by_cases hqm : q = mid
        · subst hqm; rw [hPw] at e5; cases e5
          have := hC.anti P P hPD hPD; omega
        · exact hC.le_of_not dy hPD (hw q y (by omega) e3 e5)
      exact hC.trans x P y dx hPD dy hxP hPy
theorem Parted.sorted2 {C : Int → Int → Int} {D : Int → Prop} (hC : Ord C D) {xs ys zs ws : List Int} {a b mid : Nat} (hD : ∀ x ∈ xs, D x) (h : Parted C xs ys a b mid) (h2 : Shuf ys zs (mid + 1) b) (s2 : SortedR C zs (mid + 1) b) (h1 : Shuf zs ws a mid) (s1 : SortedR C ws a mid) : Shuf xs ws a b ∧ SortedR C ws a b := by
  have hm := h.am
  have hb := h.mb
  have hsh := (h.sh.trans (h2.wide (by omega) (Nat.le_refl _))).trans (h1.wide (Nat.le_refl _) (by omega))
  have hDw : ∀ x ∈ ws, D x := fun x hx => hD x (hsh.perm.mem_iff.1 hx)
  obtain ⟨P, hP, hlo, hhi⟩ := h.ex
  have hPw : ws[mid]? = some P := by rw [h1.out mid (.inr (Nat.le_refl _)), h2.out mid (.inl (by omega))]; exact hP
  have hPD := hDw P (List.mem_of_getElem? hPw)
  have lw : ∀ (k : Nat) y, a ≤ k → k < mid → ws[k]? = some y → C y P < 0 := fun k y k1 k2 k3 => by
    obtain ⟨p, p1, p2, p3⟩ := h1.inn k y k1 k2 k3
    rw [h2.out p (.inl (by omega))] at p3
    exact hlo p y p1 p2 p3
  have hw : ∀ (k : Nat) y, mid < k → k < b → ws[k]? = some y → ¬ C y P < 0 := fun k y k1 k2 k3 => by
    rw [h1.out k (.inr (by omega))] at k3
    obtain ⟨p, p1, p2, p3⟩ := h2.inn k y (by omega) k2 k3
    exact hhi p y (by omega) p2 p3
  refine ⟨hsh, fun p q x y e1 e2 e3 e4 e5 => ?_⟩
  have dx := hDw x (List.mem_of_getElem? e4)
  have dy := hDw y (List.mem_of_getElem? e5)
  by_cases hq : q < mid
  · exact s1 p q x y e1 e2 hq e4 e5
  · by_cases hp : mid < p
    · refine s2 p q x y (by omega) e2 e3 ?_ ?_
      · rw [← h1.out p (.inr (by omega))]; exact e4
      · rw [← h1.out q (.inr (by omega))]; exact e5
    · have hxP : C x P ≤ 0 := by
        by_cases hpm : p = mid
        · subst hpm; rw [hPw] at e4; cases e4
          have := hC.anti P P hPD hPD; omega
        · have := lw p x e1 (by omega) e4; omega
      have hPy : C P y ≤ 0 := by
        by_cases hqm : q = mid
        · subst hqm; rw [hPw] at e5; cases e5
          have := hC.anti P P hPD hPD; omega
        · exact hC.le_of_not dy hPD (hw q y (by omega) e3 e5)
      exact hC.trans x P y dx hPD dy hxP hPy
theorem sortedR_adj {C : Int → Int → Int} {D : Int → Prop} (hC : Ord C D) {ys : List Int} {a b : Nat} (hD : ∀ x ∈ ys, D x) (hb : b ≤ ys.length) (h : ∀ (k : Nat) x y, a ≤ k → k + 1 < b → ys[k]? = some x → ys[k + 1]? = some y → ¬ C y x < 0) : SortedR C ys a b := by
  intro p q x y h1 h2 h3 h4 h5
  obtain ⟨d, rfl⟩ : ∃ d, q = p + 1 + d := ⟨q - (p + 1), by omega⟩
  clear h2
  induction d generalizing y with
  | zero => exact hC.le_of_not (hD y (List.mem_of_getElem? h5)) (hD x (List.mem_of_getElem? h4)) (h p x y h1 h3 h4 h5)
  | succ d ih =>
    have hl : p + 1 + d < ys.length := by omega
    have hz : ys[p + 1 + d]? = some ys[p + 1 + d] := List.getElem?_eq_getElem hl
    have dz := hD _ (List.getElem_mem hl)
    have dy := hD y (List.mem_of_getElem? h5)
    have dx := hD x (List.mem_of_getElem? h4)
    have i1 := ih _ (by omega) hz
    have i2 := hC.le_of_not dy dz (h (p + 1 + d) _ y (by omega) (by omega) hz (by rw [show p + 1 + d + 1 = p + 1 + (d + 1) by omega]; exact h5))
    exact hC.trans _ _ _ dx dz dy i1 i2
end Go.Proofs.YtheadodblifklaaGreat

namespace Go.Proofs.YtheadodblifklaaGreat
open Go Ax
set_option maxRecDepth 100000
set_option maxHeartbeats 4000000 in
theorem k148r (t : AVal) (ty : TypeId) (lo : Nat) (m0 : AMem) (hlo : m0.length ≤ lo) (g : FuncId) (fs cs : List AVal) (C : Int → Int → Int) (D : Int → Prop) (hC : Ord C D) (hcmp : CmpOk m0 g fs cs D C) (xs : List Int) (hD : ∀ x ∈ xs, D x) (s n : Nat) (hsn : s + n ≤ xs.length) (hn : xs.length < 2 ^ 61) (m : AMem) (hm : m0 <+: m) (hX : OwL (AVal.int .i64) lo m ty t xs) :
    ACalls Tryz.prog 148 [t, .int .i64 s, .int .i64 (s + n : Nat), .func (.func g) fs cs] m fun _ m' => m0 <+: m' ∧ Ch (fun b => t.blk = some b) m m' ∧ ∃ ys, OwL (AVal.int .i64) lo m' ty t ys ∧ Shuf xs ys s (s + n) ∧ SortedR C ys s (s + n) := by
  refine w148 ?_
  generalize hbe : ((s + n : Nat) : Int) = be
  have hw1 : IntKind.i64.wrap ((s : Int) + 1) = ((s + 1 : Nat) : Int) := by rw [wrap64 (by omega) (by omega)]; omega
  simp [hw1]
  obtain ⟨I, hI⟩ : ∃ I : Nat → AFrame → AMem → Prop, ∀ q a m', I q a m' ↔ (∃ (i : Nat) (ys : List Int), i + q = n + 1 ∧ 1 ≤ i ∧ a = h148_0 t (.int .i64 s) (.int .i64 be) (.func (.func g) fs cs) (.int .i64 (s + i : Nat)) ∧ m0 <+: m' ∧ Ch (fun b => t.blk = some b) m m' ∧ OwL (AVal.int .i64) lo m' ty t ys ∧ Shuf xs ys s (s + n) ∧ SortedTo C (ys.drop s) i) := ⟨_, fun _ _ _ => Iff.rfl⟩
  refine W_loop I n ((hI _ _ _).2 ⟨1, xs, by omega, by omega, by simp, hm, .refl _ _, hX, .refl _ _ _, fun p q a b h1 h2 => by omega⟩) ?_
  clear hX hm
  rintro q a m1 hIn
  obtain ⟨i, ys, hk, hi1, rfl, hm1, hch1, hY, hsh, hsort⟩ := (hI _ _ _).1 hIn
  clear hIn
  have hyl := hsh.len
  simp only [← hbe]
  simp
  refine bbind_dec (fun hil => ?_) fun hil => ?_
  · have hil : i < n := by omega
    have hw : IntKind.i64.wrap ((s : Int) + (i : Int) + 1) = (s : Int) + ((i : Int) + 1) := by rw [wrap64 (by omega) (by omega)]; omega
    obtain ⟨q, rfl⟩ : ∃ q', q = q' + 1 := ⟨q - 1, by omega⟩
    simp
    obtain ⟨I2, hI2⟩ : ∃ I : Nat → AFrame → AMem → Prop, ∀ q a m', I q a m' ↔ (∃ (ys : List Int), a = h148_1 t (.int .i64 s) (.int .i64 (s + n : Nat)) (.func (.func g) fs cs) (.int .i64 (s + i : Nat)) (.int .i64 (s + q : Nat)) ∧ m0 <+: m' ∧ Ch (fun b => t.blk = some b) m m' ∧ OwL (AVal.int .i64) lo m' ty t ys ∧ Shuf xs ys s (s + n) ∧ InsInv C (ys.drop s) i q) := ⟨_, fun _ _ _ => Iff.rfl⟩
    refine W_loop I2 i ((hI2 _ _ _).2 ⟨ys, by simp, hm1, hch1, hY, hsh, .start hsort⟩) ?_
    clear hm1 hch1 hY hsh hsort hyl
    rintro j a m2 hIn
    obtain ⟨ys, rfl, hm2, hch2, hY, hsh, hins⟩ := (hI2 _ _ _).1 hIn
    clear hIn
    have hyl := hsh.len
    have hDy : ∀ x ∈ ys, D x := fun x hx => hD x (hsh.perm.mem_iff.1 hx)
    have hDd : ∀ x ∈ ys.drop s, D x := fun x hx => hDy x (List.mem_of_mem_drop hx)
    have hji := hins.le
    simp
    have done : ∀ m3, m2 <+: m3 → (j = 0 ∨ ∀ a b, (ys.drop s)[j]? = some a → (ys.drop s)[j - 1]? = some b → ¬ C a b < 0) → I q (h148_0 t (.int .i64 s) (.int .i64 be) (.func (.func g) fs cs) (.int .i64 (s + (i + 1) : Nat))) m3 := fun m3 hm3 hs => (hI _ _ _).2 ⟨i + 1, ys, by omega, by omega, rfl, hm2.trans hm3, hch2.trans (.of_prefix hm3), hY.mono hm3, hsh, hins.stop hC hDd hs⟩
    refine W_draw (fun _ _ _ => True) (by simp [maxDst]) ?_
    refine D_pre 0 14 [14, 15, 16] (by simp only [List.drop_zero, List.drop_succ_cons, List.take_succ_cons, List.take_zero]; rfl) rfl rfl (fun _ _ => trivial) ?_
    by_cases hj : 0 < j
    · obtain ⟨j, rfl⟩ : ∃ j', j = j' + 1 := ⟨j - 1, by omega⟩
      simp only [Nat.add_sub_cancel] at done
      have hj1 : s + j + 1 < ys.length := by omega
      have hj0 : s + j < ys.length := by omega
      obtain ⟨b1, o1, hb1, hp1, hl1, _⟩ := hY.at hj1
      obtain ⟨b0, o0, hb0, hp0, hl0, _⟩ := hY.at hj0
      have hx : (ys.drop s)[j + 1]? = some ys[s + j + 1] := by rw [List.getElem?_drop]; exact List.getElem?_eq_getElem hj1
      have hy : (ys.drop s)[j]? = some ys[s + j] := by rw [List.getElem?_drop]; exact List.getElem?_eq_getElem hj0
      have hDx := hDy _ (List.getElem_mem hj1)
      have hDy' := hDy _ (List.getElem_mem hj0)
      have hsw := Shuf.swap (ys := ys) (a := s) (b := s + n) (i := s + j + 1) (j := s + j) (List.getElem?_eq_getElem hj1) (List.getElem?_eq_getElem hj0) (by omega) (by omega) (by omega) (by omega)
      generalize hxx : ys[s + j + 1] = x at *
      generalize hyy : ys[s + j] = y at *
      have hp1' : ∀ k, iaddrE 1 t (.int k ((s : Int) + ((j : Int) + 1))) = some (.ptr b1 o1) := fun k => by rw [← hp1 k]; congr 2 <;> omega
      have hp0' : ∀ k, iaddrE 1 t (.int k ((s : Int) + j)) = some (.ptr b0 o0) := fun k => by rw [← hp0 k]; congr 2 <;> omega
      have hj' : (0 : Int) < (j : Int) + 1 := by omega
      have hpj : IntKind.i64.wrap ((s : Int) + ((j : Int) + 1) - 1) = (s : Int) + j := by rw [wrap64 (by omega) (by omega)]; omega
      simp only [Int.natCast_add, Int.cast_ofNat_Int]
      have hgt : (s : Int) < (s : Int) + ((j : Int) + 1) := by omega
      simp [hj', hgt, hp1', hl1, hpj, hp0', hl0]
      intro fs' hfs'
      refine D_Xg rfl rfl (b := true) (by simp) (fun _ m5 hm5 _ => ?_) (fun h => absurd rfl h)
      simp
      have hcall := hcmp x y hDx hDy' m5 (hm2.trans hm5)
      simp at hcall
      refine C_of hcall ?_
      rintro _ m6 ⟨rfl, hm6⟩
      refine ⟨by simp [lateOf], ?_⟩
      refine D_pre 15 2 [] (by simp only [List.drop_zero, List.drop_succ_cons, List.take_succ_cons, List.take_zero]; rfl) rfl rfl (fun _ _ => trivial) ?_
      simp
      intro fs'' hfs''
      refine D_end fun m7 hm7 _ => ?_
      simp
      have hm27 := (hm5.trans hm6).trans hm7
      refine bbind_dec (fun hlt => ?_) fun hlt => ?_
      · simp
        refine W_draw (fun _ _ _ => True) (by simp [maxDst]) ?_
        refine D_pre 0 15 [15, 16, 17] (by simp only [List.drop_zero, List.drop_succ_cons, List.take_succ_cons, List.take_zero]; rfl) rfl rfl (fun _ _ => trivial) ?_
        simp [hp1', hpj, hp0', loadE_mono hm27 hl1, loadE_mono hm27 hl0]
        intro fs3 _
        refine D_W rfl rfl fun m8 hm8 _ => ?_
        have hY8 := hY.mono (hm27.trans hm8)
        obtain ⟨b1', o1', hb1', hp1'', _, hst1⟩ := hY8.at hj1
        obtain ⟨rfl, rfl⟩ : b1' = b1 ∧ o1' = o1 := by have := (hp1'' .i64).symm.trans (hp1 .i64); simpa using this
        obtain ⟨m9, hst9, hch9, hY9⟩ := hst1 y
        simp [hst9]
        refine D_pre 16 1 [17] (by simp only [List.drop_zero, List.drop_succ_cons, List.take_succ_cons, List.take_zero]; rfl) rfl rfl (fun _ _ => trivial) ?_
        simp [hp0']
        intro fs4 _
        refine D_W rfl rfl fun m10 hm10 _ => ?_
        have hY10 := hY9.mono hm10
        obtain ⟨b0', o0', hb0', hp0'', _, hst0⟩ := hY10.at (i := s + j) (by simpa using hj0)
        obtain ⟨rfl, rfl⟩ : b0' = b0 ∧ o0' = o0 := by have := (hp0'' .i64).symm.trans (hp0 .i64); simpa using this
        obtain ⟨m11, hst11, hch11, hY11⟩ := hst0 x
        simp [hst11]
        refine D_end fun m12 hm12 _ => ?_
        simp [hpj]
        have hcc : Ch (fun b => t.blk = some b) m2 m12 := ((((Ch.of_prefix (hm27.trans hm8)).trans (hch9.weaken fun b _ hb => by rw [hb]; exact hb1')).trans (.of_prefix hm10)).trans (hch11.weaken fun b _ hb => by rw [hb]; exact hb0')).trans (.of_prefix hm12)
        refine ⟨j, by omega, (hI2 _ _ _).2 ⟨_, by simp, hcc.pre hm2 fun b hb hbb => ?_, hch2.trans hcc, hY11.mono hm12, hsh.trans hsw, ?_⟩⟩
        · have := (hY.blk_lo hbb).1; omega
        · rw [drop_swap hj1]
          exact hins.swap hx hy hlt
      · simp [hw]
        have hd := done m7 hm27 (.inr fun a b ha hb => by rw [hx] at ha; cases ha; rw [hy] at hb; cases hb; exact hlt)
        exact ⟨q, by omega, by simpa [← hbe] using hd⟩
    · obtain rfl : j = 0 := by omega
      simp
      intro fs' hfs'
      refine D_Xg rfl rfl (b := false) (by simp) (fun h => by cases h) (fun _ m5 hm5 _ => ⟨by simp [lateOf], ?_⟩)
      refine D_pre 15 2 [] (by simp only [List.drop_zero, List.drop_succ_cons, List.take_succ_cons, List.take_zero]; rfl) rfl rfl (fun _ _ => trivial) ?_
      simp
      intro fs'' hfs''
      refine D_end fun m7 hm7 _ => ?_
      simp [hw]
      exact ⟨q, by omega, by simpa [← hbe] using done m7 (hm5.trans hm7) (.inl rfl)⟩
  · simp
    refine ⟨hm1, hch1, ys, hY, hsh, sortedR_drop ?_⟩
    intro p q' a b h1' h2 h3 h4
    exact hsort p q' a b h1' (by omega) h3 h4
end Go.Proofs.YtheadodblifklaaGreat

namespace Go.Proofs.YtheadodblifklaaGreat
open Go Ax
set_option maxRecDepth 100000
theorem swapMem {lo : Nat} {m : AMem} {ty : TypeId} {t : AVal} {ys : List Int} (hY : OwL (AVal.int .i64) lo m ty t ys) {i j : Nat} (hi : i < ys.length) (hj : j < ys.length) :
    ∃ x y bi oi bj oj, ys[i]? = some x ∧ ys[j]? = some y ∧ (∀ k, iaddrE 1 t (.int k i) = some (.ptr bi oi)) ∧ (∀ k, iaddrE 1 t (.int k j) = some (.ptr bj oj)) ∧ loadE m 1 false (.ptr bi oi) = some (.int .i64 x) ∧ loadE m 1 false (.ptr bj oj) = some (.int .i64 y) ∧
      ∀ m8, m <+: m8 → ∃ m9, storeE m8 1 (.ptr bi oi) (.int .i64 y) = some (.undef, m9) ∧ ∀ m10, m9 <+: m10 → ∃ m11, storeE m10 1 (.ptr bj oj) (.int .i64 x) = some (.undef, m11) ∧ ∀ m12, m11 <+: m12 →
        Ch (fun b => t.blk = some b) m m12 ∧ OwL (AVal.int .i64) lo m12 ty t ((ys.set i y).set j x) := by
  obtain ⟨bi, oi, hbi, hpi, hli, _⟩ := hY.at hi
  obtain ⟨bj, oj, hbj, hpj, hlj, _⟩ := hY.at hj
  refine ⟨ys[i], ys[j], bi, oi, bj, oj, List.getElem?_eq_getElem hi, List.getElem?_eq_getElem hj, hpi, hpj, hli, hlj, fun m8 hm8 => ?_⟩
  obtain ⟨b1, o1, hb1, hp1, _, hst⟩ := (hY.mono hm8).at hi
  obtain ⟨rfl, rfl⟩ : b1 = bi ∧ o1 = oi := by have := (hp1 .i64).symm.trans (hpi .i64); simpa using this
  obtain ⟨m9, hst9, hch9, hY9⟩ := hst ys[j]
  refine ⟨m9, hst9, fun m10 hm10 => ?_⟩
  obtain ⟨b0, o0, hb0, hp0, _, hst'⟩ := (hY9.mono hm10).at (i := j) (by simpa using hj)
  obtain ⟨rfl, rfl⟩ : b0 = bj ∧ o0 = oj := by have := (hp0 .i64).symm.trans (hpj .i64); simpa using this
  obtain ⟨m11, hst11, hch11, hY11⟩ := hst' ys[i]
  refine ⟨m11, hst11, fun m12 hm12 => ⟨?_, hY11.mono hm12⟩⟩
  exact ((((Ch.of_prefix hm8).trans (hch9.weaken fun b _ hb => by rw [hb]; exact hb1)).trans (.of_prefix hm10)).trans (hch11.weaken fun b _ hb => by rw [hb]; exact hb0)).trans (.of_prefix hm12)
end Go.Proofs.YtheadodblifklaaGreat

namespace Go.Proofs.YtheadodblifklaaGreat
open Go Ax
set_option maxRecDepth 100000
set_option maxHeartbeats 8000000 in
theorem k155 (t : AVal) (ty : TypeId) (lo : Nat) (m0 : AMem) (hlo : m0.length ≤ lo) (g : FuncId) (fs cs : List AVal) (C : Int → Int → Int) (D : Int → Prop) (hcmp : CmpOk m0 g fs cs D C) (xs : List Int) (hD : ∀ x ∈ xs, D x) (s e p : Nat) (hsp : s ≤ p) (hpe : p < e) (hel : e ≤ xs.length) (hn : xs.length < 2 ^ 61) (m : AMem) (hm : m0 <+: m) (hX : OwL (AVal.int .i64) lo m ty t xs) :
    ACalls Tryz.prog 155 [t, .int .i64 s, .int .i64 e, .int .i64 p, .func (.func g) fs cs] m fun v m' => m0 <+: m' ∧ Ch (fun b => t.blk = some b) m m' ∧ ∃ ys mid b, v = .tuple [.int .i64 (mid : Nat), .bool b] ∧ OwL (AVal.int .i64) lo m' ty t ys ∧ Parted C xs ys s e mid := by
  refine w155 ?_
  simp
  obtain ⟨xA, xB, bA, oA, bB, oB, hxA, hxB, hpA, hpB, hlA, hlB, hrest⟩ := swapMem hX (i := s) (j := p) (by omega) (by omega)
  refine W_draw (fun _ _ _ => True) (by simp [maxDst]) ?_
  refine D_pre 0 13 [13, 14, 15] (by simp only [List.drop_zero, List.drop_succ_cons, List.take_succ_cons, List.take_zero]; rfl) rfl rfl (fun _ _ => trivial) ?_
  simp [hpA, hlA, hpB, hlB]
  intro _ _
  refine D_W rfl rfl fun m8 hm8 _ => ?_
  obtain ⟨m9, hst9, hrest⟩ := hrest m8 hm8
  simp [hst9]
  refine D_pre 14 1 [15] (by simp only [List.drop_zero, List.drop_succ_cons, List.take_succ_cons, List.take_zero]; rfl) rfl rfl (fun _ _ => trivial) ?_
  simp [hpB]
  intro _ _
  refine D_W rfl rfl fun m10 hm10 _ => ?_
  obtain ⟨m11, hst11, hrest⟩ := hrest m10 hm10
  simp [hst11]
  refine D_end fun m1 hm12 _ => ?_
  obtain ⟨hcS, hYS⟩ := hrest m1 hm12
  clear hst9 hst11 hrest hlA hlB hm8 hm10 hm12
  have hw1 : IntKind.i64.wrap ((s : Int) + 1) = ((s + 1 : Nat) : Int) := by rw [wrap64 (by omega) (by omega)]; omega
  have hw2 : IntKind.i64.wrap ((e : Int) - 1) = ((e - 1 : Nat) : Int) := by rw [wrap64 (by omega) (by omega)]; omega
  simp [hw1, hw2]
  have hms : m0 <+: m1 := hcS.pre hm fun b hb h => by have := (hX.blk_lo h).1; omega
  obtain ⟨P, hPs⟩ : ∃ P, xs[p]? = some P := ⟨_, hxB⟩
  have hP0 : Part C xs s e xB ((xs.set s xB).set p xA) (s + 1) (e - 1) := by
    have l1 := (List.getElem?_eq_some_iff.1 hxA).1
    have l2 := (List.getElem?_eq_some_iff.1 hxB).1
    refine ⟨Shuf.swap hxA hxB (by omega) (by omega) hsp hpe, ?_, fun k y h1 h2 => by omega, fun k y h1 h2 => by omega, by omega, by omega, by omega⟩
    rw [swap_get l1 l2]
    by_cases h : s = p
    · subst h; rw [if_pos rfl]; rw [hxA] at hxB; exact hxB
    · rw [if_neg h, if_pos rfl]
  have hDy : ∀ zs, Shuf xs zs s e → ∀ x ∈ zs, D x := fun zs h x hx => hD x (h.perm.mem_iff.1 hx)
  generalize (xs.set s xB).set p xA = ys at *
  generalize xB = P at *
  replace hY := hYS
  have hm0 := hms
  clear hYS hX hxA hxB hpA hpB hm
  have hch := hcS
  clear hcS
  obtain ⟨J, hJ⟩ : ∃ J : AFrame → AMem → Prop, ∀ f m', J f m' ↔ (∃ (i j : Nat), f.forget [0, 1, 4, 12, 13] = mat 178 [(0, t), (1, .int .i64 s), (4, .func (.func g) fs cs), (12, .int .i64 i), (13, .int .i64 j)] ∧ m1 <+: m' ∧ Part C xs s e P ys i j ∧ j + 1 ≤ i + xs.length ∧ (¬ i ≤ j ∨ ∃ x, ys[i]? = some x ∧ ¬ C x P < 0)) := ⟨_, fun _ _ => Iff.rfl⟩
  refine W_JB J ?_ ?_
  · obtain ⟨I, hI⟩ : ∃ I : Nat → AFrame → AMem → Prop, ∀ q f m', I q f m' ↔ (∃ (i j : Nat), i + q = j + 1 ∧ f = h155_0 t (.int .i64 s) (.func (.func g) fs cs) (.int .i64 i) (.int .i64 j) ∧ m1 <+: m' ∧ Part C xs s e P ys i j ∧ j + 1 ≤ i + xs.length ∧ True) := ⟨_, fun _ _ _ => Iff.rfl⟩
    refine W_loop I ((e - 1) + 1 - (s + 1)) ((hI _ _ _).2 ⟨(s + 1), (e - 1), by have := hP0.ij; omega, by simp, List.prefix_refl _, hP0, by omega, trivial⟩) ?_
    rintro q f m1 hIn
    obtain ⟨i, j, hq, rfl, hm, hP, hbd, he⟩ := (hI _ _ _).1 hIn
    clear hIn
    have hia := hP.ia
    have hjb := hP.jb
    have hYm := hY.mono hm
    have hD := hDy _ hP.sh
    simp
    refine W_draw (fun _ _ _ => True) (by simp [maxDst]) ?_
    refine D_pre 0 13 [13, 14, 15] (by simp only [List.drop_zero, List.drop_succ_cons, List.take_succ_cons, List.take_zero]; rfl) rfl rfl (fun _ _ => trivial) ?_
    by_cases hij : i ≤ j
    · have hij' : (i : Int) ≤ j := by omega
      have hyl : i < ys.length := by rw [hP.sh.len]; omega
      have hsl : s < ys.length := by rw [hP.sh.len]; omega
      obtain ⟨bi, oi, _, hpi, hli, _⟩ := hYm.at hyl
      obtain ⟨ba, oa, _, hpa, hla, _⟩ := hYm.at hsl
      have hy : ys[i]? = some ys[i] := List.getElem?_eq_getElem hyl
      have hPa := hP.pa
      rw [List.getElem?_eq_getElem hsl] at hPa
      have hPa : ys[s] = P := Option.some.inj hPa
      rw [hPa] at hla
      have hDy1 := hD _ (List.getElem_mem hyl)
      have hDP : D P := by rw [← hPa]; exact hD _ (List.getElem_mem hsl)
      generalize ys[i] = y at *
      simp [hij', hpi, hli, hpa, hla]
      intro _ _
      refine D_Xg rfl rfl (b := true) (by simp) (fun _ m5 hm5 _ => ?_) (fun h => absurd rfl h)
      simp
      have hcall := hcmp y P hDy1 hDP m5 (hm0.trans (hm.trans hm5))
      simp at hcall
      refine C_of hcall ?_
      rintro _ m6 ⟨rfl, hm6⟩
      refine ⟨by simp [lateOf], ?_⟩
      refine D_pre 14 2 [] (by simp only [List.drop_zero, List.drop_succ_cons, List.take_succ_cons, List.take_zero]; rfl) rfl rfl (fun _ _ => trivial) ?_
      simp
      intro _ _
      refine D_end fun m7 hm7 _ => ?_
      replace hm7 := (hm5.trans hm6).trans hm7
      clear hm5 hm6 hcall
      have hw : IntKind.i64.wrap ((i : Int) + 1) = (i : Int) + 1 := wrap64 (by omega) (by omega)
      have hjw : IntKind.i64.wrap ((j : Int) - 1) = ((j - 1 : Nat) : Int) := by rw [wrap64 (by omega) (by omega)]; omega
      by_cases hlt : C y P < 0
      · simp [hlt, hw]
        obtain ⟨q, rfl⟩ : ∃ q', q = q' + 1 := ⟨q - 1, by omega⟩
        refine ⟨q, by omega, (hI _ _ _).2 ⟨i + 1, j, by omega, by simp, hm.trans hm7, hP.up hij hy hlt, by omega, he⟩⟩
      · simp [hlt]
        exact (hJ _ _).2 ⟨i, j, by simp, hm.trans hm7, hP, hbd, .inr ⟨_, hy, hlt⟩⟩
    · have hij' : ¬ (i : Int) ≤ j := by omega
      simp [hij']
      intro _ _
      refine D_Xg rfl rfl (b := false) (by simp) (fun h => by cases h) (fun _ m5 hm5 _ => ⟨by simp [lateOf], ?_⟩)
      refine D_pre 14 2 [] (by simp only [List.drop_zero, List.drop_succ_cons, List.take_succ_cons, List.take_zero]; rfl) rfl rfl (fun _ _ => trivial) ?_
      simp
      intro _ _
      refine D_end fun m7 hm7 _ => ?_
      simp
      exact (hJ _ _).2 ⟨i, j, by simp, hm.trans (hm5.trans hm7), hP, hbd, .inl hij⟩
  intro f m2 hJ2
  obtain ⟨i, j, hf, hmS, hP, hbd, he⟩ := (hJ _ _).1 hJ2
  clear hJ2 hJ
  replace hY := hY.mono hmS
  replace hm0 := hm0.trans hmS
  replace hch := hch.trans (.of_prefix hmS)
  clear hmS
  simp [hf]
  obtain ⟨J, hJ⟩ : ∃ J : AFrame → AMem → Prop, ∀ f m', J f m' ↔ (∃ (i j : Nat), f.forget [0, 1, 4, 12, 13] = mat 178 [(0, t), (1, .int .i64 s), (4, .func (.func g) fs cs), (12, .int .i64 i), (13, .int .i64 j)] ∧ m2 <+: m' ∧ Part C xs s e P ys i j ∧ j + 1 ≤ i + xs.length ∧ (¬ i ≤ j ∨ ∃ x, ys[i]? = some x ∧ ¬ C x P < 0) ∧ (¬ i ≤ j ∨ ∃ x, ys[j]? = some x ∧ C x P < 0)) := ⟨_, fun _ _ => Iff.rfl⟩
  refine W_JB J ?_ ?_
  · obtain ⟨I, hI⟩ : ∃ I : Nat → AFrame → AMem → Prop, ∀ q f m', I q f m' ↔ (∃ (i j : Nat), i + q = j + 1 ∧ f = h155_1 t (.int .i64 s) (.func (.func g) fs cs) (.int .i64 i) (.int .i64 j) ∧ m2 <+: m' ∧ Part C xs s e P ys i j ∧ j + 1 ≤ i + xs.length ∧ (¬ i ≤ j ∨ ∃ x, ys[i]? = some x ∧ ¬ C x P < 0)) := ⟨_, fun _ _ _ => Iff.rfl⟩
    refine W_loop I (j + 1 - i) ((hI _ _ _).2 ⟨i, j, by have := hP.ij; omega, by simp, List.prefix_refl _, hP, by omega, he⟩) ?_
    rintro q f m1 hIn
    obtain ⟨i, j, hq, rfl, hm, hP, hbd, he⟩ := (hI _ _ _).1 hIn
    clear hIn
    have hia := hP.ia
    have hjb := hP.jb
    have hYm := hY.mono hm
    have hD := hDy _ hP.sh
    simp
    refine W_draw (fun _ _ _ => True) (by simp [maxDst]) ?_
    refine D_pre 0 13 [13, 14, 15, 16] (by simp only [List.drop_zero, List.drop_succ_cons, List.take_succ_cons, List.take_zero]; rfl) rfl rfl (fun _ _ => trivial) ?_
    by_cases hij : i ≤ j
    · have hij' : (i : Int) ≤ j := by omega
      have hyl : j < ys.length := by rw [hP.sh.len]; omega
      have hsl : s < ys.length := by rw [hP.sh.len]; omega
      obtain ⟨bi, oi, _, hpi, hli, _⟩ := hYm.at hyl
      obtain ⟨ba, oa, _, hpa, hla, _⟩ := hYm.at hsl
      have hy : ys[j]? = some ys[j] := List.getElem?_eq_getElem hyl
      have hPa := hP.pa
      rw [List.getElem?_eq_getElem hsl] at hPa
      have hPa : ys[s] = P := Option.some.inj hPa
      rw [hPa] at hla
      have hDy1 := hD _ (List.getElem_mem hyl)
      have hDP : D P := by rw [← hPa]; exact hD _ (List.getElem_mem hsl)
      generalize ys[j] = y at *
      simp [hij', hpi, hli, hpa, hla]
      intro _ _
      refine D_Xg rfl rfl (b := true) (by simp) (fun _ m5 hm5 _ => ?_) (fun h => absurd rfl h)
      simp
      have hcall := hcmp y P hDy1 hDP m5 (hm0.trans (hm.trans hm5))
      simp at hcall
      refine C_of hcall ?_
      rintro _ m6 ⟨rfl, hm6⟩
      refine ⟨by simp [lateOf], ?_⟩
      refine D_pre 14 3 [] (by simp only [List.drop_zero, List.drop_succ_cons, List.take_succ_cons, List.take_zero]; rfl) rfl rfl (fun _ _ => trivial) ?_
      simp
      intro _ _
      refine D_end fun m7 hm7 _ => ?_
      replace hm7 := (hm5.trans hm6).trans hm7
      clear hm5 hm6 hcall
      have hw : IntKind.i64.wrap ((i : Int) + 1) = (i : Int) + 1 := wrap64 (by omega) (by omega)
      have hjw : IntKind.i64.wrap ((j : Int) - 1) = ((j - 1 : Nat) : Int) := by rw [wrap64 (by omega) (by omega)]; omega
      by_cases hlt : ¬ C y P < 0
      · simp [hlt, hjw]
        obtain ⟨q, rfl⟩ : ∃ q', q = q' + 1 := ⟨q - 1, by omega⟩
        refine ⟨q, by omega, (hI _ _ _).2 ⟨i, j - 1, by have := hP.ia; omega, by simp [hjw], hm.trans hm7, hP.down hij hy hlt, by omega, he.imp (fun h => by omega) id⟩⟩
      · have hlt := Decidable.of_not_not hlt
        simp [hlt]
        exact (hJ _ _).2 ⟨i, j, by simp, hm.trans hm7, hP, hbd, he, .inr ⟨_, hy, hlt⟩⟩
    · have hij' : ¬ (i : Int) ≤ j := by omega
      simp [hij']
      intro _ _
      refine D_Xg rfl rfl (b := false) (by simp) (fun h => by cases h) (fun _ m5 hm5 _ => ⟨by simp [lateOf], ?_⟩)
      refine D_pre 14 3 [] (by simp only [List.drop_zero, List.drop_succ_cons, List.take_succ_cons, List.take_zero]; rfl) rfl rfl (fun _ _ => trivial) ?_
      simp
      intro _ _
      refine D_end fun m7 hm7 _ => ?_
      simp
      exact (hJ _ _).2 ⟨i, j, by simp, hm.trans (hm5.trans hm7), hP, hbd, he, .inl hij⟩
  intro f m3 hJ2
  obtain ⟨i, j, hf, hmS, hP, hbd, he1, he2⟩ := (hJ _ _).1 hJ2
  clear hJ2 hJ
  replace hY := hY.mono hmS
  replace hm0 := hm0.trans hmS
  replace hch := hch.trans (.of_prefix hmS)
  clear hmS
  simp [hf]
  refine bbind_dec (fun hgt => ?_) fun hgt => ?_
  · simp
    obtain rfl : i = j + 1 := by have := hP.ij; omega
    have hjl : j < ys.length := by rw [hP.sh.len]; have := hP.jb; omega
    have hsl : s < ys.length := by rw [hP.sh.len]; omega
    obtain ⟨xA, xB, bA, oA, bB, oB, hxA, hxB, hpA, hpB, hlA, hlB, hrest⟩ := swapMem hY (i := j) (j := s) hjl hsl
    refine W_draw (fun _ _ _ => True) (by simp [maxDst]) ?_
    refine D_pre 0 13 [13, 14, 15] (by simp only [List.drop_zero, List.drop_succ_cons, List.take_succ_cons, List.take_zero]; rfl) rfl rfl (fun _ _ => trivial) ?_
    simp [hpA, hlA, hpB, hlB]
    intro _ _
    refine D_W rfl rfl fun m8 hm8 _ => ?_
    obtain ⟨m9, hst9, hrest⟩ := hrest m8 hm8
    simp [hst9]
    refine D_pre 14 1 [15] (by simp only [List.drop_zero, List.drop_succ_cons, List.take_succ_cons, List.take_zero]; rfl) rfl rfl (fun _ _ => trivial) ?_
    simp [hpB]
    intro _ _
    refine D_W rfl rfl fun m10 hm10 _ => ?_
    obtain ⟨m11, hst11, hrest⟩ := hrest m10 hm10
    simp [hst11]
    refine D_end fun m4 hm12 _ => ?_
    obtain ⟨hcS, hYS⟩ := hrest m4 hm12
    clear hst9 hst11 hrest hlA hlB hm8 hm10 hm12
    have hxP := hP.pa
    rw [hxB] at hxP
    have hxP : xB = P := Option.some.inj hxP
    subst hxP
    simp
    refine ⟨hcS.pre hm0 fun b hb h => by have := (hY.blk_lo h).1; omega, hch.trans hcS, _, j, rfl, hYS, hP.done hxA⟩
  obtain ⟨xi, hxi, hci⟩ := he1.resolve_left (fun h => h (by omega))
  obtain ⟨xj, hxj, hcj⟩ := he2.resolve_left (fun h => h (by omega))
  obtain ⟨hPS, hlt⟩ := hP.swap (by omega) hxi hxj hci hcj
  have hil : i < ys.length := (List.getElem?_eq_some_iff.1 hxi).1
  have hjl : j < ys.length := (List.getElem?_eq_some_iff.1 hxj).1
  have hjb := hP.jb
  simp
  obtain ⟨xA, xB, bA, oA, bB, oB, hxA, hxB, hpA, hpB, hlA, hlB, hrest⟩ := swapMem hY (i := i) (j := j) hil hjl
  refine W_draw (fun _ _ _ => True) (by simp [maxDst]) ?_
  refine D_pre 0 13 [13, 14, 15] (by simp only [List.drop_zero, List.drop_succ_cons, List.take_succ_cons, List.take_zero]; rfl) rfl rfl (fun _ _ => trivial) ?_
  simp [hpA, hlA, hpB, hlB]
  intro _ _
  refine D_W rfl rfl fun m8 hm8 _ => ?_
  obtain ⟨m9, hst9, hrest⟩ := hrest m8 hm8
  simp [hst9]
  refine D_pre 14 1 [15] (by simp only [List.drop_zero, List.drop_succ_cons, List.take_succ_cons, List.take_zero]; rfl) rfl rfl (fun _ _ => trivial) ?_
  simp [hpB]
  intro _ _
  refine D_W rfl rfl fun m10 hm10 _ => ?_
  obtain ⟨m11, hst11, hrest⟩ := hrest m10 hm10
  simp [hst11]
  refine D_end fun m4 hm12 _ => ?_
  obtain ⟨hcS, hYS⟩ := hrest m4 hm12
  clear hst9 hst11 hrest hlA hlB hm8 hm10 hm12
  rw [hxi] at hxA
  rw [hxj] at hxB
  cases hxA
  cases hxB
  have hw : IntKind.i64.wrap ((i : Int) + 1) = (i : Int) + 1 := wrap64 (by omega) (by omega)
  have hjw : IntKind.i64.wrap ((j : Int) - 1) = ((j - 1 : Nat) : Int) := by rw [wrap64 (by omega) (by omega)]; omega
  have hm0' := hcS.pre hm0 fun b hb h => by have := (hY.blk_lo h).1; omega
  have hch' := hch.trans hcS
  simp [hw, hjw]
  obtain ⟨K, hK⟩ : ∃ K : Nat → AFrame → AMem → Prop, ∀ q f m', K q f m' ↔ (∃ (i j : Nat) (ys : List Int), i + q = j + 1 ∧ f = h155_2 t (.int .i64 s) (.func (.func g) fs cs) (.int .i64 i) (.int .i64 j) ∧ m0 <+: m' ∧ Ch (fun b => t.blk = some b) m m' ∧ OwL (AVal.int .i64) lo m' ty t ys ∧ Part C xs s e P ys i j) := ⟨_, fun _ _ _ => Iff.rfl⟩
  refine W_loop K (j - 1 + 1 - (i + 1)) ((hK _ _ _).2 ⟨i + 1, j - 1, _, by omega, by simp, hm0', hch', hYS, hPS⟩) ?_
  clear hPS hP hY hYS hm0 hm0' hch hch' hcS hxi hxj he1 he2 hil hjl hpA hpB hP0
  rintro Q f m4 hIn
  obtain ⟨i, j, ys, hq, rfl, hm0, hch, hY, hP⟩ := (hK _ _ _).1 hIn
  clear hIn
  simp
  obtain ⟨J, hJ⟩ : ∃ J : AFrame → AMem → Prop, ∀ f m', J f m' ↔ (∃ (i j : Nat), f.forget [0, 1, 4, 12, 13] = mat 178 [(0, t), (1, .int .i64 s), (4, .func (.func g) fs cs), (12, .int .i64 i), (13, .int .i64 j)] ∧ m4 <+: m' ∧ Part C xs s e P ys i j ∧ j + 1 ≤ i + Q ∧ (¬ i ≤ j ∨ ∃ x, ys[i]? = some x ∧ ¬ C x P < 0)) := ⟨_, fun _ _ => Iff.rfl⟩
  refine W_JB J ?_ ?_
  · obtain ⟨I, hI⟩ : ∃ I : Nat → AFrame → AMem → Prop, ∀ q f m', I q f m' ↔ (∃ (i j : Nat), i + q = j + 1 ∧ f = h155_3 t (.int .i64 s) (.func (.func g) fs cs) (.int .i64 i) (.int .i64 j) ∧ m4 <+: m' ∧ Part C xs s e P ys i j ∧ j + 1 ≤ i + Q ∧ True) := ⟨_, fun _ _ _ => Iff.rfl⟩
    refine W_loop I (j + 1 - i) ((hI _ _ _).2 ⟨i, j, by have := hP.ij; omega, by simp, List.prefix_refl _, hP, by omega, trivial⟩) ?_
    rintro q f m1 hIn
    obtain ⟨i, j, hq, rfl, hm, hP, hbd, he⟩ := (hI _ _ _).1 hIn
    clear hIn
    have hia := hP.ia
    have hjb := hP.jb
    have hYm := hY.mono hm
    have hD := hDy _ hP.sh
    simp
    refine W_draw (fun _ _ _ => True) (by simp [maxDst]) ?_
    refine D_pre 0 13 [13, 14, 15] (by simp only [List.drop_zero, List.drop_succ_cons, List.take_succ_cons, List.take_zero]; rfl) rfl rfl (fun _ _ => trivial) ?_
    by_cases hij : i ≤ j
    · have hij' : (i : Int) ≤ j := by omega
      have hyl : i < ys.length := by rw [hP.sh.len]; omega
      have hsl : s < ys.length := by rw [hP.sh.len]; omega
      obtain ⟨bi, oi, _, hpi, hli, _⟩ := hYm.at hyl
      obtain ⟨ba, oa, _, hpa, hla, _⟩ := hYm.at hsl
      have hy : ys[i]? = some ys[i] := List.getElem?_eq_getElem hyl
      have hPa := hP.pa
      rw [List.getElem?_eq_getElem hsl] at hPa
      have hPa : ys[s] = P := Option.some.inj hPa
      rw [hPa] at hla
      have hDy1 := hD _ (List.getElem_mem hyl)
      have hDP : D P := by rw [← hPa]; exact hD _ (List.getElem_mem hsl)
      generalize ys[i] = y at *
      simp [hij', hpi, hli, hpa, hla]
      intro _ _
      refine D_Xg rfl rfl (b := true) (by simp) (fun _ m5 hm5 _ => ?_) (fun h => absurd rfl h)
      simp
      have hcall := hcmp y P hDy1 hDP m5 (hm0.trans (hm.trans hm5))
      simp at hcall
      refine C_of hcall ?_
      rintro _ m6 ⟨rfl, hm6⟩
      refine ⟨by simp [lateOf], ?_⟩
      refine D_pre 14 2 [] (by simp only [List.drop_zero, List.drop_succ_cons, List.take_succ_cons, List.take_zero]; rfl) rfl rfl (fun _ _ => trivial) ?_
      simp
      intro _ _
      refine D_end fun m7 hm7 _ => ?_
      replace hm7 := (hm5.trans hm6).trans hm7
      clear hm5 hm6 hcall
      have hw : IntKind.i64.wrap ((i : Int) + 1) = (i : Int) + 1 := wrap64 (by omega) (by omega)
      have hjw : IntKind.i64.wrap ((j : Int) - 1) = ((j - 1 : Nat) : Int) := by rw [wrap64 (by omega) (by omega)]; omega
      by_cases hlt : C y P < 0
      · simp [hlt, hw]
        obtain ⟨q, rfl⟩ : ∃ q', q = q' + 1 := ⟨q - 1, by omega⟩
        refine ⟨q, by omega, (hI _ _ _).2 ⟨i + 1, j, by omega, by simp, hm.trans hm7, hP.up hij hy hlt, by omega, he⟩⟩
      · simp [hlt]
        exact (hJ _ _).2 ⟨i, j, by simp, hm.trans hm7, hP, hbd, .inr ⟨_, hy, hlt⟩⟩
    · have hij' : ¬ (i : Int) ≤ j := by omega
      simp [hij']
      intro _ _
      refine D_Xg rfl rfl (b := false) (by simp) (fun h => by cases h) (fun _ m5 hm5 _ => ⟨by simp [lateOf], ?_⟩)
      refine D_pre 14 2 [] (by simp only [List.drop_zero, List.drop_succ_cons, List.take_succ_cons, List.take_zero]; rfl) rfl rfl (fun _ _ => trivial) ?_
      simp
      intro _ _
      refine D_end fun m7 hm7 _ => ?_
      simp
      exact (hJ _ _).2 ⟨i, j, by simp, hm.trans (hm5.trans hm7), hP, hbd, .inl hij⟩
  intro f m5 hJ2
  obtain ⟨i, j, hf, hmS, hP, hbd, he⟩ := (hJ _ _).1 hJ2
  clear hJ2 hJ
  replace hY := hY.mono hmS
  replace hm0 := hm0.trans hmS
  replace hch := hch.trans (.of_prefix hmS)
  clear hmS
  simp [hf]
  obtain ⟨J, hJ⟩ : ∃ J : AFrame → AMem → Prop, ∀ f m', J f m' ↔ (∃ (i j : Nat), f.forget [0, 1, 4, 12, 13] = mat 178 [(0, t), (1, .int .i64 s), (4, .func (.func g) fs cs), (12, .int .i64 i), (13, .int .i64 j)] ∧ m5 <+: m' ∧ Part C xs s e P ys i j ∧ j + 1 ≤ i + Q ∧ (¬ i ≤ j ∨ ∃ x, ys[i]? = some x ∧ ¬ C x P < 0) ∧ (¬ i ≤ j ∨ ∃ x, ys[j]? = some x ∧ C x P < 0)) := ⟨_, fun _ _ => Iff.rfl⟩
  refine W_JB J ?_ ?_
  · obtain ⟨I, hI⟩ : ∃ I : Nat → AFrame → AMem → Prop, ∀ q f m', I q f m' ↔ (∃ (i j : Nat), i + q = j + 1 ∧ f = h155_4 t (.int .i64 s) (.func (.func g) fs cs) (.int .i64 i) (.int .i64 j) ∧ m5 <+: m' ∧ Part C xs s e P ys i j ∧ j + 1 ≤ i + Q ∧ (¬ i ≤ j ∨ ∃ x, ys[i]? = some x ∧ ¬ C x P < 0)) := ⟨_, fun _ _ _ => Iff.rfl⟩
    refine W_loop I (j + 1 - i) ((hI _ _ _).2 ⟨i, j, by have := hP.ij; omega, by simp, List.prefix_refl _, hP, by omega, he⟩) ?_
    rintro q f m1 hIn
    obtain ⟨i, j, hq, rfl, hm, hP, hbd, he⟩ := (hI _ _ _).1 hIn
    clear hIn
    have hia := hP.ia
    have hjb := hP.jb
    have hYm := hY.mono hm
    have hD := hDy _ hP.sh
    simp
    refine W_draw (fun _ _ _ => True) (by simp [maxDst]) ?_
    refine D_pre 0 13 [13, 14, 15, 16] (by simp only [List.drop_zero, List.drop_succ_cons, List.take_succ_cons, List.take_zero]; rfl) rfl rfl (fun _ _ => trivial) ?_
    by_cases hij : i ≤ j
    · have hij' : (i : Int) ≤ j := by omega
      have hyl : j < ys.length := by rw [hP.sh.len]; omega
      have hsl : s < ys.length := by rw [hP.sh.len]; omega
      obtain ⟨bi, oi, _, hpi, hli, _⟩ := hYm.at hyl
      obtain ⟨ba, oa, _, hpa, hla, _⟩ := hYm.at hsl
      have hy : ys[j]? = some ys[j] := List.getElem?_eq_getElem hyl
      have hPa := hP.pa
      rw [List.getElem?_eq_getElem hsl] at hPa
      have hPa : ys[s] = P := Option.some.inj hPa
      rw [hPa] at hla
      have hDy1 := hD _ (List.getElem_mem hyl)
      have hDP : D P := by rw [← hPa]; exact hD _ (List.getElem_mem hsl)
      generalize ys[j] = y at *
      simp [hij', hpi, hli, hpa, hla]
      intro _ _
      refine D_Xg rfl rfl (b := true) (by simp) (fun _ m5 hm5 _ => ?_) (fun h => absurd rfl h)
      simp
      have hcall := hcmp y P hDy1 hDP m5 (hm0.trans (hm.trans hm5))
      simp at hcall
      refine C_of hcall ?_
      rintro _ m6 ⟨rfl, hm6⟩
      refine ⟨by simp [lateOf], ?_⟩
      refine D_pre 14 3 [] (by simp only [List.drop_zero, List.drop_succ_cons, List.take_succ_cons, List.take_zero]; rfl) rfl rfl (fun _ _ => trivial) ?_
      simp
      intro _ _
      refine D_end fun m7 hm7 _ => ?_
      replace hm7 := (hm5.trans hm6).trans hm7
      clear hm5 hm6 hcall
      have hw : IntKind.i64.wrap ((i : Int) + 1) = (i : Int) + 1 := wrap64 (by omega) (by omega)
      have hjw : IntKind.i64.wrap ((j : Int) - 1) = ((j - 1 : Nat) : Int) := by rw [wrap64 (by omega) (by omega)]; omega
      by_cases hlt : ¬ C y P < 0
      · simp [hlt, hjw]
        obtain ⟨q, rfl⟩ : ∃ q', q = q' + 1 := ⟨q - 1, by omega⟩
        refine ⟨q, by omega, (hI _ _ _).2 ⟨i, j - 1, by have := hP.ia; omega, by simp [hjw], hm.trans hm7, hP.down hij hy hlt, by omega, he.imp (fun h => by omega) id⟩⟩
      · have hlt := Decidable.of_not_not hlt
        simp [hlt]
        exact (hJ _ _).2 ⟨i, j, by simp, hm.trans hm7, hP, hbd, he, .inr ⟨_, hy, hlt⟩⟩
    · have hij' : ¬ (i : Int) ≤ j := by omega
      simp [hij']
      intro _ _
      refine D_Xg rfl rfl (b := false) (by simp) (fun h => by cases h) (fun _ m5 hm5 _ => ⟨by simp [lateOf], ?_⟩)
      refine D_pre 14 3 [] (by simp only [List.drop_zero, List.drop_succ_cons, List.take_succ_cons, List.take_zero]; rfl) rfl rfl (fun _ _ => trivial) ?_
      simp
      intro _ _
      refine D_end fun m7 hm7 _ => ?_
      simp
      exact (hJ _ _).2 ⟨i, j, by simp, hm.trans (hm5.trans hm7), hP, hbd, he, .inl hij⟩
  intro f m6 hJ2
  obtain ⟨i, j, hf, hmS, hP, hbd, he1, he2⟩ := (hJ _ _).1 hJ2
  clear hJ2 hJ
  replace hY := hY.mono hmS
  replace hm0 := hm0.trans hmS
  replace hch := hch.trans (.of_prefix hmS)
  clear hmS
  simp [hf]
  refine bbind_dec (fun hgt => ?_) fun hgt => ?_
  · simp
    obtain rfl : i = j + 1 := by have := hP.ij; omega
    have hjl : j < ys.length := by rw [hP.sh.len]; have := hP.jb; omega
    have hsl : s < ys.length := by rw [hP.sh.len]; omega
    obtain ⟨xA, xB, bA, oA, bB, oB, hxA, hxB, hpA, hpB, hlA, hlB, hrest⟩ := swapMem hY (i := j) (j := s) hjl hsl
    refine W_draw (fun _ _ _ => True) (by simp [maxDst]) ?_
    refine D_pre 0 13 [13, 14, 15] (by simp only [List.drop_zero, List.drop_succ_cons, List.take_succ_cons, List.take_zero]; rfl) rfl rfl (fun _ _ => trivial) ?_
    simp [hpA, hlA, hpB, hlB]
    intro _ _
    refine D_W rfl rfl fun m8 hm8 _ => ?_
    obtain ⟨m9, hst9, hrest⟩ := hrest m8 hm8
    simp [hst9]
    refine D_pre 14 1 [15] (by simp only [List.drop_zero, List.drop_succ_cons, List.take_succ_cons, List.take_zero]; rfl) rfl rfl (fun _ _ => trivial) ?_
    simp [hpB]
    intro _ _
    refine D_W rfl rfl fun m10 hm10 _ => ?_
    obtain ⟨m11, hst11, hrest⟩ := hrest m10 hm10
    simp [hst11]
    refine D_end fun m4 hm12 _ => ?_
    obtain ⟨hcS, hYS⟩ := hrest m4 hm12
    clear hst9 hst11 hrest hlA hlB hm8 hm10 hm12
    have hxP := hP.pa
    rw [hxB] at hxP
    have hxP : xB = P := Option.some.inj hxP
    subst hxP
    simp
    refine ⟨hcS.pre hm0 fun b hb h => by have := (hY.blk_lo h).1; omega, hch.trans hcS, _, j, rfl, hYS, hP.done hxA⟩
  obtain ⟨xi, hxi, hci⟩ := he1.resolve_left (fun h => h (by omega))
  obtain ⟨xj, hxj, hcj⟩ := he2.resolve_left (fun h => h (by omega))
  obtain ⟨hPS, hlt⟩ := hP.swap (by omega) hxi hxj hci hcj
  have hil : i < ys.length := (List.getElem?_eq_some_iff.1 hxi).1
  have hjl : j < ys.length := (List.getElem?_eq_some_iff.1 hxj).1
  have hjb := hP.jb
  simp
  obtain ⟨xA, xB, bA, oA, bB, oB, hxA, hxB, hpA, hpB, hlA, hlB, hrest⟩ := swapMem hY (i := i) (j := j) hil hjl
  refine W_draw (fun _ _ _ => True) (by simp [maxDst]) ?_
  refine D_pre 0 13 [13, 14, 15] (by simp only [List.drop_zero, List.drop_succ_cons, List.take_succ_cons, List.take_zero]; rfl) rfl rfl (fun _ _ => trivial) ?_
  simp [hpA, hlA, hpB, hlB]
  intro _ _
  refine D_W rfl rfl fun m8 hm8 _ => ?_
  obtain ⟨m9, hst9, hrest⟩ := hrest m8 hm8
  simp [hst9]
  refine D_pre 14 1 [15] (by simp only [List.drop_zero, List.drop_succ_cons, List.take_succ_cons, List.take_zero]; rfl) rfl rfl (fun _ _ => trivial) ?_
  simp [hpB]
  intro _ _
  refine D_W rfl rfl fun m10 hm10 _ => ?_
  obtain ⟨m11, hst11, hrest⟩ := hrest m10 hm10
  simp [hst11]
  refine D_end fun m4 hm12 _ => ?_
  obtain ⟨hcS, hYS⟩ := hrest m4 hm12
  clear hst9 hst11 hrest hlA hlB hm8 hm10 hm12
  rw [hxi] at hxA
  rw [hxj] at hxB
  cases hxA
  cases hxB
  have hw : IntKind.i64.wrap ((i : Int) + 1) = (i : Int) + 1 := wrap64 (by omega) (by omega)
  have hjw : IntKind.i64.wrap ((j : Int) - 1) = ((j - 1 : Nat) : Int) := by rw [wrap64 (by omega) (by omega)]; omega
  have hm0' := hcS.pre hm0 fun b hb h => by have := (hY.blk_lo h).1; omega
  have hch' := hch.trans hcS
  simp [hw, hjw]
  exact ⟨j - 1 + 1 - (i + 1), by omega, (hK _ _ _).2 ⟨i + 1, j - 1, _, by omega, by simp, hm0', hch', hYS, hPS⟩⟩
end Go.Proofs.YtheadodblifklaaGreat

namespace Go.Proofs.YtheadodblifklaaGreat
open Go Ax
set_option maxRecDepth 100000
theorem w185 {args : List AVal} {m : AMem} {R : AVal → AMem → Prop} (h : W Tryz.prog (.seq (.reg [⟨some 10,.P (.mov (.c (.int .i64 0))),none⟩,⟨some 11,.P (.mov (.c (.int .i64 0))),none⟩]) (.kill [0,1,2,3,4] (.seq (.seq (.draw true [⟨some 12,.P (.mov (.t 4)),none⟩,⟨some 13,.P (.mov (.t 0)),none⟩,⟨some 14,.P (.mov (.t 2)),none⟩,⟨some 15,.P (.iaddr 1 (.t 13) (.t 14)),none⟩,⟨some 16,.R (.load 1 false (.t 15)),none⟩,⟨some 17,.P (.mov (.t 0)),none⟩,⟨some 18,.P (.mov (.t 1)),none⟩,⟨some 19,.P (.iaddr 1 (.t 17) (.t 18)),none⟩,⟨some 20,.R (.load 1 false (.t 19)),none⟩,⟨some 21,.C (.t 12) [(.t 16),(.t 20)],none⟩,⟨some 22,.P (.bin .lss (.t 21) (.c (.int .i64 0))),none⟩] [[],[],[],[],[],[],[],[],[],[],[9]] [[],[],[],[],[],[],[],[],[],[],[]] [0,1,2,3,4,5,6,7,8,9,10]) (.kill [1,2,3,22] (.cond (.t 22) (.seq (.reg [⟨some 23,.P (.mov (.t 3)),none⟩,⟨some 24,.P (.nilck (.t 23)),none⟩,⟨some 25,.R (.load 1 false (.t 24)),none⟩,⟨some 26,.P (.bin .add (.t 25) (.c (.int .i64 1))),none⟩,⟨some 27,.P (.nilck (.t 23)),none⟩,⟨none,.W (.store 1 (.t 27) (.t 26)),none⟩]) (.kill [1,2] (.seq (.reg [⟨some 28,.P (.mov (.t 2)),none⟩,⟨some 29,.P (.mov (.t 1)),none⟩,⟨some 10,.P (.mov (.t 28)),none⟩,⟨some 11,.P (.mov (.t 29)),none⟩]) .ret))) .skip))) (.kill [1,2] (.seq (.reg [⟨some 30,.P (.mov (.t 1)),none⟩,⟨some 31,.P (.mov (.t 2)),none⟩,⟨some 10,.P (.mov (.t 30)),none⟩,⟨some 11,.P (.mov (.t 31)),none⟩]) .ret))))) (E [(.tmp 10),(.tmp 11)] R .mk) .mk (mat 32 (sArgs 0 args)) m) (hl : Nat.ble args.length 32 = true := by rfl) : ACalls Tryz.prog 185 args m R := walk mix (by kernel_rfl) (Nat.le_of_ble_eq_true hl) h
end Go.Proofs.YtheadodblifklaaGreat
namespace Go.Proofs.YtheadodblifklaaGreat
open Go Ax
set_option maxRecDepth 100000
theorem k185 (t : AVal) (ty : TypeId) (lo : Nat) (m0 : AMem) (g : FuncId) (fs cs : List AVal) (C : Int → Int → Int) (D : Int → Prop) (hcmp : CmpOk m0 g fs cs D C) (xs : List Int) (hD : ∀ x ∈ xs, D x) (i j b3 : Nat) (k : Nat) (hi : i < xs.length) (hj : j < xs.length) (hk : k < 100) (m : AMem) (hm : m0 <+: m) (hX : OwL (AVal.int .i64) lo m ty t xs) (hb : m[b3]? = some (.own [.int .i64 k] 3 none)) :
    ACalls Tryz.prog 185 [t, .int .i64 i, .int .i64 j, .ptr b3 0, .func (.func g) fs cs] m fun v m' => Ch (fun b => b = b3) m m' ∧ ∃ (x y k' : Nat), v = .tuple [.int .i64 x, .int .i64 y] ∧ ((x = i ∧ y = j) ∨ (x = j ∧ y = i)) ∧ k' ≤ k + 1 ∧ m'[b3]? = some (.own [.int .i64 k'] 3 none) := by
  refine w185 ?_
  obtain ⟨bi, oi, _, hpi, hli, _⟩ := hX.at hi
  obtain ⟨bj, oj, _, hpj, hlj, _⟩ := hX.at hj
  have dx := hD _ (List.getElem_mem hi)
  have dy := hD _ (List.getElem_mem hj)
  generalize xs[i] = x at *
  generalize xs[j] = y at *
  simp
  refine W_draw (fun _ _ _ => True) (by simp [maxDst]) ?_
  refine D_pre 0 9 [9, 10] (by simp only [List.drop_zero, List.drop_succ_cons, List.take_succ_cons, List.take_zero]; rfl) rfl rfl (fun _ _ => trivial) ?_
  simp [hpi, hli, hpj, hlj]
  intro _ _
  refine D_X rfl rfl fun m5 hm5 _ => ?_
  simp
  have hcall := hcmp y x dy dx m5 (hm.trans hm5)
  simp at hcall
  refine C_of hcall ?_
  rintro _ m6 ⟨rfl, hm6⟩
  refine ⟨by simp [lateOf], ?_⟩
  refine D_pre 10 1 [] (by simp only [List.drop_zero, List.drop_succ_cons, List.take_succ_cons, List.take_zero]; rfl) rfl rfl (fun _ _ => trivial) ?_
  simp
  intro _ _
  refine D_end fun m7 hm7 _ => ?_
  have hm17 := (hm5.trans hm6).trans hm7
  have hb7 := own_mono hb hm17
  simp
  refine bbind_dec (fun hlt => ?_) fun hlt => ?_
  · obtain ⟨m8, hst, hb8, hch⟩ := fld_store (i := 0) (v := .int .i64 ((k : Int) + 1)) hb7 (by simp) rfl rfl
    have hw : IntKind.i64.wrap ((k : Int) + 1) = (k : Int) + 1 := wrap64 (by omega) (by omega)
    simp at hb8
    have hr7 := bx (own_read hb7) 0
    simp at hr7
    simp [POp.ev, hr7, hw, hst]
    exact ⟨(Ch.of_prefix hm17).trans hch, j, i, ⟨rfl, rfl⟩, by simp, k + 1, by omega, by simpa using hb8⟩
  · simp
    exact ⟨.of_prefix hm17, i, j, ⟨rfl, rfl⟩, by simp, k, by omega, hb7⟩
theorem k179 (t : AVal) (ty : TypeId) (lo : Nat) (m0 : AMem) (g : FuncId) (fs cs : List AVal) (C : Int → Int → Int) (D : Int → Prop) (hcmp : CmpOk m0 g fs cs D C) (xs : List Int) (hD : ∀ x ∈ xs, D x) (R : Nat → Prop) (hR : ∀ i, R i → i < xs.length) (i j k b3 : Nat) (hi : R i) (hj : R j) (hk : R k) (m : AMem) (hm : m0 <+: m) (hm3 : m0.length ≤ b3) (hX : OwL (AVal.int .i64) lo m ty t xs) (ht : ∀ b, t.blk = some b → b ≠ b3) (hb : m[b3]? = some (.own [.int .i64 0] 3 none)) :
    ACalls Tryz.prog 179 [t, .int .i64 i, .int .i64 j, .int .i64 k, .ptr b3 0, .func (.func g) fs cs] m fun v m' => Ch (fun b => b = b3) m m' ∧ ∃ (x k' : Nat), v = .int .i64 x ∧ R x ∧ k' ≤ 3 ∧ m'[b3]? = some (.own [.int .i64 k'] 3 none) := by
  refine w179 ?_
  simp
  refine C_of (k185 t ty lo m0 g fs cs C D hcmp xs hD i j b3 0 (hR i hi) (hR j hj) (by omega) m hm hX (by simpa using hb)) ?_
  rintro _ m1 ⟨hc1, x1, y1, n1, rfl, hxy, hn1, hb1⟩
  have r1 : R x1 ∧ R y1 := by rcases hxy with ⟨rfl, rfl⟩ | ⟨rfl, rfl⟩ <;> exact ⟨‹_›, ‹_›⟩
  have hm1 := hc1.pre hm fun b hb e => by omega
  have hX1 := hX.ch hc1 fun b hb e => ht b hb e
  simp
  refine C_of (k185 t ty lo m0 g fs cs C D hcmp xs hD y1 k b3 n1 (hR _ r1.2) (hR k hk) (by omega) m1 hm1 hX1 hb1) ?_
  rintro _ m2 ⟨hc2, x2, y2, n2, rfl, hxy2, hn2, hb2⟩
  have r2 : R x2 ∧ R y2 := by
    rcases hxy2 with ⟨rfl, rfl⟩ | ⟨rfl, rfl⟩
    · exact ⟨r1.2, hk⟩
    · exact ⟨hk, r1.2⟩
  have hm2 := hc2.pre hm1 fun b hb e => by omega
  have hX2 := hX1.ch hc2 fun b hb e => ht b hb e
  simp
  refine C_of (k185 t ty lo m0 g fs cs C D hcmp xs hD x1 x2 b3 n2 (hR _ r1.1) (hR _ r2.1) (by omega) m2 hm2 hX2 hb2) ?_
  rintro _ m3 ⟨hc3, x3, y3, n3, rfl, hxy3, hn3, hb3⟩
  have r3 : R y3 := by
    rcases hxy3 with ⟨rfl, rfl⟩ | ⟨rfl, rfl⟩
    · exact r2.1
    · exact r1.1
  simp
  exact ⟨(hc1.trans hc2).trans hc3, y3, rfl, r3, n3, by omega, hb3⟩
set_option maxHeartbeats 2000000 in
theorem k151 (t : AVal) (ty : TypeId) (lo : Nat) (m0 : AMem) (g : FuncId) (fs cs : List AVal) (C : Int → Int → Int) (D : Int → Prop) (hcmp : CmpOk m0 g fs cs D C) (xs : List Int) (hD : ∀ x ∈ xs, D x) (s e : Nat) (hse : s + 8 ≤ e) (h50 : e < s + 50) (hel : e ≤ xs.length) (hn : xs.length < 2 ^ 61) (m : AMem) (hm : m0 <+: m) (hX : OwL (AVal.int .i64) lo m ty t xs) :
    ACalls Tryz.prog 151 [t, .int .i64 s, .int .i64 e, .func (.func g) fs cs] m fun v m' => m <+: m' ∧ ∃ (p : Nat) (h : Int), v = .tuple [.int .i64 p, .int .i64 h] ∧ s ≤ p ∧ p < e ∧ h ≠ 2 := by
  have hw : IntKind.i64.wrap ((e : Int) - s) = ((e - s : Nat) : Int) := by rw [wrap64 (by omega) (by omega)]; omega
  obtain ⟨Q, hQ⟩ : ∃ Q : Nat, Q = (e - s) / 4 := ⟨_, rfl⟩
  have hq0 : ((e - s : Nat) : Int) / 4 = (Q : Int) := by omega
  have hq1 : IntKind.i64.wrap (Q : Int) = (Q : Int) := wrap64 (by omega) (by omega)
  have hq2 : IntKind.i64.wrap ((Q : Int) * 2) = (Q : Int) * 2 := wrap64 (by omega) (by omega)
  have hq3 : IntKind.i64.wrap ((Q : Int) * 3) = (Q : Int) * 3 := wrap64 (by omega) (by omega)
  have hs1 : IntKind.i64.wrap ((s : Int) + Q) = ((s + Q : Nat) : Int) := by rw [wrap64 (by omega) (by omega)]; omega
  have hs2 : IntKind.i64.wrap ((s : Int) + (Q : Int) * 2) = ((s + Q * 2 : Nat) : Int) := by rw [wrap64 (by omega) (by omega)]; omega
  have hs3 : IntKind.i64.wrap ((s : Int) + (Q : Int) * 3) = ((s + Q * 3 : Nat) : Int) := by rw [wrap64 (by omega) (by omega)]; omega
  have h8 : (8 : Int) ≤ ((e - s : Nat) : Int) := by omega
  have h50' : ¬ (50 : Int) ≤ ((e - s : Nat) : Int) := by omega
  generalize hN : ((e - s : Nat) : Int) = N at *
  have hq0' : N.tdiv 4 = (Q : Int) := by rw [Int.tdiv_eq_ediv_of_nonneg (by omega)]; exact hq0
  refine w151 ?_
  simp [hw, hq0', hq1, hq2, hq3, hs1, hs2, hs3, h8, h50']
  have hb := (by simp : (m ++ [ABlk.own [.int .i64 0] 3 none])[m.length]? = some (.own [.int .i64 0] 3 none))
  have hm1 : m <+: m ++ [ABlk.own [.int .i64 0] 3 none] := List.prefix_append _ _
  have hb3 := hm.length_le
  have htb : ∀ b, t.blk = some b → b ≠ m.length := fun b hb e => by have := (hX.blk_lo hb).2; omega
  have hcall := k179 t ty lo m0 g fs cs C D hcmp xs hD (fun i => s ≤ i ∧ i < e) (fun i h => by omega) (s + Q) (s + Q * 2) (s + Q * 3) m.length (by omega) (by omega) (by omega) _ (hm.trans hm1) hb3 (hX.mono hm1) htb hb
  refine C_of hcall ?_
  rintro _ m2 ⟨hc, x, k, rfl, ⟨hx1, hx2⟩, hk, hb2⟩
  have hm2 : m <+: m2 := hc.pre hm1 fun b hb e => by omega
  have hr2 := bx (own_read hb2) 0
  simp at hr2
  simp [hr2]
  by_cases h0 : k = 0
  · subst h0
    simp
    exact ⟨hm2, x, 1, ⟨rfl, rfl⟩, hx1, hx2, by omega⟩
  · have h0' : ¬ (k : Int) = 0 := by omega
    have h12 : ¬ (k : Int) = 12 := by omega
    simp [beqF h0', beqF h12]
    exact ⟨hm2, x, 0, ⟨rfl, rfl⟩, hx1, hx2, by omega⟩
end Go.Proofs.YtheadodblifklaaGreat

namespace Go.Proofs.YtheadodblifklaaGreat
open Go Ax
set_option maxRecDepth 100000
set_option maxHeartbeats 4000000 in
theorem k153 (t : AVal) (ty : TypeId) (lo : Nat) (m0 : AMem) (g : FuncId) (fs cs : List AVal) (C : Int → Int → Int) (D : Int → Prop) (hC : Ord C D) (hcmp : CmpOk m0 g fs cs D C) (xs : List Int) (hD : ∀ x ∈ xs, D x) (s e : Nat) (hse : s + 1 ≤ e) (h50 : e < s + 50) (hel : e ≤ xs.length) (hn : xs.length < 2 ^ 61) (m : AMem) (hm : m0 <+: m) (hX : OwL (AVal.int .i64) lo m ty t xs) :
    ACalls Tryz.prog 153 [t, .int .i64 s, .int .i64 e, .func (.func g) fs cs] m fun v m' => m <+: m' ∧ ∃ b, v = .bool b ∧ (b = true → SortedR C xs s e) := by
  refine w153 ?_
  have hw1 : IntKind.i64.wrap ((s : Int) + 1) = ((s + 1 : Nat) : Int) := by rw [wrap64 (by omega) (by omega)]; omega
  have hwl : IntKind.i64.wrap ((e : Int) - s) = ((e - s : Nat) : Int) := by rw [wrap64 (by omega) (by omega)]; omega
  simp [hw1]
  refine W_loop (fun _ f m' => m' = m ∧ f = h153_0 t (.int .i64 s) (.int .i64 e) (.func (.func g) fs cs) (.int .i64 (s + 1 : Nat)) (.int .i64 0)) 0 ⟨rfl, by simp⟩ ?_
  rintro _ f m ⟨rfl, rfl⟩
  simp
  obtain ⟨J, hJ⟩ : ∃ J : AFrame → AMem → Prop, ∀ f m', J f m' ↔ (∃ (i : Nat), f.forget [0, 1, 2, 3, 9, 10] = mat 141 [(0, t), (1, .int .i64 s), (2, .int .i64 e), (3, .func (.func g) fs cs), (9, .int .i64 i), (10, .int .i64 0)] ∧ m <+: m' ∧ i ≤ e ∧ (∀ (k : Nat) x y, s ≤ k → k + 1 < i → xs[k]? = some x → xs[k + 1]? = some y → ¬ C y x < 0)) := ⟨_, fun _ _ => Iff.rfl⟩
  refine W_JB J ?_ ?_
  · obtain ⟨I, hI⟩ : ∃ I : Nat → AFrame → AMem → Prop, ∀ q f m', I q f m' ↔ (∃ (i : Nat), i + q = e ∧ s < i ∧ f = h153_1 t (.int .i64 s) (.int .i64 e) (.func (.func g) fs cs) (.int .i64 i) (.int .i64 0) ∧ m <+: m' ∧ (∀ (k : Nat) x y, s ≤ k → k + 1 < i → xs[k]? = some x → xs[k + 1]? = some y → ¬ C y x < 0)) := ⟨_, fun _ _ _ => Iff.rfl⟩
    refine W_loop I (e - (s + 1)) ((hI _ _ _).2 ⟨s + 1, by omega, by omega, by simp, List.prefix_refl _, fun k x y h1 h2 => by omega⟩) ?_
    rintro q f m1 hIn
    obtain ⟨i, hq, hsi, rfl, hm1, hs⟩ := (hI _ _ _).1 hIn
    clear hIn
    have hXm := hX.mono hm1
    simp
    refine W_draw (fun _ _ _ => True) (by simp [maxDst]) ?_
    refine D_pre 0 14 [14, 15, 16, 17] (by simp only [List.drop_zero, List.drop_succ_cons, List.take_succ_cons, List.take_zero]; rfl) rfl rfl (fun _ _ => trivial) ?_
    by_cases hie : i < e
    · have hie' : (i : Int) < e := by omega
      have hil : i < xs.length := by omega
      have hil1 : i - 1 < xs.length := by omega
      obtain ⟨bi, oi, _, hpi, hli, _⟩ := hXm.at hil
      obtain ⟨bp, op, _, hpp, hlp, _⟩ := hXm.at hil1
      have hxi : xs[i]? = some xs[i] := List.getElem?_eq_getElem hil
      have hxp : xs[i - 1]? = some xs[i - 1] := List.getElem?_eq_getElem hil1
      have dx := hD _ (List.getElem_mem hil)
      have dy := hD _ (List.getElem_mem hil1)
      generalize xs[i] = x at *
      generalize xs[i - 1] = y at *
      have hpw := pred64 (n := i) (by omega) (by omega)
      simp [hie', hpi, hli, hpw, hpp, hlp]
      intro _ _
      refine D_Xg rfl rfl (b := true) (by simp) (fun _ m5 hm5 _ => ?_) (fun h => absurd rfl h)
      simp
      have hcall := hcmp x y dx dy m5 (hm.trans (hm1.trans hm5))
      simp at hcall
      refine C_of hcall ?_
      rintro _ m6 ⟨rfl, hm6⟩
      refine ⟨by simp [lateOf], ?_⟩
      refine D_pre 15 3 [] (by simp only [List.drop_zero, List.drop_succ_cons, List.take_succ_cons, List.take_zero]; rfl) rfl rfl (fun _ _ => trivial) ?_
      simp
      intro _ _
      refine D_end fun m7 hm7 _ => ?_
      have hm17 := hm1.trans ((hm5.trans hm6).trans hm7)
      clear hcall
      by_cases hlt : C x y < 0
      · simp [hlt]
        exact (hJ _ _).2 ⟨i, by simp, hm17, by omega, hs⟩
      · have hw : IntKind.i64.wrap ((i : Int) + 1) = (i : Int) + 1 := wrap64 (by omega) (by omega)
        simp [hlt, hw]
        refine ⟨q - 1, by omega, (hI _ _ _).2 ⟨i + 1, by omega, by omega, by simp, hm17, fun k a b h1 h2 h3 h4 => ?_⟩⟩
        by_cases hk : k + 1 = i
        · subst hk
          simp only [Nat.add_sub_cancel] at hxp
          rw [hxp] at h3
          rw [hxi] at h4
          cases h3
          cases h4
          exact hlt
        · exact hs k a b h1 (by omega) h3 h4
    · have hie' : ¬ (i : Int) < e := by omega
      simp [hie']
      intro _ _
      refine D_Xg rfl rfl (b := false) (by simp) (fun h => by cases h) (fun _ m5 hm5 _ => ⟨by simp [lateOf], ?_⟩)
      refine D_pre 15 3 [] (by simp only [List.drop_zero, List.drop_succ_cons, List.take_succ_cons, List.take_zero]; rfl) rfl rfl (fun _ _ => trivial) ?_
      simp
      intro _ _
      refine D_end fun m7 hm7 _ => ?_
      simp
      exact (hJ _ _).2 ⟨i, by simp, hm1.trans (hm5.trans hm7), by omega, hs⟩
  · intro f m2 hJ2
    obtain ⟨i, hf, hm2, hie, hs⟩ := (hJ _ _).1 hJ2
    clear hJ2
    simp [hf]
    by_cases he : i = e
    · subst he
      simp
      exact ⟨hm2, sortedR_adj hC hD hel hs⟩
    · have he' : ¬ (i : Int) = e := by omega
      have h50' : ((e - s : Nat) : Int) < 50 := by omega
      generalize ((e - s : Nat) : Int) = N at *
      simp [beqF he', hwl, h50']
      exact hm2
end Go.Proofs.YtheadodblifklaaGreat

namespace Go.Proofs.YtheadodblifklaaGreat
open Go Ax
set_option maxRecDepth 100000
theorem k117r (t : AVal) (ty : TypeId) (lo : Nat) (m0 : AMem) (hlo : m0.length ≤ lo) (g : FuncId) (fs cs : List AVal) (C : Int → Int → Int) (D : Int → Prop) (hC : Ord C D) (hcmp : CmpOk m0 g fs cs D C) (xs : List Int) (hD : ∀ x ∈ xs, D x) (s n : Nat) (hsn : s + n ≤ xs.length) (hn : xs.length < 2 ^ 61) (h12 : n ≤ 12) (z : AVal) (m : AMem) (hm : m0 <+: m) (hX : OwL (AVal.int .i64) lo m ty t xs) :
    ACalls Tryz.prog 117 [t, .int .i64 s, .int .i64 (s + n : Nat), z, .func (.func g) fs cs] m fun _ m' => m0 <+: m' ∧ Ch (fun b => t.blk = some b) m m' ∧ ∃ ys, OwL (AVal.int .i64) lo m' ty t ys ∧ Shuf xs ys s (s + n) ∧ SortedR C ys s (s + n) := by
  refine w117 ?_
  generalize hse : s + n = e
  simp
  refine W_loop (fun _ a m' => m' = m ∧ ∃ x y, a = h117_0 t (.int .i64 s) (.int .i64 e) z (.func (.func g) fs cs) x y) 0 ⟨rfl, _, _, rfl⟩ ?_
  rintro _ a m ⟨rfl, x, y, rfl⟩
  have hw : IntKind.i64.wrap ((e : Int) - s) = (n : Int) := by rw [wrap64 (by omega) (by omega)]; omega
  have hle : (n : Int) ≤ 12 := by omega
  simp [hw, hle]
  have := k148r t ty lo m0 hlo g fs cs C D hC hcmp xs hD s n hsn hn m hm hX
  rw [hse] at this
  refine C_of this ?_
  rintro v m' h
  simp
  exact h
theorem obind_ixv {k : AVal → Prop} {t : Tag k} {s : AVal} {n z : Int} (hn : ixsE s (.int .u8 n) = some (.int .u8 z)) (h : k (.int .u8 z)) : obind k t (ixsE s (.int .u8 n)) := by
  rw [hn, obind_some]
  exact h
theorem k157_13 (m : AMem) : ACalls Tryz.prog 157 [.int .u64 13] m fun v m' => v = .int .i64 4 ∧ m' = m := by
  refine w157 ?_
  have hw : IntKind.u8.wrap (13 : Int) = 13 := by decide
  simp [hw]
  refine obind_ixv (z := 4) rfl ?_
  simp
  decide
theorem k118_13 (m : AMem) : ACalls Tryz.prog 118 [.int .u64 13] m fun v m' => v = .int .i64 4 ∧ m' = m := by
  refine w118 ?_
  simp
  refine C_of (k157_13 m) ?_
  rintro _ _ ⟨rfl, rfl⟩
  simp
set_option maxHeartbeats 8000000 in
theorem k117_13 (t : AVal) (ty : TypeId) (lo : Nat) (m0 : AMem) (hlo : m0.length ≤ lo) (g : FuncId) (fs cs : List AVal) (C : Int → Int → Int) (D : Int → Prop) (hC : Ord C D) (hcmp : CmpOk m0 g fs cs D C) (xs : List Int) (hD : ∀ x ∈ xs, D x) (h13 : xs.length = 13) (m : AMem) (hm : m0 <+: m) (hX : OwL (AVal.int .i64) lo m ty t xs) :
    ACalls Tryz.prog 117 [t, .int .i64 0, .int .i64 13, .int .i64 4, .func (.func g) fs cs] m fun _ m' => m0 <+: m' ∧ Ch (fun b => t.blk = some b) m m' ∧ ∃ ys, OwL (AVal.int .i64) lo m' ty t ys ∧ Shuf xs ys 0 13 ∧ SortedR C ys 0 13 := by
  refine w117 ?_
  simp
  obtain ⟨I, hI⟩ : ∃ I : Nat → AFrame → AMem → Prop, ∀ q f m', I q f m' ↔ ((q = 1 ∧ m' = m ∧ f = h117_0 t (.int .i64 0) (.int .i64 13) (.int .i64 4) (.func (.func g) fs cs) (.bool true) (.bool true)) ∨ (q = 0 ∧ ∃ (s n : Nat) (x y : AVal) (zs : List Int), f = h117_0 t (.int .i64 s) (.int .i64 (s + n : Nat)) (.int .i64 4) (.func (.func g) fs cs) x y ∧ m0 <+: m' ∧ Ch (fun b => t.blk = some b) m m' ∧ OwL (AVal.int .i64) lo m' ty t zs ∧ s + n ≤ 13 ∧ n ≤ 12 ∧ zs.Perm xs ∧ ∀ ws, Shuf zs ws s (s + n) → SortedR C ws s (s + n) → Shuf xs ws 0 13 ∧ SortedR C ws 0 13)) := ⟨_, fun _ _ _ => Iff.rfl⟩
  refine W_loop I 1 ((hI _ _ _).2 (.inl ⟨rfl, rfl, rfl⟩)) ?_
  rintro q f m1 hIn
  rcases (hI _ _ _).1 hIn with ⟨rfl, rfl, rfl⟩ | ⟨rfl, s, n, x, y, zs, rfl, hm1, hch, hZ, hs13, hn12, hperm, hfin⟩
  rotate_left
  · have hw : IntKind.i64.wrap (((s + n : Nat) : Int) - s) = (n : Int) := by rw [wrap64 (by omega) (by omega)]; omega
    have hle : (n : Int) ≤ 12 := by omega
    generalize hse : ((s + n : Nat) : Int) = e at *
    simp [hw, hle]
    have hzl := hperm.length_eq
    have := k148r t ty lo m0 hlo g fs cs C D hC hcmp zs (fun x hx => hD x (hperm.mem_iff.1 hx)) s n (by omega) (by omega) m1 hm1 hZ
    rw [hse] at this
    refine C_of this ?_
    rintro v m2 ⟨hm2, hc2, ws, hW, hsh, hsr⟩
    simp
    exact ⟨hm2, hch.trans hc2, ws, hW, hfin ws hsh hsr⟩
  · have hw : IntKind.i64.wrap (13 : Int) = 13 := by decide
    simp [hw]
    have hcp := k151 t ty lo m0 g fs cs C D hcmp xs hD 0 13 (by omega) (by omega) (by omega) (by omega) m1 hm hX
    simp at hcp
    refine C_of hcp ?_
    rintro _ m2 ⟨hm2, p, h, ⟨rfl, hp13, hh⟩⟩
    have hX2 := hX.mono hm2
    have hm02 := hm.trans hm2
    have hh2 : (h == (2 : Int)) = false := by simpa using hh
    simp [hh2]
    have hpi : ACalls Tryz.prog 153 [t, .int .i64 0, .int .i64 13, .func (.func g) fs cs] m2 fun v m' => m2 <+: m' ∧ ∃ b, v = .bool b ∧ (b = true → SortedR C xs 0 13) := k153 t ty lo m0 g fs cs C D hC hcmp xs hD 0 13 (by omega) (by omega) (by omega) (by omega) m2 hm02 hX2
    obtain ⟨J, hJ⟩ : ∃ J : AFrame → AMem → Prop, ∀ f m', J f m' ↔ (∃ (l : AVal) (w w' : AVal), f.forget [0, 1, 2, 3, 4, 10, 11, 12, 13] = mat 148 [(0, t), (1, .int .i64 0), (2, .int .i64 13), (3, .int .i64 4), (4, .func (.func g) fs cs), (10, w), (11, w'), (12, l), (13, .int .i64 p)] ∧ l = .int .i64 13 ∧ m2 <+: m') := ⟨_, fun _ _ => Iff.rfl⟩
    have hfull : ∀ m3, m2 <+: m3 → m0 <+: m3 ∧ Ch (fun b => t.blk = some b) m1 m3 := fun m3 h3 => ⟨hm02.trans h3, .of_prefix (hm2.trans h3)⟩
    refine bbind_J J ?_ ?_
    · refine bbind_intro (fun h1 => ?_) fun h1 => ?_
      · simp
        refine C_of hpi ?_
        rintro _ m3 ⟨hm3, b, rfl, hb⟩
        cases b
        · simp
          exact (hJ _ _).2 ⟨_, .bool true, .bool true, by simp, rfl, hm3⟩
        · simp
          exact ⟨(hfull m3 hm3).1, (hfull m3 hm3).2, xs, hX2.mono hm3, .refl _ _ _, hb rfl⟩
      · simp
        exact (hJ _ _).2 ⟨_, .bool true, .bool true, by simp, rfl, List.prefix_refl _⟩
    · intro f m3 hJ3
      obtain ⟨l, w, w', hf, rfl, hm3⟩ := (hJ _ _).1 hJ3
      clear hJ3 hpi hcp
      simp [hf]
      refine W_draw (fun _ _ _ => True) (by simp [maxDst]) ?_
      refine D_pre 0 13 [13, 14, 15, 16] (by simp only [List.drop_zero, List.drop_succ_cons, List.take_succ_cons, List.take_zero]; rfl) rfl rfl (fun _ _ => trivial) ?_
      simp
      intro _ _
      refine D_Xg rfl rfl (b := false) (by simp) (fun h => by cases h) (fun _ m5 hm5 _ => ⟨by simp [lateOf], ?_⟩)
      refine D_pre 14 3 [] (by simp only [List.drop_zero, List.drop_succ_cons, List.take_succ_cons, List.take_zero]; rfl) rfl rfl (fun _ _ => trivial) ?_
      simp
      intro _ _
      refine D_end fun m7 hm7 _ => ?_
      have hm27 := hm3.trans (hm5.trans hm7)
      simp
      have hpt : ACalls Tryz.prog 155 [t, .int .i64 0, .int .i64 13, .int .i64 p, .func (.func g) fs cs] m7 _ := k155 t ty lo m0 hlo g fs cs C D hcmp xs hD 0 13 p (by omega) hp13 (by omega) (by omega) m7 (hfull m7 hm27).1 (hX2.mono hm27)
      refine C_of hpt ?_
      rintro _ m8 ⟨hm8, hc8, ys, mid, b, rfl, hY, hP⟩
      have hma := hP.am
      have hmb := hP.mb
      have hch8 := (hfull m7 hm27).2.trans hc8
      have hDy : ∀ x ∈ ys, D x := fun x hx => hD x (hP.sh.perm.mem_iff.1 hx)
      have hyl := hP.sh.len
      have hw0 : IntKind.i64.wrap (mid : Int) = mid := wrap64 (by omega) (by omega)
      have hwr : IntKind.i64.wrap ((13 : Int) - mid) = ((13 - mid : Nat) : Int) := by rw [wrap64 (by omega) (by omega)]; omega
      have hw1 : IntKind.i64.wrap ((mid : Int) + 1) = ((mid + 1 : Nat) : Int) := by rw [wrap64 (by omega) (by omega)]; omega
      have hw8 : IntKind.i64.wrap (1 : Int) = 1 := by decide
      simp [hw0, hwr, hw8]
      refine bbind_dec (fun hlr => ?_) fun hlr => ?_
      · simp
        have hrec : ACalls Tryz.prog 117 [t, .int .i64 0, .int .i64 mid, .int .i64 4, .func (.func g) fs cs] m8 fun _ m' => m0 <+: m' ∧ Ch (fun b => t.blk = some b) m8 m' ∧ ∃ zs, OwL (AVal.int .i64) lo m' ty t zs ∧ Shuf ys zs 0 mid ∧ SortedR C zs 0 mid := by
          have := k117r t ty lo m0 hlo g fs cs C D hC hcmp ys hDy 0 mid (by omega) (by omega) (by omega) (.int .i64 4) m8 hm8 hY
          simpa using this
        refine C_of hrec ?_
        rintro _ m9 ⟨hm9, hc9, zs, hZ, hsz, hso⟩
        simp [hw1]
        have h13e : ((mid + 1 + (13 - (mid + 1)) : Nat) : Int) = 13 := by omega
        refine (hI _ _ _).2 (.inr ⟨rfl, mid + 1, 13 - (mid + 1), _, _, zs, by rw [h13e]; rfl, hm9, hch8.trans hc9, hZ, by omega, by omega, hsz.perm.trans hP.sh.perm, fun ws h1 h2 => ?_⟩)
        rw [show mid + 1 + (13 - (mid + 1)) = 13 by omega] at h1 h2
        exact hP.sorted hC hD hsz hso h1 h2
      · simp [hw1]
        have hrec : ACalls Tryz.prog 117 [t, .int .i64 (mid + 1 : Nat), .int .i64 13, .int .i64 4, .func (.func g) fs cs] m8 fun _ m' => m0 <+: m' ∧ Ch (fun b => t.blk = some b) m8 m' ∧ ∃ zs, OwL (AVal.int .i64) lo m' ty t zs ∧ Shuf ys zs (mid + 1) 13 ∧ SortedR C zs (mid + 1) 13 := by
          have := k117r t ty lo m0 hlo g fs cs C D hC hcmp ys hDy (mid + 1) (13 - (mid + 1)) (by omega) (by omega) (by omega) (.int .i64 4) m8 hm8 hY
          rw [show mid + 1 + (13 - (mid + 1)) = 13 by omega] at this
          exact this
        have hrec' := hrec
        simp only [Int.natCast_add, Int.cast_ofNat_Int] at hrec'
        refine C_of hrec' ?_
        rintro _ m9 ⟨hm9, hc9, zs, hZ, hsz, hso⟩
        simp
        refine (hI _ _ _).2 (.inr ⟨rfl, 0, mid, _, _, zs, by rw [Nat.zero_add]; rfl, hm9, hch8.trans hc9, hZ, by omega, by omega, hsz.perm.trans hP.sh.perm, fun ws h1 h2 => ?_⟩)
        rw [Nat.zero_add] at h1 h2
        exact hP.sorted2 hC hD hsz hso h1 h2
theorem k75 (t : AVal) (ty : TypeId) (lo : Nat) (m0 : AMem) (hlo : m0.length ≤ lo) (g : FuncId) (fs cs : List AVal) (C : Int → Int → Int) (D : Int → Prop) (hC : Ord C D) (hcmp : CmpOk m0 g fs cs D C) (xs : List Int) (hD : ∀ x ∈ xs, D x) (hn : xs.length ≤ 13) (m : AMem) (hm : m0 <+: m) (hX : OwL (AVal.int .i64) lo m ty t xs) :
    ACalls Tryz.prog 75 [t, .func (.func g) fs cs] m fun _ m' => m0 <+: m' ∧ Ch (fun b => t.blk = some b) m m' ∧ ∃ ys, OwL (AVal.int .i64) lo m' ty t ys ∧ ys.Perm xs ∧ SortedTo C ys ys.length := by
  by_cases h12 : xs.length ≤ 12
  · exact k75s t ty lo m0 hlo g fs cs C D hC hcmp xs hD h12 m hm hX
  have h13 : xs.length = 13 := by omega
  refine w75 ?_
  have hw : IntKind.u64.wrap (13 : Int) = 13 := by decide
  have hl := hX.len
  rw [h13] at hl
  have hl' : lenE t = some (.int .i64 13) := hl
  simp [hl', hw]
  refine C_of (k118_13 m) ?_
  rintro _ _ ⟨rfl, rfl⟩
  simp
  refine C_of (k117_13 t ty lo m0 hlo g fs cs C D hC hcmp xs hD h13 _ hm hX) ?_
  rintro v m' ⟨h1, h2, ys, h3, h4, h5⟩
  simp
  refine ⟨h1, h2, ys, h3, h4.perm, fun p q a b e1 e2 e3 e4 => h5 p q a b (by omega) e1 ?_ e3 e4⟩
  rw [h4.len, h13] at e2
  exact e2
end Go.Proofs.YtheadodblifklaaGreat

namespace Go.Proofs.YtheadodblifklaaGreat
open Go Ax
set_option maxRecDepth 100000
theorem k134 (b : Bool) (m : AMem) : ACalls Tryz.prog 134 [.bool b] m fun v m' => v = .int .i64 (if b then 1 else 0) ∧ m' = m := by
  refine w134 ?_
  cases b <;> simp
theorem k113 (b : Bool) (m : AMem) : ACalls Tryz.prog 113 [.bool b] m fun v m' => v = .int .i64 (if b then 1 else 0) ∧ m' = m := by
  refine w113 ?_
  cases b <;> simp
theorem kk_le (C : Int → Int → Int) (ys : List Int) : ∀ j, kk C ys j ≤ j
  | 0 => by simp [kk]
  | j + 1 => by have := kk_le C ys j; rw [kk]; split <;> omega
theorem perm_cells {m : AMem} {s : AVal} {lo : Nat} {ty : TypeId} {xs : List Nat} (h : OwL natI lo m ty s xs) : OwL (AVal.int .i64) lo m ty s (xs.map fun x : Nat => (x : Int)) := by
  unfold OwL at h ⊢
  rw [List.length_map, List.map_map]
  exact h
set_option maxHeartbeats 4000000 in
theorem k90 (n : Nat) (hn : n ≤ 13) (g : FuncId) (fs cs : List AVal) (C : Int → Int → Int) (m : AMem) (hC : Ord C (fun x => 0 ≤ x ∧ x < n)) (hcmp : CmpOk m g fs cs (fun x => 0 ≤ x ∧ x < n) C) :
    ACalls Tryz.prog 90 [.int .i64 n, .func (.func g) fs cs] m fun v m' => m <+: m' ∧ ∃ t ds k, v = .tuple [t, .int .i64 (k : Nat)] ∧ OwL natI m.length m' 3 t ds ∧ DenseOf n (fun a b => C a b < 0) ds k := by
  refine w90 ?_
  have hc1 : 8 * (n : Int) ≤ 281474976710656 := by omega
  have hc2 : (n : Int) ≤ 9223372036854775807 := by omega
  simp [hc1, hc2]
  have hX0 : OwL natI m.length (m ++ [.own (List.replicate n (.int .i64 0)) 3 none]) 3 (.slice m.length 0 n n none) (List.replicate n 0) := OwL.rep (f := natI) m 3 n 0
  have hm1 : m <+: m ++ [.own (List.replicate n (.int .i64 0)) 3 none] := List.prefix_append _ _
  have hbl : (AVal.slice m.length 0 n n none).blk = some m.length := rfl
  generalize AVal.slice m.length 0 n n none = t6 at *
  generalize m ++ [.own (List.replicate n (.int .i64 0)) 3 none] = m1 at *
  obtain ⟨I, hI⟩ : ∃ I : Nat → AFrame → AMem → Prop, ∀ q a m', I q a m' ↔ (∃ (i : Nat) (xs : List Nat), i + q = n ∧ a = h90_0 (.int .i64 n) (.func (.func g) fs cs) t6 (.int .i64 n) (.int .i64 i) ∧ m <+: m' ∧ OwL natI m.length m' 3 t6 xs ∧ xs.length = n ∧ ∀ (j : Nat), j < i → xs[j]? = some j) := ⟨_, fun _ _ _ => Iff.rfl⟩
  refine W_loop I n ((hI _ _ _).2 ⟨0, _, by simp, rfl, hm1, hX0, by simp, fun j hj => by omega⟩) ?_
  clear hX0 hm1
  rintro q a m2 hIn
  obtain ⟨i, xs, hk, rfl, hm2, hX, hxl, hxj⟩ := (hI _ _ _).1 hIn
  clear hIn
  simp
  refine bbind_dec (fun hin => ?_) fun hin => ?_
  · have hw := step64 hin (by omega)
    obtain ⟨q, rfl⟩ : ∃ q', q = q' + 1 := ⟨q - 1, by omega⟩
    obtain ⟨b6, o6, hb6, hp6, _, hst⟩ := hX.at (i := i) (by omega)
    obtain ⟨m3, hst3, hch3, hX3⟩ := hst i
    simp only [natI] at hst3
    simp [hp6, hst3, hw]
    refine ⟨q, by omega, (hI _ _ _).2 ⟨i + 1, xs.set i i, by omega, by simp, hch3.pre hm2 fun b hb => ?_, hX3, by simpa using hxl, fun j hj => ?_⟩⟩
    · have := (hX.blk_lo hb6).1; omega
    · rw [List.getElem?_set]
      by_cases hji : i = j
      · subst hji; rw [if_pos rfl, if_pos (by omega)]
      · rw [if_neg hji]; exact hxj j (by omega)
  have hxs : xs = List.range n := by
    refine List.ext_getElem? fun j => ?_
    by_cases hj : j < n
    · rw [hxj j (by omega), List.getElem?_range hj]
    · rw [List.getElem?_eq_none (by omega), List.getElem?_eq_none (by simp; omega)]
  subst hxs
  simp
  clear hI I hk hin
  have hrl : ((List.range n).map fun x : Nat => (x : Int)).length = n := by simp
  refine C_of (k75 t6 3 m.length m (Nat.le_refl _) g fs cs C _ hC hcmp ((List.range n).map fun x : Nat => (x : Int)) (fun x hx => ?_) (by omega) m2 hm2 (perm_cells hX)) ?_
  · obtain ⟨j, hj, rfl⟩ := List.mem_map.1 hx
    have := List.mem_range.1 hj
    omega
  rintro v m3 ⟨hm3, hch3, ys, hY, hperm, hsort⟩
  have hyl : ys.length = n := by rw [hperm.length_eq]; simp
  have hyD : ∀ x ∈ ys, 0 ≤ x ∧ x < n := fun x hx => by
    obtain ⟨j, hj, rfl⟩ := List.mem_map.1 (hperm.mem_iff.1 hx)
    have := List.mem_range.1 hj
    omega
  simp [hc1, hc2]
  have hX0 : OwL natI m3.length (m3 ++ [.own (List.replicate n (.int .i64 0)) 3 none]) 3 (.slice m3.length 0 n n none) (List.replicate n 0) := OwL.rep (f := natI) m3 3 n 0
  have hm4 : m3 <+: m3 ++ [.own (List.replicate n (.int .i64 0)) 3 none] := List.prefix_append _ _
  have hap : ∀ b, t6.blk = some b → (AVal.slice m3.length 0 n n none).blk ≠ some b := fun b hb hbb => by
    have := (hY.blk_lo hb).2
    simp [AVal.blk] at hbb
    omega
  generalize AVal.slice m3.length 0 n n none = t8 at *
  generalize m3 ++ [.own (List.replicate n (.int .i64 0)) 3 none] = m4 at *
  replace hX0 := hX0.lo' hm3.length_le
  replace hY := hY.mono hm4
  replace hm4 := hm3.trans hm4
  have hl6 := hY.len
  simp [hl6]
  rw [hyl]
  obtain ⟨I, hI⟩ : ∃ I : Nat → AFrame → AMem → Prop, ∀ q a m', I q a m' ↔ (∃ (i : Nat) (ds : List Nat), i + q = n ∧ a = h90_1 (.int .i64 n) (.func (.func g) fs cs) t6 t8 (.int .i64 (kk C ys (i - 1) : Nat)) t6 (.int .i64 n) (.int .i64 i) ∧ m <+: m' ∧ OwL (AVal.int .i64) m.length m' 3 t6 ys ∧ OwL natI m.length m' 3 t8 ds ∧ ds.length = n ∧ ∀ (j : Nat) y, j < i → ys[j]? = some y → ds[y.toNat]? = some (kk C ys j)) := ⟨_, fun _ _ _ => Iff.rfl⟩
  refine W_loop I n ((hI _ _ _).2 ⟨0, _, by simp, rfl, hm4, hY, hX0, by simp, fun j _ hj => by omega⟩) ?_
  clear hX0 hm4 hl6 hY hX hm3 hm2
  rintro q a m5 hIn
  obtain ⟨i, ds, hk, rfl, hm5, hY, hds, hdl, hdj⟩ := (hI _ _ _).1 hIn
  clear hIn
  simp
  refine bbind_dec (fun hin => ?_) fun hin => ?_
  · have hw := step64 hin (by omega)
    obtain ⟨q, rfl⟩ : ∃ q', q = q' + 1 := ⟨q - 1, by omega⟩
    have hiy : i < ys.length := by omega
    obtain ⟨b6, o6, hb6, hp6, hl6, _⟩ := hY.at hiy
    have hDi := hyD _ (List.getElem_mem hiy)
    have hyi : ys[i]? = some ys[i] := List.getElem?_eq_getElem hiy
    -- the store
    have fin : ∀ m7, m5 <+: m7 → ∃ b8 o8, (∀ k, iaddrE 1 t8 (.int k ys[i]) = some (.ptr b8 o8)) ∧ ∃ m8, storeE m7 1 (.ptr b8 o8) (.int .i64 (kk C ys i : Nat)) = some (.undef, m8) ∧ I q (h90_1 (.int .i64 n) (.func (.func g) fs cs) t6 t8 (.int .i64 (kk C ys i : Nat)) t6 (.int .i64 n) (.int .i64 (i + 1 : Nat))) m8 := by
      intro m7 hm7
      have hY7 := hY.mono hm7
      have hds7 := hds.mono hm7
      obtain ⟨y, hy⟩ : ∃ y : Nat, ys[i] = y := ⟨(ys[i]).toNat, by omega⟩
      rw [hy] at hyi ⊢
      obtain ⟨b8, o8, hb8, hp8, _, hst8⟩ := hds7.at (i := y) (by omega)
      obtain ⟨m8, hst, hch8, hds8⟩ := hst8 (kk C ys i)
      refine ⟨b8, o8, hp8, m8, hst, (hI _ _ _).2 ⟨i + 1, ds.set y (kk C ys i), by omega, rfl, hch8.pre (hm5.trans hm7) fun b hb => ?_, hY7.ch hch8 fun b hb hbb => ?_, hds8, by simpa using hdl, fun j z hj hz => ?_⟩⟩
      · have := (hds7.blk_lo hb8).1; omega
      · exact hap b hb (by rw [hb8, hbb])
      · by_cases hji : j = i
        · subst hji
          rw [hyi] at hz; cases hz
          rw [Int.toNat_natCast, List.getElem?_set_self (by omega)]
        · have hne : y ≠ z.toNat := by
            intro h
            have hzD := hyD z (List.mem_of_getElem? hz)
            have hzy : z = (y : Int) := by omega
            rw [hzy] at hz
            have hnd : ys.Nodup := by
              rw [hperm.nodup_iff]
              refine List.Pairwise.map _ (fun a b hab => ?_) List.nodup_range
              intro h; exact hab (by omega)
            obtain ⟨h1, h2⟩ := List.getElem?_eq_some_iff.1 hz
            obtain ⟨h3, h4⟩ := List.getElem?_eq_some_iff.1 hyi
            have hpw := List.pairwise_iff_getElem.1 hnd
            rcases Nat.lt_trichotomy j i with h5 | h5 | h5
            · exact hpw j i h1 h3 h5 (h2.trans h4.symm)
            · exact hji h5
            · exact hpw i j h3 h1 h5 (h4.trans h2.symm)
          rw [List.getElem?_set_ne hne]
          exact hdj j z (by omega) hz
    by_cases hi0 : i = 0
    · subst hi0
      obtain ⟨b8, o8, hp8, m8, hst8, hI8⟩ := fin m5 (List.prefix_refl _)
      simp only [kk] at hst8 hI8
      simp at hst8 hp6
      simp [hp6, hl6, hp8, hst8, kk, wrap64 (x := 1)]
      exact ⟨q, by omega, by simpa using hI8⟩
    · obtain ⟨i, rfl⟩ : ∃ i', i = i' + 1 := ⟨i - 1, by omega⟩
      have hi' : (0 : Int) < (i : Int) + 1 := by omega
      have hwi : IntKind.i64.wrap (i : Int) = i := wrap64 (by omega) (by omega)
      have hil : i < ys.length := by omega
      obtain ⟨b5, o5, _, hp5, hl5, _⟩ := hY.at hil
      have hcall := hcmp ys[i] ys[i + 1] (hyD _ (List.getElem_mem hil)) hDi m5 hm5
      simp at hcall
      simp only [Int.natCast_add, Int.cast_ofNat_Int, Nat.add_sub_cancel] at hp6 hw fin ⊢
      have hkk : kk C ys (i + 1) = kk C ys i + (if C ys[i] ys[i + 1] ≠ 0 then 1 else 0) := by
        rw [kk]; simp [List.getD, hil, hiy]
      simp [hp6, hl6, hi', hwi, hp5, hl5]
      refine C_of hcall ?_
      rintro _ m6 ⟨rfl, hm6⟩
      obtain ⟨b8, o8, hp8, m8, hst8, hI8⟩ := fin m6 hm6
      simp
      by_cases hc : C ys[i] ys[i + 1] = 0
      · rw [hkk] at hst8 hI8
        simp [hc] at hst8 hI8
        simp [hc, hp8, hst8, hw]
        exact ⟨q, by omega, hI8⟩
      · rw [hkk] at hst8 hI8
        simp [hc] at hst8 hI8
        have hwk : IntKind.i64.wrap ((kk C ys i : Int) + 1) = (kk C ys i : Int) + 1 := by
          have : kk C ys i ≤ i := by
            exact kk_le C ys i
          exact wrap64 (by omega) (by omega)
        simp [bneT hc, hwk, hp8, hst8, hw]
        exact ⟨q, by omega, hI8⟩
  · have hin' : i = n := by omega
    subst hin'
    simp
    refine C_of (k134 _ m5) ?_
    rintro _ _ ⟨rfl, rfl⟩
    have hdense := DenseOf.of_kk hC hperm hsort hdl fun j hj => hdj j _ (by omega) (List.getElem?_eq_getElem hj)
    have hkn : kk C ys (i - 1) ≤ i := by
      have : ∀ j, kk C ys j ≤ j := by
        intro j
        induction j with
        | zero => simp [kk]
        | succ i ih => rw [kk]; split <;> omega
      have := this (i - 1); omega
    by_cases hn0 : i = 0
    · subst hn0
      simp [kk]
      rw [wrap64 (x := 0) (by omega) (by omega)]
      refine ⟨hm5, t8, ds, 0, by simp, hds, by simpa using hdense⟩
    · have h0 : 0 < i := by omega
      simp [h0]
      rw [wrap64 (by omega) (by omega)]
      refine ⟨hm5, t8, ds, kk C ys (i - 1) + 1, by simp, hds, by simpa [hn0] using hdense⟩
end Go.Proofs.YtheadodblifklaaGreat

namespace Go.Proofs.YtheadodblifklaaGreat
open Go Ax
set_option maxRecDepth 100000
theorem cmpI_lt {a b : Int} : cmpI a b < 0 ↔ a < b := by unfold cmpI; split <;> (try split) <;> omega
theorem cmpI_gt {a b : Int} : 0 < cmpI a b ↔ b < a := by unfold cmpI; split <;> (try split) <;> omega
theorem cmpI_le {a b : Int} : cmpI a b ≤ 0 ↔ a ≤ b := by unfold cmpI; split <;> (try split) <;> omega
theorem cmpI_zero {a b : Int} : cmpI a b = 0 ↔ a = b := by unfold cmpI; split <;> (try split) <;> omega
theorem cmpI_ord : Ord cmpI (fun _ => True) := ⟨fun a b _ _ => by rw [cmpI_lt, cmpI_gt], fun a b c _ _ _ h1 h2 => by rw [cmpI_le] at *; omega⟩
def lexC {α : Type} (c : α → α → Int) : List α → List α → Int
  | [], [] => 0
  | [], _ :: _ => -1
  | _ :: _, [] => 1
  | x :: xs, y :: ys => if c x y ≠ 0 then c x y else lexC c xs ys
theorem lexC_nil {α : Type} (c : α → α → Int) (ys : List α) : lexC c [] ys = if ys.length = 0 then 0 else -1 := by cases ys <;> simp [lexC]
theorem k96 (s t : AVal) (xs ys : List Int) (m : AMem) (hs : RInts m s xs) (ht : RInts m t ys) (hn : xs.length < 2 ^ 62) : ACalls Tryz.prog 96 [s, t] m fun v m' => v = .int .i64 (lexC cmpI xs ys) ∧ m' = m := by
  refine w96 ?_
  simp [hs.len]
  generalize hL : lexC cmpI xs ys = L
  refine W_loop (fun n a m' => ∃ k : Nat, k + n = xs.length ∧ a = h96_0 s t s (.int .i64 xs.length) (.int .i64 k) ∧ m' = m ∧ k ≤ ys.length ∧ lexC cmpI (xs.drop k) (ys.drop k) = L) xs.length ⟨0, by simp [hL]⟩ ?_
  rintro n a m ⟨k, hk, rfl, rfl, hky, hi⟩
  simp
  refine bbind_dec (fun h => ?_) fun h => ?_
  · have hw := step64 h hn
    obtain ⟨n, rfl⟩ : ∃ n', n = n' + 1 := ⟨n - 1, by omega⟩
    obtain ⟨b1, o1, h1, h2⟩ := hs.at h
    rw [List.drop_eq_getElem_cons h] at hi
    by_cases hy : k < ys.length
    · obtain ⟨b3, o3, h3, h4⟩ := ht.at hy
      rw [List.drop_eq_getElem_cons hy] at hi
      have hy' : ¬ ys.length ≤ k := by omega
      simp [h1, h2, ht.len, hy', h3, h4]
      refine C_of (k78 xs[k] ys[k] m) ?_
      rintro _ _ ⟨rfl, rfl⟩
      simp only [lexC] at hi
      by_cases hc : cmpI xs[k] ys[k] = 0
      · simp [hc] at hi
        simp [hc, hw]
        exact ⟨n, by omega, k + 1, by omega, by simp, by omega, hi⟩
      · simp [hc] at hi
        have hL0 : ¬ L = 0 := by rw [← hi]; exact hc
        simp [hi, bneT hL0]
    · have hy' : ys.length ≤ k := by omega
      rw [List.drop_eq_nil_of_le hy'] at hi
      simp only [lexC] at hi
      simp [h1, h2, ht.len, hy', hi]
  · have hkx : k = xs.length := by omega
    subst hkx
    rw [List.drop_eq_nil_of_le (Nat.le_refl _), lexC_nil, List.length_drop] at hi
    by_cases hlt : xs.length < ys.length
    · rw [if_neg (by omega)] at hi
      simp [hs.len, ht.len, hlt, hi]
    · rw [if_pos (by omega)] at hi
      simp [hs.len, ht.len, hlt, hi]
def cmpS (a b : ByteArray) : Int := if Op.bytesLess a.toList b.toList then -1 else if !(Op.bytesLess a.toList b.toList || a.toList == b.toList) then 1 else 0
theorem k180 (a : ByteArray) (m : AMem) : ACalls Tryz.prog 180 [.str a] m fun v m' => v = .bool false ∧ m' = m := by
  refine w180 ?_
  simp [binStr]
theorem k161 (a b : ByteArray) (m : AMem) : ACalls Tryz.prog 161 [.str a, .str b] m fun v m' => v = .int .i64 (cmpS a b) ∧ m' = m := by
  refine w161 ?_
  simp
  refine C_of (k180 a m) ?_
  rintro _ _ ⟨rfl, rfl⟩
  simp
  refine C_of (k180 b _) ?_
  rintro _ _ ⟨rfl, rfl⟩
  simp [binStr]
  cases h : Op.bytesLess a.toList b.toList
  · cases h' : a.toList == b.toList
    · simp [binStr, h, h', cmpS]
    · simp [binStr, h, h', cmpS]
  · simp [cmpS, h]
theorem k135 (s t : AVal) (xs ys : List ByteArray) (m : AMem) (hs : RStrs m s xs) (ht : RStrs m t ys) (hn : xs.length < 2 ^ 62) : ACalls Tryz.prog 135 [s, t] m fun v m' => v = .int .i64 (lexC cmpS xs ys) ∧ m' = m := by
  refine w135 ?_
  simp [hs.len]
  generalize hL : lexC cmpS xs ys = L
  refine W_loop (fun n a m' => ∃ k : Nat, k + n = xs.length ∧ a = h135_0 s t s (.int .i64 xs.length) (.int .i64 k) ∧ m' = m ∧ k ≤ ys.length ∧ lexC cmpS (xs.drop k) (ys.drop k) = L) xs.length ⟨0, by simp [hL]⟩ ?_
  rintro n a m ⟨k, hk, rfl, rfl, hky, hi⟩
  simp
  refine bbind_dec (fun h => ?_) fun h => ?_
  · have hw := step64 h hn
    obtain ⟨n, rfl⟩ : ∃ n', n = n' + 1 := ⟨n - 1, by omega⟩
    obtain ⟨b1, o1, h1, h2⟩ := hs.at h
    rw [List.drop_eq_getElem_cons h] at hi
    by_cases hy : k < ys.length
    · obtain ⟨b3, o3, h3, h4⟩ := ht.at hy
      rw [List.drop_eq_getElem_cons hy] at hi
      have hy' : ¬ ys.length ≤ k := by omega
      simp [h1, h2, ht.len, hy', h3, h4]
      refine C_of (k161 xs[k] ys[k] m) ?_
      rintro _ _ ⟨rfl, rfl⟩
      simp only [lexC] at hi
      by_cases hc : cmpS xs[k] ys[k] = 0
      · simp [hc] at hi
        simp [hc, hw]
        exact ⟨n, by omega, k + 1, by omega, by simp, by omega, hi⟩
      · simp [hc] at hi
        have hL0 : ¬ L = 0 := by rw [← hi]; exact hc
        simp [hi, bneT hL0]
    · have hy' : ys.length ≤ k := by omega
      rw [List.drop_eq_nil_of_le hy'] at hi
      simp only [lexC] at hi
      simp [h1, h2, ht.len, hy', hi]
  · have hkx : k = xs.length := by omega
    subst hkx
    rw [List.drop_eq_nil_of_le (Nat.le_refl _), lexC_nil, List.length_drop] at hi
    by_cases hlt : xs.length < ys.length
    · rw [if_neg (by omega)] at hi
      simp [hs.len, ht.len, hlt, hi]
    · rw [if_pos (by omega)] at hi
      simp [hs.len, ht.len, hlt, hi]
theorem k168 (a b : Int) (m : AMem) : ACalls Tryz.prog 168 [.int .i64 a, .int .i64 b] m fun v m' => v = .bool (decide (a < b)) ∧ m <+: m' := by
  refine w168 ?_
  simp
  refine C_of (k119 a m) ?_
  rintro _ _ ⟨rfl, rfl⟩
  simp
set_option maxHeartbeats 4000000 in
theorem k162 (t : AVal) (ty : TypeId) (lo : Nat) (m0 : AMem) (hlo : m0.length ≤ lo) (xs : List Int) (hn : xs.length < 2 ^ 62) (m : AMem) (hm : m0 <+: m) (hX : OwL (AVal.int .i64) lo m ty t xs) :
    ACalls Tryz.prog 162 [t, .int .i64 0, .int .i64 xs.length] m fun _ m' => m0 <+: m' ∧ Ch (fun b => t.blk = some b) m m' ∧ ∃ ys, OwL (AVal.int .i64) lo m' ty t ys ∧ ys.Perm xs ∧ SortedTo cmpI ys ys.length := by
  refine w162 ?_
  have hC := cmpI_ord
  have hD : ∀ x ∈ xs, True := fun _ _ => trivial
  simp
  rw [wrap64 (x := 1) (by omega) (by omega)]
  obtain ⟨I, hI⟩ : ∃ I : Nat → AFrame → AMem → Prop, ∀ q a m', I q a m' ↔ (∃ (i : Nat) (ys : List Int), i + q = xs.length + 1 ∧ 1 ≤ i ∧ a = h162_0 t (.int .i64 0) (.int .i64 xs.length) (.int .i64 i) ∧ m0 <+: m' ∧ Ch (fun b => t.blk = some b) m m' ∧ OwL (AVal.int .i64) lo m' ty t ys ∧ ys.Perm xs ∧ SortedTo cmpI ys i) := ⟨_, fun _ _ _ => Iff.rfl⟩
  refine W_loop I xs.length ((hI _ _ _).2 ⟨1, xs, by omega, by omega, rfl, hm, .refl _ _, hX, .refl _, fun p q a b h1 h2 => by omega⟩) ?_
  clear hX hm
  rintro q a m1 hIn
  obtain ⟨i, ys, hk, hi1, rfl, hm1, hch1, hY, hperm, hsort⟩ := (hI _ _ _).1 hIn
  clear hIn
  have hyl := hperm.length_eq
  simp
  refine bbind_dec (fun hil => ?_) fun hil => ?_
  · have hw := step64 hil hn
    obtain ⟨q, rfl⟩ : ∃ q', q = q' + 1 := ⟨q - 1, by omega⟩
    simp
    obtain ⟨I2, hI2⟩ : ∃ I : Nat → AFrame → AMem → Prop, ∀ q a m', I q a m' ↔ (∃ (ys : List Int), a = h162_1 t (.int .i64 0) (.int .i64 xs.length) (.int .i64 i) (.int .i64 q) ∧ m0 <+: m' ∧ Ch (fun b => t.blk = some b) m m' ∧ OwL (AVal.int .i64) lo m' ty t ys ∧ ys.Perm xs ∧ InsInv cmpI ys i q) := ⟨_, fun _ _ _ => Iff.rfl⟩
    refine W_loop I2 i ((hI2 _ _ _).2 ⟨ys, rfl, hm1, hch1, hY, hperm, .start hsort⟩) ?_
    clear hm1 hch1 hY hperm hsort hyl
    rintro j a m2 hIn
    obtain ⟨ys, rfl, hm2, hch2, hY, hperm, hins⟩ := (hI2 _ _ _).1 hIn
    clear hIn
    have hyl := hperm.length_eq
    have hDy : ∀ x ∈ ys, True := fun _ _ => trivial
    have hji := hins.le
    simp
    have done : ∀ m3, m2 <+: m3 → (j = 0 ∨ ∀ a b, ys[j]? = some a → ys[j - 1]? = some b → ¬ cmpI a b < 0) → I q (h162_0 t (.int .i64 0) (.int .i64 xs.length) (.int .i64 (i + 1 : Nat))) m3 := fun m3 hm3 hs => (hI _ _ _).2 ⟨i + 1, ys, by omega, by omega, rfl, hm2.trans hm3, hch2.trans (.of_prefix hm3), hY.mono hm3, hperm, hins.stop hC hDy hs⟩
    refine W_draw (fun _ _ _ => True) (by simp [maxDst]) ?_
    refine D_pre 0 13 [13, 14] (by simp only [List.drop_zero, List.drop_succ_cons, List.take_succ_cons, List.take_zero]; rfl) rfl rfl (fun _ _ => trivial) ?_
    by_cases hj : 0 < j
    · have hj' : (0 : Int) < j := by omega
      obtain ⟨j, rfl⟩ : ∃ j', j = j' + 1 := ⟨j - 1, by omega⟩
      simp only [Nat.add_sub_cancel] at done
      have hj1 : j + 1 < ys.length := by omega
      have hj0 : j < ys.length := by omega
      obtain ⟨b1, o1, hb1, hp1, hl1, _⟩ := hY.at hj1
      obtain ⟨b0, o0, hb0, hp0, hl0, _⟩ := hY.at hj0
      have hx : ys[j + 1]? = some ys[j + 1] := List.getElem?_eq_getElem hj1
      have hy : ys[j]? = some ys[j] := List.getElem?_eq_getElem hj0
      have hDx := hDy _ (List.getElem_mem hj1)
      have hDy' := hDy _ (List.getElem_mem hj0)
      have hswapP := List.set_set_perm hj1 hj0
      generalize hxx : ys[j + 1] = x at *
      generalize hyy : ys[j] = y at *
      simp only [Int.natCast_add, Int.cast_ofNat_Int] at hp1 hj' ⊢
      have hpj : IntKind.i64.wrap (j : Int) = j := wrap64 (by omega) (by omega)
      simp [hj', hp1, hl1, hpj, hp0, hl0]
      intro fs' hfs'
      refine D_Xg rfl rfl (b := true) (by simp) (fun _ m5 hm5 _ => ?_) (fun h => absurd rfl h)
      simp
      refine C_of (k168 x y m5) ?_
      rintro _ m6 ⟨rfl, hm6⟩
      refine ⟨by simp [lateOf], ?_⟩
      refine D_pre 14 1 [] (by simp only [List.drop_zero, List.drop_succ_cons, List.take_succ_cons, List.take_zero]; rfl) rfl rfl (fun _ _ => trivial) ?_
      simp
      intro fs'' hfs''
      refine D_end fun m7 hm7 _ => ?_
      simp
      have hm27 := (hm5.trans hm6).trans hm7
      refine bbind_dec (fun hlt => ?_) fun hlt => ?_
      · have hlt : cmpI x y < 0 := cmpI_lt.2 hlt
        simp
        refine W_draw (fun _ _ _ => True) (by simp [maxDst]) ?_
        refine D_pre 0 15 [15, 16, 17] (by simp only [List.drop_zero, List.drop_succ_cons, List.take_succ_cons, List.take_zero]; rfl) rfl rfl (fun _ _ => trivial) ?_
        simp [hp1, hpj, hp0, loadE_mono hm27 hl1, loadE_mono hm27 hl0]
        intro fs3 _
        refine D_W rfl rfl fun m8 hm8 _ => ?_
        have hY8 := hY.mono (hm27.trans hm8)
        obtain ⟨b1', o1', hb1', hp1', _, hst1⟩ := hY8.at hj1
        obtain ⟨rfl, rfl⟩ : b1' = b1 ∧ o1' = o1 := by have := (hp1' .i64).symm.trans (by simpa using hp1 .i64); simpa using this
        obtain ⟨m9, hst9, hch9, hY9⟩ := hst1 y
        simp [hst9]
        refine D_pre 16 1 [17] (by simp only [List.drop_zero, List.drop_succ_cons, List.take_succ_cons, List.take_zero]; rfl) rfl rfl (fun _ _ => trivial) ?_
        simp [hp0]
        intro fs4 _
        refine D_W rfl rfl fun m10 hm10 _ => ?_
        have hY10 := hY9.mono hm10
        obtain ⟨b0', o0', hb0', hp0', _, hst0⟩ := hY10.at (i := j) (by simpa using hj0)
        obtain ⟨rfl, rfl⟩ : b0' = b0 ∧ o0' = o0 := by have := (hp0' .i64).symm.trans (hp0 .i64); simpa using this
        obtain ⟨m11, hst11, hch11, hY11⟩ := hst0 x
        simp [hst11]
        refine D_end fun m12 hm12 _ => ?_
        simp [hpj]
        have hcc : Ch (fun b => t.blk = some b) m2 m12 := ((((Ch.of_prefix (hm27.trans hm8)).trans (hch9.weaken fun b _ hb => by rw [hb]; exact hb1')).trans (.of_prefix hm10)).trans (hch11.weaken fun b _ hb => by rw [hb]; exact hb0')).trans (.of_prefix hm12)
        refine ⟨j, by omega, (hI2 _ _ _).2 ⟨_, rfl, hcc.pre hm2 fun b hb hbb => ?_, hch2.trans hcc, hY11.mono hm12, ?_, hins.swap hx hy hlt⟩⟩
        · have := (hY.blk_lo hbb).1; omega
        · exact (by simpa using hswapP : ((ys.set (j + 1) y).set j x).Perm ys).trans hperm
      · simp [hw]
        have hd := done m7 hm27 (.inr fun a b ha hb => by rw [hx] at ha; cases ha; rw [hy] at hb; cases hb; exact fun h => hlt (cmpI_lt.1 h))
        exact ⟨q, by omega, by simpa using hd⟩
    · obtain rfl : j = 0 := by omega
      simp
      intro fs' hfs'
      refine D_Xg rfl rfl (b := false) (by simp) (fun h => by cases h) (fun _ m5 hm5 _ => ⟨by simp [lateOf], ?_⟩)
      refine D_pre 14 1 [] (by simp only [List.drop_zero, List.drop_succ_cons, List.take_succ_cons, List.take_zero]; rfl) rfl rfl (fun _ _ => trivial) ?_
      simp
      intro fs'' hfs''
      refine D_end fun m7 hm7 _ => ?_
      simp [hw]
      exact ⟨q, by omega, by simpa using done m7 (hm5.trans hm7) (.inl rfl)⟩
  · simp
    refine ⟨hm1, hch1, ys, hY, hperm, ?_⟩
    by_cases h1 : i = ys.length
    · rw [← h1]; exact hsort
    · intro p q' a b h1' h2 h3 h4
      exact hsort p q' a b h1' (by omega) h3 h4
theorem k136 (t : AVal) (ty : TypeId) (lo : Nat) (m0 : AMem) (hlo : m0.length ≤ lo) (xs : List Int) (hn : xs.length ≤ 12) (z : AVal) (m : AMem) (hm : m0 <+: m) (hX : OwL (AVal.int .i64) lo m ty t xs) :
    ACalls Tryz.prog 136 [t, .int .i64 0, .int .i64 xs.length, z] m fun _ m' => m0 <+: m' ∧ Ch (fun b => t.blk = some b) m m' ∧ ∃ ys, OwL (AVal.int .i64) lo m' ty t ys ∧ ys.Perm xs ∧ SortedTo cmpI ys ys.length := by
  refine w136 ?_
  simp
  refine W_loop (fun _ a m' => m' = m ∧ ∃ x y, a = h136_0 t (.int .i64 0) (.int .i64 xs.length) z x y) 0 ⟨rfl, _, _, rfl⟩ ?_
  rintro n a m ⟨rfl, x, y, rfl⟩
  have hw : IntKind.i64.wrap (xs.length : Int) = xs.length := wrap64 (by omega) (by omega)
  have hle : (xs.length : Int) ≤ 12 := by omega
  simp [hw, hle]
  refine C_of (k162 t ty lo m0 hlo xs (by omega) m hm hX) ?_
  rintro v m' h
  simp
  exact h
theorem k93 (t : AVal) (ty : TypeId) (lo : Nat) (m0 : AMem) (hlo : m0.length ≤ lo) (xs : List Int) (hn : xs.length ≤ 12) (m : AMem) (hm : m0 <+: m) (hX : OwL (AVal.int .i64) lo m ty t xs) :
    ACalls Tryz.prog 93 [t] m fun _ m' => m0 <+: m' ∧ Ch (fun b => t.blk = some b) m m' ∧ ∃ ys, OwL (AVal.int .i64) lo m' ty t ys ∧ ys.Perm xs ∧ SortedTo cmpI ys ys.length := by
  refine w93 ?_
  have hw : IntKind.u64.wrap (xs.length : Int) = xs.length := by
    simp only [IntKind.wrap, IntKind.bits, IntKind.signed, Bool.false_and]
    simp
    omega
  simp [hX.len, hw]
  refine C_of (k118 xs.length (by omega) m) ?_
  rintro _ _ ⟨⟨z, rfl⟩, rfl⟩
  simp
  refine C_of (k136 t ty lo m0 hlo xs hn _ _ hm hX) ?_
  rintro v m' h
  simp
  exact h
end Go.Proofs.YtheadodblifklaaGreat

namespace Go.Proofs.YtheadodblifklaaGreat
open Go Ax
set_option maxRecDepth 100000
theorem upd_triv (i : Nat) {fs : Facts} (h : ∀ j m', fs j m') : ∀ j m', upd fs i (fun _ => True) j m' := fun j m' => by
  unfold upd
  split
  · trivial
  · exact h j m'
def bi (b : Bool) : Int := if b then 1 else 0
def lenC (x y : Md) : Int := if x.kind = 12 then 0 else cmpI x.elems.length y.elems.length
def firstL (x y : Md) : List Int := [cmpI x.kind y.kind, cmpI x.size y.size, cmpI x.dims y.dims, cmpI (bi x.flex) (bi y.flex), lenC x y, lexC cmpS x.names y.names]
def firstC (x y : Md) : Int := firstNZ (firstL x y)
def ks92 (x y : Md) : Nat → AVal → AMem → Prop := fun i v _ => v = .int .i64 (
  if i = 4 then cmpI x.kind y.kind else if i = 9 then cmpI x.size y.size else if i = 14 then cmpI x.dims y.dims else if i = 17 then bi x.flex else if i = 20 then bi y.flex
  else if i = 21 then cmpI (bi x.flex) (bi y.flex) else if i = 27 then lexC cmpS x.names y.names else firstC x y)
set_option maxHeartbeats 4000000 in
theorem k92 (cx cy : List AVal) (x y : Md) (m : AMem) (hx : RMode m cx x) (hy : RMode m cy y) (hsx : smallN x) (hsy : smallN y) : ACalls Tryz.prog 92 [.agg cx, .agg cy] m fun v m' => v = .int .i64 (firstC x y) ∧ m <+: m' := by
  obtain ⟨ex, nx, rfl, hex, hnx⟩ := hx
  obtain ⟨ey, ny, rfl, hey, hny⟩ := hy
  refine w92 ?_
  have h1 := Sl.one hex
  have h2 := Sl.one hnx
  have h3 := Sl.one hey
  have h4 := Sl.one hny
  simp [h1, h2, h3, h4]
  have hb1 := readB_new m [.int .i64 x.kind, .int .i64 x.size, ex, nx, .int .i64 x.dims, .bool x.flex] 49 none
  have hm1 : m <+: m ++ [.own [.int .i64 x.kind, .int .i64 x.size, ex, nx, .int .i64 x.dims, .bool x.flex] 49 none] := List.prefix_append _ _
  have hlen : (m ++ [ABlk.own [.int .i64 x.kind, .int .i64 x.size, ex, nx, .int .i64 x.dims, .bool x.flex] 49 none]).length = m.length + 1 := by simp
  have hb2 := readB_new (m ++ [.own [.int .i64 x.kind, .int .i64 x.size, ex, nx, .int .i64 x.dims, .bool x.flex] 49 none]) [.int .i64 y.kind, .int .i64 y.size, ey, ny, .int .i64 y.dims, .bool y.flex] 49 none
  have hm2 : m ++ [.own [.int .i64 x.kind, .int .i64 x.size, ex, nx, .int .i64 x.dims, .bool x.flex] 49 none] <+: m ++ [.own [.int .i64 x.kind, .int .i64 x.size, ex, nx, .int .i64 x.dims, .bool x.flex] 49 none] ++ [.own [.int .i64 y.kind, .int .i64 y.size, ey, ny, .int .i64 y.dims, .bool y.flex] 49 none] := List.prefix_append _ _
  replace hb1 := readB_mono hm2 hb1
  replace hm1 := hm1.trans hm2
  rw [hlen] at hb2
  simp only [List.append_assoc, List.singleton_append] at hb1 hb2 hm1
  generalize m ++ [.own [.int .i64 x.kind, .int .i64 x.size, ex, nx, .int .i64 x.dims, .bool x.flex] 49 none, .own [.int .i64 y.kind, .int .i64 y.size, ey, ny, .int .i64 y.dims, .bool y.flex] 49 none] = m1 at hb1 hb2 hm1 ⊢
  clear hlen hm2
  replace hex := RInts.mono hex hm1
  replace hey := RInts.mono hey hm1
  replace hnx := RStrs.mono hnx hm1
  replace hny := RStrs.mono hny hm1
  simp [bx hb1]
  generalize m.length = b1 at *
  generalize b1 + 1 = b2 at *
  refine bbind_J (fun a m' => a.forget [2, 3, 5] = mat 46 [(2, .ptr b1 0), (3, .ptr b2 0), (5, .int .i64 (lenC x y))] ∧ m' = m1) ?_ ?_
  · by_cases c : x.kind = 12
    · simp [c, lenC]
    · simp [bneT c, bx hb1, bx hb2, hex.len, hey.len]
      refine C_of (k78 _ _ m1) ?_
      rintro _ _ ⟨rfl, rfl⟩
      simp [lenC, c]
  rintro a m1 ⟨ha, rfl⟩
  simp [ha]
  refine W_draw (ks92 x y) (by simp [maxDst]) ?_
  have : ∀ (j : Nat) (m' : AMem), noFacts j m' := fun _ _ => trivial
  refine D_pre 0 4 [4, 5, 6, 7, 8, 9, 10, 11, 12, 13, 14, 15, 16, 17, 18, 19, 20, 21, 22, 23, 24, 25, 26, 27, 28, 29, 30] (by simp only [List.drop_zero, List.drop_succ_cons, List.take_succ_cons, List.take_zero]; rfl) rfl rfl ‹_› ?_
  simp [bx hb1, bx hb2, hex.len, hey.len]
  intro _ _
  refine D_Cv (.int .i64 (cmpI x.kind y.kind)) rfl trivial rfl rfl (fun m' hm' _ => (k78 _ _ m').mono fun v m'' h => ⟨by rw [h.2]; exact List.prefix_refl _, h.1⟩) ?_
  have := upd_triv 4 ‹∀ (j : Nat) (m' : AMem), _›
  refine D_pre 5 4 [9, 10, 11, 12, 13, 14, 15, 16, 17, 18, 19, 20, 21, 22, 23, 24, 25, 26, 27, 28, 29, 30] (by simp only [List.drop_zero, List.drop_succ_cons, List.take_succ_cons, List.take_zero]; rfl) rfl rfl ‹_› ?_
  simp [bx hb1, bx hb2, hex.len, hey.len]
  intro _ _
  refine D_Cv (.int .i64 (cmpI x.size y.size)) rfl trivial rfl rfl (fun m' hm' _ => (k78 _ _ m').mono fun v m'' h => ⟨by rw [h.2]; exact List.prefix_refl _, h.1⟩) ?_
  have := upd_triv 9 ‹∀ (j : Nat) (m' : AMem), _›
  refine D_pre 10 4 [14, 15, 16, 17, 18, 19, 20, 21, 22, 23, 24, 25, 26, 27, 28, 29, 30] (by simp only [List.drop_zero, List.drop_succ_cons, List.take_succ_cons, List.take_zero]; rfl) rfl rfl ‹_› ?_
  simp [bx hb1, bx hb2, hex.len, hey.len]
  intro _ _
  refine D_Cv (.int .i64 (cmpI x.dims y.dims)) rfl trivial rfl rfl (fun m' hm' _ => (k78 _ _ m').mono fun v m'' h => ⟨by rw [h.2]; exact List.prefix_refl _, h.1⟩) ?_
  have := upd_triv 14 ‹∀ (j : Nat) (m' : AMem), _›
  refine D_pre 15 2 [17, 18, 19, 20, 21, 22, 23, 24, 25, 26, 27, 28, 29, 30] (by simp only [List.drop_zero, List.drop_succ_cons, List.take_succ_cons, List.take_zero]; rfl) rfl rfl ‹_› ?_
  simp [bx hb1, bx hb2, hex.len, hey.len]
  intro _ _
  refine D_Cv (.int .i64 (bi x.flex)) rfl trivial rfl rfl (fun m' hm' _ => (k134 _ m').mono fun v m'' h => ⟨by rw [h.2]; exact List.prefix_refl _, h.1⟩) ?_
  have := upd_triv 17 ‹∀ (j : Nat) (m' : AMem), _›
  refine D_pre 18 2 [20, 21, 22, 23, 24, 25, 26, 27, 28, 29, 30] (by simp only [List.drop_zero, List.drop_succ_cons, List.take_succ_cons, List.take_zero]; rfl) rfl rfl ‹_› ?_
  simp [bx hb1, bx hb2, hex.len, hey.len]
  intro _ _
  refine D_Cv (.int .i64 (bi y.flex)) rfl trivial rfl rfl (fun m' hm' _ => (k134 _ m').mono fun v m'' h => ⟨by rw [h.2]; exact List.prefix_refl _, h.1⟩) ?_
  have := upd_triv 20 ‹∀ (j : Nat) (m' : AMem), _›
  refine D_Cv (.int .i64 (cmpI (bi x.flex) (bi y.flex))) rfl trivial rfl rfl (fun m' hm' _ => (k78 _ _ m').mono fun v m'' h => ⟨by rw [h.2]; exact List.prefix_refl _, h.1⟩) ?_
  have := upd_triv 21 ‹∀ (j : Nat) (m' : AMem), _›
  refine D_pre 22 5 [27, 28, 29, 30] (by simp only [List.drop_zero, List.drop_succ_cons, List.take_succ_cons, List.take_zero]; rfl) rfl rfl ‹_› ?_
  simp [bx hb1, bx hb2, hex.len, hey.len]
  intro _ _
  refine D_Cv (.int .i64 (lexC cmpS x.names y.names)) rfl trivial rfl rfl (fun m' hm' _ => (k135 nx ny _ _ m' (hnx.mono hm') (hny.mono hm') hsx.2.1).mono fun v m'' h => ⟨by rw [h.2]; exact List.prefix_refl _, h.1⟩) ?_
  have := upd_triv 27 ‹∀ (j : Nat) (m' : AMem), _›
  refine D_A rfl trivial ?_
  simp [fillA, setN]
  intro b
  refine D_Cv (.int .i64 (firstC x y)) rfl trivial rfl rfl (fun m' hm' hp => ?_) ?_
  · have h28 := hp 28 (by simp)
    simp [upd] at h28
    refine (k77 (.slice b 0 6 6 none) (firstL x y) m' ?_ (by simp [firstL])).mono fun v m'' h => ⟨by rw [h.2]; exact List.prefix_refl _, h.1⟩
    refine .inr ⟨b, 0, 6, none, rfl, ⟨by simp [firstL], .inl rfl⟩, .inr ⟨by simp [firstL], _, by simp [readB, h28, ABlk.cells]; rfl, by simp [firstL, readN]⟩⟩
  refine D_P rfl trivial ?_
  simp
  refine D_end fun m2 hm2 _ => ?_
  simp [hm1.trans hm2]
end Go.Proofs.YtheadodblifklaaGreat

namespace Go.Proofs.YtheadodblifklaaGreat
open Go Ax
set_option maxRecDepth 100000
def cp (ys : List Int) : Nat → List Int
  | 0 => []
  | j + 1 => if j ≠ 0 ∧ ys[j]? = ys[j - 1]? then cp ys j else cp ys j ++ [ys.getD j 0]
theorem cp_length (ys : List Int) : ∀ j, (cp ys j).length ≤ j
  | 0 => by simp [cp]
  | j + 1 => by
    have := cp_length ys j
    rw [cp]
    split
    · omega
    · simp; omega
@[simp] theorem ev_clear (a : AFrame) (m : AMem) (z : List AVal) (x : Arg) : WOp.ev a m (.clear z x) = clearE m z (a.ev x) := rfl
theorem Ax.OwL.clear {α : Type} {f : α → AVal} [hf : Cell f] {lo : Nat} {m : AMem} {ty : TypeId} {s : AVal} {xs : List α} (h : OwL f lo m ty s xs) {i : Nat} (hi : i < xs.length) (z : α) : ∃ s' m', sliceE 1 s (some (.int .i64 i)) none = some s' ∧ clearE m [f z] s' = some (.undef, m') ∧ Ch (fun b => s.blk = some b) m m' ∧ OwL f lo m' ty s (xs.take i ++ List.replicate (xs.length - i) z) := by
  rcases h with ⟨_, h1, _⟩ | ⟨b, o, cap, gr, bl, gr', rfl, h1, h2, h3, h4, h5, h6, h7⟩
  · omega
  have hl3 := readN_length h3
  refine ⟨.slice b (o + i) (xs.length - i) (cap - i) gr, m.set b (.own (setN bl (o + i) (List.replicate (xs.length - i) (f z))) ty gr'), ?_, ?_, Ch.setS _ rfl, ?_⟩
  · simp only [sliceE, bdE, evSlice]
    simp
    exact ⟨by omega, h4, by rcases h7 with h | h <;> simp [h]⟩
  · have hfl : (List.replicate (xs.length - i) [f z]).flatten = List.replicate (xs.length - i) (f z) := by
      generalize xs.length - i = q
      induction q with
      | zero => rfl
      | succ q ih => rw [List.replicate_succ, List.flatten_cons, ih]; rfl
    simp only [clearE]
    rw [if_neg (by omega), hfl]
    simp only [writeB, h2]
    rw [if_pos ⟨by simp; omega, by simp [hf.one]⟩]
    rfl
  · refine .inr ⟨b, o, cap, gr, _, gr', by simp; omega, h1, List.getElem?_set_self (List.getElem?_eq_some_iff.1 h2).1, ?_, by simp; omega, by rw [setN_length]; exact h5, all_setN h6 (by simp [hf.one]), h7⟩
    unfold readN
    rw [setN_length, if_pos (by simp; omega)]
    congr 1
    refine List.ext_getElem? fun q => ?_
    rw [List.getElem?_take]
    have hlen : (xs.take i ++ List.replicate (xs.length - i) z).length = xs.length := by simp; omega
    rw [hlen, Nat.mul_one]
    by_cases hq : q < xs.length
    · rw [if_pos hq, List.getElem?_drop, setN_get _ _ _ _ (by simp; omega), List.map_append]
      simp only [List.length_replicate]
      by_cases hqi : q < i
      · rw [if_neg (by omega), List.getElem?_append_left (by simp; omega)]
        have := readN_get h3 (i := q) (by omega)
        rw [this]
        simp [hqi]
      · rw [if_pos (by omega), List.getElem?_append_right (by simp; omega)]
        simp
        rw [List.getElem?_replicate, List.getElem?_replicate]
        rw [if_pos (by omega), if_pos (by omega)]
        try rfl
    · rw [if_neg hq, List.getElem?_eq_none (by simp; omega)]
set_option maxHeartbeats 4000000 in
theorem k94 (t : AVal) (ty : TypeId) (lo : Nat) (m0 : AMem) (hlo : m0.length ≤ lo) (ys : List Int) (hn : ys.length < 2 ^ 62) (m : AMem) (hm : m0 <+: m) (hX : OwL (AVal.int .i64) lo m ty t ys) :
    ACalls Tryz.prog 94 [t] m fun v m' => m0 <+: m' ∧ Ch (fun b => t.blk = some b) m m' ∧ OwL (AVal.int .i64) lo m' ty v (cp ys ys.length) ∧ v.blk = t.blk := by
  refine w94 ?_
  simp [hX.len]
  refine bbind_dec (fun h2 => ?_) fun h2 => ?_
  · have hcp : cp ys ys.length = ys := by
      match ys, h2 with
      | [], _ => rfl
      | [a], _ => simp [cp]
      | a :: b :: r, h2 => simp at h2; omega
    simp [hm, hcp, hX]
    exact .refl _ _
  simp
  obtain ⟨I, hI⟩ : ∃ I : Nat → AFrame → AMem → Prop, ∀ q a m', I q a m' ↔ (∃ (k : Nat), k + q = ys.length ∧ 1 ≤ k ∧ a = h94_0 t (.int .i64 k) ∧ m <+: m' ∧ cp ys k = ys.take k) := ⟨_, fun _ _ _ => Iff.rfl⟩
  have h1 : cp ys 1 = ys.take 1 := by
    match ys, h2 with
    | [], h2 => simp at h2
    | a :: r, _ => simp [cp]
  refine W_loop I (ys.length - 1) ((hI _ _ _).2 ⟨1, by omega, by omega, rfl, List.prefix_refl _, h1⟩) ?_
  rintro q a m1 hIn
  obtain ⟨k, hk, hk1, rfl, hm1, hcp⟩ := (hI _ _ _).1 hIn
  clear hIn
  replace hX := hX.mono hm1
  have hch : Ch (fun b => t.blk = some b) m m1 := .of_prefix hm1
  replace hm := hm.trans hm1
  simp [hX.len]
  refine bbind_dec (fun hkl => ?_) fun hkl => ?_
  · have hw := step64 hkl hn
    obtain ⟨q, rfl⟩ : ∃ q', q = q' + 1 := ⟨q - 1, by omega⟩
    have hp := pred64 (n := k) (by omega) (by omega)
    obtain ⟨b1, o1, _, hp1, hl1, _⟩ := hX.at hkl
    obtain ⟨b0, o0, _, hp0, hl0, _⟩ := hX.at (i := k - 1) (by omega)
    simp
    refine W_drawPR (by simp [maxDst]) rfl rfl ?_
    simp [hp1, hl1, hp, hp0, hl0]
    intro m2 hm2
    replace hX := hX.mono hm2
    have hch2 := hch.trans (.of_prefix hm2)
    replace hm := hm.trans hm2
    by_cases heq : ys[k] = ys[k - 1]
    rotate_left
    · have hcp' : cp ys (k + 1) = ys.take (k + 1) := by
        rw [cp, if_neg, hcp]
        · rw [List.take_add_one, List.getElem?_eq_getElem hkl]; simp [List.getD, hkl]
        · rintro ⟨_, h⟩
          rw [List.getElem?_eq_getElem hkl, List.getElem?_eq_getElem (by omega)] at h
          exact heq (by simpa using h)
      simp [beqF heq, hw]
      exact ⟨q, by omega, (hI _ _ _).2 ⟨k + 1, by omega, by omega, by simp, hm1.trans hm2, hcp'⟩⟩
    simp [heq]
    clear hp1 hl1 hp0 hl0
    obtain ⟨s2, hs2, _, _⟩ := hX.drop (i := k) (by omega)
    have hs2' : ∀ (j : Nat), j < ys.length - k → ∀ kd, iaddrE 1 s2 (.int kd j) = iaddrE 1 t (.int kd (k + j : Nat)) := by
      intro j hj kd
      rcases hX with ⟨_, h1, _⟩ | ⟨b, o, cap, gr, bl, gr', rfl, _⟩
      · omega
      · have := hs2 .i64
        simp only [sliceE, bdE, evSlice] at this
        simp at this
        obtain ⟨_, rfl⟩ := this
        have h3 : ((j : Int) < ((ys.length - k : Nat) : Int)) := by omega
        have h4 : (((k + j : Nat) : Int) < (ys.length : Int)) := by omega
        simp only [iaddrE]
        rw [if_pos ⟨by omega, by exact_mod_cast h3⟩, if_pos ⟨by omega, by exact_mod_cast h4⟩]
        simp
        omega
    have hs2l : lenE s2 = some (.int .i64 (ys.length - k : Nat)) := by
      rcases hX with ⟨_, h1, _⟩ | ⟨b, o, cap, gr, bl, gr', rfl, _⟩
      · omega
      · have := hs2 .i64
        simp only [sliceE, bdE, evSlice] at this
        simp at this
        obtain ⟨_, rfl⟩ := this
        rfl
    simp [hs2]
    obtain ⟨J, hJ⟩ : ∃ I : Nat → AFrame → AMem → Prop, ∀ q a m', I q a m' ↔ (∃ (z p : Nat) (zs : List Int), 1 ≤ p ∧ p + q = ys.length - k ∧ a = h94_1 t (.int .i64 z) s2 (.int .i64 p) ∧ m0 <+: m' ∧ Ch (fun b => t.blk = some b) m m' ∧ OwL (AVal.int .i64) lo m' ty t zs ∧ zs.length = ys.length ∧ z + 1 ≤ k + p ∧ (∀ j, z ≤ j → zs[j]? = ys[j]?) ∧ zs.take z = cp ys (k + p)) := ⟨_, fun _ _ _ => Iff.rfl⟩
    have hcp1 : ys.take k = cp ys (k + 1) := by
      rw [cp, if_pos, hcp]
      refine ⟨by omega, ?_⟩
      rw [List.getElem?_eq_getElem hkl, List.getElem?_eq_getElem (by omega), heq]
    refine W_loop J (ys.length - k - 1) ((hJ _ _ _).2 ⟨k, 1, ys, by omega, by omega, rfl, hm, hch2, hX, rfl, by omega, fun _ _ => rfl, hcp1⟩) ?_
    clear hX hm hch hch2 hm2
    rintro q2 a m3 hIn
    obtain ⟨z, p, zs, hp1, hpq, rfl, hm, hch, hZ, hzl, hzk, hze, hzt⟩ := (hJ _ _ _).1 hIn
    clear hIn
    simp [hs2l]
    refine bbind_dec (fun hpl => ?_) fun hpl => ?_
    · have hpl : p < ys.length - k := by omega
      have hwp := step64 hpl (by omega)
      obtain ⟨q2, rfl⟩ : ∃ q', q2 = q' + 1 := ⟨q2 - 1, by omega⟩
      have hpp := pred64 (n := p) (by omega) (by omega)
      obtain ⟨b1, o1, _, hp1', hl1, _⟩ := hZ.at (i := k + p) (by omega)
      obtain ⟨b0, o0, _, hp0, hl0, _⟩ := hZ.at (i := k + p - 1) (by omega)
      have e1 := hs2' p hpl .i64
      have e0 := hs2' (p - 1) (by omega) .i64
      rw [hp1' .i64] at e1
      rw [show k + (p - 1) = k + p - 1 by omega, hp0 .i64] at e0
      have v1 : zs[k + p]'(by omega) = ys[k + p]'(by omega) := by
        have := hze (k + p) (by omega)
        rw [List.getElem?_eq_getElem (by omega), List.getElem?_eq_getElem (by omega)] at this
        simpa using this
      have v0 : zs[k + p - 1]'(by omega) = ys[k + p - 1]'(by omega) := by
        have := hze (k + p - 1) (by omega)
        rw [List.getElem?_eq_getElem (by omega), List.getElem?_eq_getElem (by omega)] at this
        simpa using this
      rw [v1] at hl1
      rw [v0] at hl0
      simp
      refine W_drawPR (by simp [maxDst]) rfl rfl ?_
      simp [e1, hl1, hpp, e0, hl0]
      intro m4 hm4
      have hZ4 := hZ.mono hm4
      by_cases hne : ys[k + p]'(by omega) = ys[k + p - 1]'(by omega)
      · have hcp' : cp ys (k + p + 1) = cp ys (k + p) := by
          rw [cp, if_pos]
          refine ⟨by omega, ?_⟩
          rw [List.getElem?_eq_getElem (by omega), List.getElem?_eq_getElem (by omega), hne]
        simp [hne, hwp]
        exact ⟨q2, by omega, (hJ _ _ _).2 ⟨z, p + 1, zs, by omega, by omega, by simp, hm.trans hm4, hch.trans (.of_prefix hm4), hZ4, hzl, by omega, hze, by rw [hzt, ← hcp']; rfl⟩⟩
      · have hcp' : cp ys (k + p + 1) = cp ys (k + p) ++ [ys[k + p]'(by omega)] := by
          rw [cp, if_neg]
          · simp [List.getD, show k + p < ys.length by omega]
          · rintro ⟨_, h⟩
            rw [List.getElem?_eq_getElem (by omega), List.getElem?_eq_getElem (by omega)] at h
            exact hne (by simpa using h)
        have hwz := step64 (k := z) (n := ys.length) (by omega) hn
        obtain ⟨bz, oz, hbz, hpz, _, hstz⟩ := hZ4.at (i := z) (by omega)
        obtain ⟨m5, hst, hch5, hZ5⟩ := hstz (ys[k + p]'(by omega))
        simp [bneT hne, e1, loadE_mono hm4 hl1, hpz, hst, hwz, hwp]
        refine ⟨q2, by omega, (hJ _ _ _).2 ⟨z + 1, p + 1, zs.set z (ys[k + p]'(by omega)), by omega, by omega, by simp, hch5.pre (hm.trans hm4) fun b hb => ?_, (hch.trans (.of_prefix hm4)).trans (hch5.weaken fun b _ hb => by rw [hb]; exact hbz), hZ5, by simpa using hzl, by omega, fun j hj => ?_, ?_⟩⟩
        · have := (hZ4.blk_lo hbz).1; omega
        · rw [List.getElem?_set_ne (by omega)]; exact hze j (by omega)
        · rw [show k + (p + 1) = k + p + 1 by omega, hcp', ← hzt, List.take_add_one, List.getElem?_set_self (by omega)]
          simp [List.take_set]
          exact List.set_eq_of_length_le (by simp; omega)
    · have hpe : k + p = ys.length := by omega
      obtain ⟨s3, m4, hs3, hcl, hch4, hZ4⟩ := hZ.clear (i := z) (by omega) 0
      obtain ⟨s4, hs4, hZ5, hbl⟩ := hZ4.take (i := z) (by simp; omega)
      simp [hs3, hcl, hs4]
      rw [List.take_append_of_le_length (by simp; omega), List.take_take, Nat.min_self, hzt, hpe] at hZ5
      exact ⟨hch4.pre hm fun b hb hbb => by have := (hZ.blk_lo hbb).1; omega, hch.trans hch4, hZ5, hbl⟩
  · have hkl : k = ys.length := by omega
    subst hkl
    rw [List.take_length] at hcp
    simp [hm, hcp, hX]
    exact hch
end Go.Proofs.YtheadodblifklaaGreat

namespace Go.Proofs.YtheadodblifklaaGreat
open Go Ax
open Relation
set_option maxRecDepth 100000
theorem k87 (v : AVal) (O : List Bool) (i : Nat) (b : Nat) (m : AMem) (hb : loadE m 1 false (.ptr b 0) = some v) (hO : RBools m v O) (hi : i < O.length) : ACalls Tryz.prog 87 [.int .i64 i, .ptr b 0] m fun r m' => r = .bool O[i] ∧ m' = m := by
  refine w87 ?_
  obtain ⟨b', o, h1, h2⟩ := hO.at hi
  simp [hb, h1, h2]
open Classical in
set_option maxHeartbeats 4000000 in
theorem k49 (s : AVal) (l : List Md) (m : AMem) (hs : RTab m s l) (hsz : ∀ x ∈ l, smallN x) (hl : l.length < 2 ^ 62) :
    ACalls Tryz.prog 49 [s] m fun v m' => v = .int .i64 (checkI l) ∧ m <+: m' := by
  refine w49 ?_
  simp [hs.len]
  generalize hC : checkI l = C
  unfold checkI at hC
  refine bbind_dec (fun h => ?_) fun h => ?_
  · rw [if_pos (by omega)] at hC
    simp [← hC]
  rw [if_neg (by omega)] at hC
  have hn : l.length ≤ 512 := by omega
  simp [hs.len]
  have hlen : (l.map (oneI · l.length)).length = l.length := by simp
  obtain ⟨I, hI⟩ : ∃ I : Nat → AFrame → AMem → Prop, ∀ q a m', I q a m' ↔ (∃ (k : Nat), k + q = l.length ∧ a = h49_0 s s (.int .i64 l.length) (.int .i64 k) ∧ m <+: m' ∧ ∀ j (hj : j < l.length), j < k → oneI l[j] l.length = 0) := ⟨_, fun _ _ _ => Iff.rfl⟩
  refine W_loop I l.length ((hI _ _ _).2 ⟨0, by simp, rfl, List.prefix_refl _, fun _ _ h => by omega⟩) ?_
  rintro q a m1 hIn
  obtain ⟨k, hk, rfl, hm1, hz⟩ := (hI _ _ _).1 hIn
  clear hIn
  simp
  refine bbind_dec (fun hkl => ?_) fun hkl => ?_
  · have hw := step64 hkl hl
    obtain ⟨q, rfl⟩ : ∃ q', q = q' + 1 := ⟨q - 1, by omega⟩
    obtain ⟨bx', ox, c, h4, h5, _, _, h6⟩ := hs.atC hkl
    replace h5 := loadE_mono hm1 h5
    have hcl := h6.all
    simp [h4, h5]
    rw [store_new _ _ c _ _ 6 hcl.1 rfl hcl.2]
    have hb := readB_new m1 c 49 none
    have hm2 : m1 <+: m1 ++ [.own c 49 none] := List.prefix_append _ _
    replace hm2 := hm1.trans hm2
    have hrn : readN c 0 6 = some c := by unfold readN; rw [if_pos (by omega), List.drop_zero, List.take_of_length_le (by omega)]
    generalize m1 ++ [.own c 49 none] = m2 at *
    simp [bxW hb, hrn]
    refine C_of (k82 s l c l[k] m2 (hs.mono hm2) (h6.mono hm2) (hsz _ (List.getElem_mem hkl))) ?_
    rintro _ m3 ⟨rfl, hm3⟩
    simp
    refine bbind_intro (fun h1 => ?_) fun h1 => ?_
    · have h1 : oneI l[k] l.length ≠ 0 := by simpa using h1
      have : firstI (l.map (oneI · l.length)) = oneI l[k] l.length := by
        rw [firstI_at (k := k) (by rw [hlen]; exact hkl) (fun j hj hjk => by simpa using hz j (by rw [hlen] at hj; exact hj) hjk) (by simpa using h1)]
        simp
      rw [this, if_pos h1] at hC
      simp [hC, hm2.trans hm3]
    · simp [hw]
      refine ⟨q, by omega, (hI _ _ _).2 ⟨k + 1, by omega, by simp, hm2.trans hm3, fun j hj hjk => ?_⟩⟩
      by_cases hjk' : j = k
      · subst hjk'; simpa using h1
      · exact hz j hj (by omega)
  have hf : firstI (l.map (oneI · l.length)) = 0 := by
    rw [firstI_zero]
    intro x hx
    obtain ⟨y, hy, rfl⟩ := List.mem_map.1 hx
    obtain ⟨j, hj, rfl⟩ := List.mem_iff_getElem.1 hy
    exact hz j hj (by omega)
  rw [if_neg (by simp [hf])] at hC
  have hg := goodT_of hf
  have hone := fun {x} (hx : x ∈ l) => one_of hf hx
  simp [hs.len]
  clear hI I hz hk hkl
  obtain ⟨I, hI⟩ : ∃ I : Nat → AFrame → AMem → Prop, ∀ q a m', I q a m' ↔ (∃ (k : Nat), k + q = l.length ∧ a = h49_1 s s (.int .i64 l.length) (.int .i64 k) ∧ m <+: m' ∧ ∀ j (hj : j < l.length), j < k → voidsB l l[j] = false) := ⟨_, fun _ _ _ => Iff.rfl⟩
  refine W_loop I l.length ((hI _ _ _).2 ⟨0, by simp, rfl, hm1, fun _ _ h => by omega⟩) ?_
  clear hm1
  rintro q a m1 hIn
  obtain ⟨k, hk, rfl, hm1, hz⟩ := (hI _ _ _).1 hIn
  clear hIn
  simp
  refine bbind_dec (fun hkl => ?_) fun hkl => ?_
  · have hw := step64 hkl hl
    obtain ⟨q, rfl⟩ : ∃ q', q = q' + 1 := ⟨q - 1, by omega⟩
    obtain ⟨bx', ox, c, h4, h5, _, _, h6⟩ := hs.atC hkl
    replace h5 := loadE_mono hm1 h5
    have hcl := h6.all
    simp [h4, h5]
    rw [store_new _ _ c _ _ 6 hcl.1 rfl hcl.2]
    have hb := readB_new m1 c 49 none
    have hm2 : m1 <+: m1 ++ [.own c 49 none] := List.prefix_append _ _
    replace hm2 := hm1.trans hm2
    have hrn : readN c 0 6 = some c := by unfold readN; rw [if_pos (by omega), List.drop_zero, List.take_of_length_le (by omega)]
    generalize m1 ++ [.own c 49 none] = m2 at *
    have hxm : l[k] ∈ l := List.getElem_mem hkl
    simp [bxW hb, hrn]
    refine C_of (k83 s l c l[k] m2 (hs.mono hm2) (h6.mono hm2) (hg _ hxm) (proc_of (hone hxm)) (hsz _ hxm)) ?_
    rintro _ m3 ⟨rfl, hm3⟩
    simp
    refine bbind_intro (fun h1 => ?_) fun h1 => ?_
    · rw [if_pos (any_true hkl h1)] at hC
      simp [← hC, hm2.trans hm3]
    · simp [hw]
      refine ⟨q, by omega, (hI _ _ _).2 ⟨k + 1, by omega, by simp, hm2.trans hm3, fun j hj hjk => ?_⟩⟩
      by_cases hjk' : j = k
      · subst hjk'; exact h1
      · exact hz j hj (by omega)
  rw [if_neg (by rw [any_false fun j hj => hz j hj (by omega)]; simp)] at hC
  simp
  clear hI I hz hk hkl
  refine C_of (k85 s l m1 (hs.mono hm1) hg hn hsz) ?_
  rintro v m2 ⟨hm2, T, hT, hTl, hTj⟩
  replace hm2 := hm1.trans hm2
  simp
  refine C_of (k84 v T false m2 hT.bools (by omega)) ?_
  rintro _ m2 ⟨rfl, rfl⟩
  simp
  have hbad : (T.any fun x => !x) = true ↔ ∃ r, r < l.length ∧ badM l r := by
    rw [← okM_false, List.any_eq_true]
    constructor
    · rintro ⟨x, hx, h1⟩
      obtain ⟨j, hj, rfl⟩ := List.mem_iff_getElem.1 hx
      refine ⟨j, by omega, fun hok => ?_⟩
      have := (hTj j).2 ⟨by omega, hok⟩
      rw [List.getElem?_eq_getElem hj] at this
      simp at this
      rw [this] at h1
      cases h1
    · rintro ⟨j, hj, hok⟩
      refine ⟨T[j]'(by omega), List.getElem_mem _, ?_⟩
      cases hc : T[j]'(by omega)
      · rfl
      · exact absurd ((hTj j).1 (by rw [List.getElem?_eq_getElem (by omega), hc])).2 hok
  refine bbind_intro (fun h1 => ?_) fun h1 => ?_
  · rw [if_pos (hbad.1 h1)] at hC
    simp [← hC, hm2]
  have hnb : ¬ ∃ r, r < l.length ∧ badM l r := fun h => by rw [hbad.2 h] at h1; cases h1
  rw [if_neg hnb] at hC
  have hac := acyc_of hnb
  simp
  refine C_of (k86 s l m2 (hs.mono hm2) hg hac hn hsz) ?_
  rintro v' m3 ⟨hm3, O, hO, hOl, hOj⟩
  replace hm3 := hm2.trans hm3
  have hvc : v'.cells = [v'] ∧ v'.one = true := (Ow.sl hO).self.symm
  simp
  rw [store_new1 _ _ _ _ _ hvc.1 hvc.2]
  have hb8 := readB_new m3 [v'] 83 none
  have hm4 : m3 <+: m3 ++ [.own [v'] 83 none] := List.prefix_append _ _
  replace hO := hO.mono hm4
  replace hm4 := hm3.trans hm4
  generalize m3 ++ [.own [v'] 83 none] = m4 at *
  generalize m3.length = b8 at *
  simp [hs.len]
  obtain ⟨I, hI⟩ : ∃ I : Nat → AFrame → AMem → Prop, ∀ q a m', I q a m' ↔ (∃ (k : Nat), k + q = l.length ∧ a = h49_2 (.ptr b8 0) s (.int .i64 l.length) (.int .i64 k) ∧ m4 <+: m' ∧ ∀ j (hj : j < l.length), j < k → ¬ (flexOf l[j] = true ∧ ∃ e ∈ l[j].elems, FlexP l e.toNat)) := ⟨_, fun _ _ _ => Iff.rfl⟩
  refine W_loop I l.length ((hI _ _ _).2 ⟨0, by simp, rfl, List.prefix_refl _, fun _ _ h => by omega⟩) ?_
  rintro q a m5 hIn
  obtain ⟨k, hk, rfl, hm5, hz⟩ := (hI _ _ _).1 hIn
  clear hIn
  simp
  refine bbind_dec (fun hkl => ?_) fun hkl => ?_
  · have hw := step64 hkl hl
    obtain ⟨q, rfl⟩ : ∃ q', q = q' + 1 := ⟨q - 1, by omega⟩
    obtain ⟨bx', ox, c, h4, h5, _, _, h6⟩ := hs.atC hkl
    have hm45 := hm4.trans hm5
    replace h5 := loadE_mono hm45 h5
    have hcl := h6.all
    simp [h4, h5]
    rw [store_new _ _ c _ _ 6 hcl.1 rfl hcl.2]
    have hb := readB_new m5 c 49 none
    have hm6 : m5 <+: m5 ++ [.own c 49 none] := List.prefix_append _ _
    generalize m5 ++ [.own c 49 none] = m6 at *
    generalize m5.length = b10 at *
    have hxm : l[k] ∈ l := List.getElem_mem hkl
    obtain ⟨e, nm, c0, c1, c2, c3, c4, c5, he, hnm, rfl⟩ := h6.get
    have hgx := hg _ hxm
    have hszx := hsz _ hxm
    have hmem : ∀ (j : Nat) (hj : j < l.length), j < k + 1 → (¬ (flexOf l[k] = true ∧ ∃ e ∈ l[k].elems, FlexP l e.toNat)) → ¬ (flexOf l[j] = true ∧ ∃ e ∈ l[j].elems, FlexP l e.toNat) := fun j hj hjk hn => by
      by_cases hjk' : j = k
      · subst hjk'; exact hn
      · exact hz j hj (by omega)
    have hyes : flexOf l[k] = true → (∃ e ∈ l[k].elems, FlexP l e.toNat) → C = 7 := fun h1 h2 => by
      rw [if_pos ⟨l[k], hxm, h1, h2⟩] at hC; exact hC.symm
    generalize l[k] = x at *
    have hm56 := hm5.trans hm6
    by_cases hfx : flexOf x = true
    rotate_left
    · have hx12 : ¬ x.kind = 12 := fun h => hfx (by simp [flexOf, h])
      have hx13 : ¬ x.kind = 13 := fun h => hfx (by simp [flexOf, h])
      simp [bx hb, beqF hx12, beqF hx13, hw]
      exact ⟨q, by omega, (hI _ _ _).2 ⟨k + 1, by omega, by simp, hm56, fun j hj hjk => hmem j hj hjk fun h => hfx h.1⟩⟩
    have call : ∀ y ∈ x.elems, ∀ m', m6 <+: m' → ACalls Tryz.prog 87 ([] ++ [.int .i64 y] ++ [.ptr b8 0]) m' fun v m'' => v = .bool ((O[y.toNat]?).getD false) ∧ m' <+: m'' := by
      intro y hy m' hm'
      have := hgx y hy
      obtain ⟨j, rfl⟩ : ∃ j : Nat, y = j := ⟨y.toNat, by omega⟩
      have hj : j < O.length := by omega
      refine (k87 v' O j b8 m' (by rw [bx (readB_mono (hm56.trans hm') hb8)]; rfl) ((hO.bools).mono (hm56.trans hm')) hj).mono ?_
      rintro _ _ ⟨rfl, rfl⟩
      simp [hj]
    have hany : x.elems.any (fun y => (O[y.toNat]?).getD false) = true ↔ ∃ e ∈ x.elems, FlexP l e.toNat := by
      rw [List.any_eq_true]
      constructor
      · rintro ⟨y, hy, h1⟩
        have hgy := hgx y hy
        have hj : y.toNat < O.length := by omega
        rw [List.getElem?_eq_getElem hj] at h1
        simp at h1
        exact ⟨y, hy, ((hOj _).1 (by rw [List.getElem?_eq_getElem hj, h1])).2⟩
      · rintro ⟨y, hy, h1⟩
        have hgy := hgx y hy
        refine ⟨y, hy, ?_⟩
        rw [(hOj _).2 ⟨by omega, h1⟩]; rfl
    have rest : ∀ m7, m6 <+: m7 → m <+: m7 := fun m7 hm7 => (hm45.trans hm6).trans hm7
    by_cases h12 : x.kind = 12
    · simp [bx hb, h12]
      refine C_of (k47 e _ _ m6 (he.mono (hm45.trans hm6)) hszx.1 _ [] [.ptr b8 0] call) ?_
      rintro _ m7 ⟨rfl, hm7⟩
      simp
      refine bbind_intro (fun h1 => ?_) fun h1 => ?_
      · simp [hyes hfx (hany.1 h1), rest m7 hm7]
      · simp [hw]
        exact ⟨q, by omega, (hI _ _ _).2 ⟨k + 1, by omega, by simp, hm56.trans hm7, fun j hj hjk => hmem j hj hjk fun h => by rw [hany.2 h.2] at h1; cases h1⟩⟩
    · have h13 : x.kind = 13 := by simp [flexOf] at hfx; omega
      simp [bx hb, h13]
      refine C_of (k47 e _ _ m6 (he.mono (hm45.trans hm6)) hszx.1 _ [] [.ptr b8 0] call) ?_
      rintro _ m7 ⟨rfl, hm7⟩
      simp
      refine bbind_intro (fun h1 => ?_) fun h1 => ?_
      · simp [hyes hfx (hany.1 h1), rest m7 hm7]
      · simp [hw]
        exact ⟨q, by omega, (hI _ _ _).2 ⟨k + 1, by omega, by simp, hm56.trans hm7, fun j hj hjk => hmem j hj hjk fun h => by rw [hany.2 h.2] at h1; cases h1⟩⟩
  · rw [if_neg] at hC
    · simp [← hC, hm4.trans hm5]
    · rintro ⟨x, hx, h1⟩
      obtain ⟨j, hj, rfl⟩ := List.mem_iff_getElem.1 hx
      exact hz j hj (by omega) h1
end Go.Proofs.YtheadodblifklaaGreat

namespace Go.Proofs.YtheadodblifklaaGreat
open Go Ax
open Relation
set_option maxRecDepth 100000
theorem voids_iff (l : List Md) (x : Md) : voidsB l x = true ↔ ∃ (k : Nat) (e : Int), x.elems[k]? = some e ∧ voidE l e = true ∧ ¬ (x.kind = 13 ∧ k + 1 = x.elems.length) ∧ ¬ x.kind = 12 := by
  unfold voidsB
  by_cases h12 : x.kind = 12
  · rw [if_pos h12]
    constructor
    · intro h; cases h
    · rintro ⟨_, _, _, _, _, h⟩; exact absurd h12 h
  · rw [if_neg h12]
    by_cases h13 : x.kind = 13
    · rw [if_pos h13, List.any_eq_true]
      constructor
      · rintro ⟨e, he, h⟩
        obtain ⟨k, hk, rfl⟩ := List.mem_iff_getElem.1 he
        rw [List.length_dropLast] at hk
        exact ⟨k, x.elems[k], List.getElem?_eq_getElem (by omega), by simpa using h, fun h => by omega, h12⟩
      · rintro ⟨k, e, h1, h2, h3, _⟩
        obtain ⟨hk, rfl⟩ := List.getElem?_eq_some_iff.1 h1
        have : k < x.elems.dropLast.length := by
          rw [List.length_dropLast]
          have := fun h => h3 ⟨h13, h⟩
          omega
        exact ⟨x.elems[k], List.mem_iff_getElem.2 ⟨k, this, by simp⟩, h2⟩
    · rw [if_neg h13, List.any_eq_true]
      constructor
      · rintro ⟨e, he, h⟩
        obtain ⟨k, hk, rfl⟩ := List.mem_iff_getElem.1 he
        exact ⟨k, x.elems[k], List.getElem?_eq_getElem hk, h, fun h => h13 h.1, h12⟩
      · rintro ⟨k, e, h1, h2, _, _⟩
        exact ⟨e, List.mem_of_getElem? h1, h2⟩
theorem Ax.RTab.elems {m : AMem} {s : AVal} {l : List Md} (h : RTab m s l) {i : Nat} (hi : i < l.length) : ∃ b o e, (∀ k, iaddrE 6 s (.int k i) = some (.ptr b o)) ∧ (∀ m', m <+: m' → loadE m' 1 false (.ptr b o) = some (.int .i64 l[i].kind) ∧ loadE m' 1 false (.ptr b (o + 2)) = some e) ∧ RInts m e l[i].elems := by
  obtain ⟨b, o, e, nm, h1, _, h2, _, h3, _, _, _, h4, _⟩ := h.at hi
  exact ⟨b, o, e, h1, fun m' hm => ⟨loadE_mono hm h2, loadE_mono hm h3⟩, h4⟩
theorem stepsP_1 : stepsP 1 = fun x => !yinB x := by funext x; simp [stepsP]
theorem stepsP_2 : stepsP 2 = fun x => !yangB x := by funext x; simp [stepsP]
open Classical in
set_option maxHeartbeats 4000000 in
theorem k70 (s : AVal) (l : List Md) (m : AMem) (hs : RTab m s l) (hsz : ∀ x ∈ l, smallN x) (hl : l.length < 2 ^ 62) :
    ACalls Tryz.prog 70 [s] m fun v m' => v = .int .i64 (checkI l) ∧ m <+: m' := by
  refine w70 ?_
  simp [hs.len]
  generalize hC : checkI l = C
  unfold checkI at hC
  refine bbind_dec (fun h => ?_) fun h => ?_
  · rw [if_pos (by omega)] at hC
    simp [← hC]
  rw [if_neg (by omega)] at hC
  have hn : l.length ≤ 512 := by omega
  simp
  have hlen : (l.map (oneI · l.length)).length = l.length := by simp
  obtain ⟨I, hI⟩ : ∃ I : Nat → AFrame → AMem → Prop, ∀ q a m', I q a m' ↔ (∃ (k : Nat), k + q = l.length ∧ a = h70_0 s (.int .i64 k) ∧ m <+: m' ∧ ∀ j (hj : j < l.length), j < k → oneI l[j] l.length = 0) := ⟨_, fun _ _ _ => Iff.rfl⟩
  refine W_loop I l.length ((hI _ _ _).2 ⟨0, by simp, rfl, List.prefix_refl _, fun _ _ h => by omega⟩) ?_
  rintro q a m1 hIn
  obtain ⟨k, hk, rfl, hm1, hz⟩ := (hI _ _ _).1 hIn
  clear hIn
  simp [hs.len]
  refine bbind_dec (fun hkl => ?_) fun hkl => ?_
  · have hw := step64 hkl hl
    obtain ⟨q, rfl⟩ : ∃ q', q = q' + 1 := ⟨q - 1, by omega⟩
    obtain ⟨bx', ox, c, h4, h5, _, _, h6⟩ := hs.atC hkl
    replace h5 := loadE_mono hm1 h5
    simp [h4, h5, hs.len]
    refine C_of (k111 c l[k] l.length m1 (h6.mono hm1) (hsz _ (List.getElem_mem hkl))) ?_
    rintro _ m3 ⟨rfl, hm3⟩
    simp
    refine bbind_intro (fun h1 => ?_) fun h1 => ?_
    · have h1 : oneI l[k] l.length ≠ 0 := by simpa using h1
      have : firstI (l.map (oneI · l.length)) = oneI l[k] l.length := by
        rw [firstI_at (k := k) (by rw [hlen]; exact hkl) (fun j hj hjk => by simpa using hz j (by rw [hlen] at hj; exact hj) hjk) (by simpa using h1)]
        simp
      rw [this, if_pos h1] at hC
      simp [hC, hm1.trans hm3]
    · simp [hw]
      refine ⟨q, by omega, (hI _ _ _).2 ⟨k + 1, by omega, by simp, hm1.trans hm3, fun j hj hjk => ?_⟩⟩
      by_cases hjk' : j = k
      · subst hjk'; simpa using h1
      · exact hz j hj (by omega)
  have hf : firstI (l.map (oneI · l.length)) = 0 := by
    rw [firstI_zero]
    intro x hx
    obtain ⟨y, hy, rfl⟩ := List.mem_map.1 hx
    obtain ⟨j, hj, rfl⟩ := List.mem_iff_getElem.1 hy
    exact hz j hj (by omega)
  rw [if_neg (by simp [hf])] at hC
  have hg := goodT_of hf
  have hone := fun {x} (hx : x ∈ l) => one_of hf hx
  simp
  clear hI I hz hk hkl
  obtain ⟨I, hI⟩ : ∃ I : Nat → AFrame → AMem → Prop, ∀ q a m', I q a m' ↔ (∃ (k : Nat), k + q = l.length ∧ a = h70_1 s (.int .i64 k) ∧ m <+: m' ∧ ∀ j (hj : j < l.length), j < k → voidsB l l[j] = false) := ⟨_, fun _ _ _ => Iff.rfl⟩
  refine W_loop I l.length ((hI _ _ _).2 ⟨0, by simp, rfl, hm1, fun _ _ h => by omega⟩) ?_
  clear hm1
  rintro q a m1 hIn
  obtain ⟨k, hk, rfl, hm1, hz⟩ := (hI _ _ _).1 hIn
  clear hIn
  simp [hs.len]
  refine bbind_dec (fun hkl => ?_) fun hkl => ?_
  · have hw := step64 hkl hl
    obtain ⟨q, rfl⟩ : ∃ q', q = q' + 1 := ⟨q - 1, by omega⟩
    obtain ⟨bk, ok, e, h4, h5, he⟩ := hs.elems hkl
    have hxm : l[k] ∈ l := List.getElem_mem hkl
    have hmem : ∀ (j : Nat) (hj : j < l.length), j < k + 1 → voidsB l l[k] = false → voidsB l l[j] = false := fun j hj hjk hn => by
      by_cases hjk' : j = k
      · subst hjk'; exact hn
      · exact hz j hj (by omega)
    have hyes : voidsB l l[k] = true → C = 7 := fun h1 => by
      rw [if_pos (any_true hkl h1)] at hC; exact hC.symm
    have hgx := hg _ hxm
    have hszx := hsz _ hxm
    have h13 := proc_of (hone hxm)
    generalize l[k] = x at *
    simp
    obtain ⟨I2, hI2⟩ : ∃ I : Nat → AFrame → AMem → Prop, ∀ q a m', I q a m' ↔ (∃ (z : Nat), z + q = x.elems.length ∧ a = h70_2 s (.int .i64 k) (.int .i64 z) ∧ m <+: m' ∧ ∀ (j : Nat) e, j < z → x.elems[j]? = some e → ¬ (voidE l e = true ∧ ¬ (x.kind = 13 ∧ j + 1 = x.elems.length) ∧ ¬ x.kind = 12)) := ⟨_, fun _ _ _ => Iff.rfl⟩
    refine W_loop I2 x.elems.length ((hI2 _ _ _).2 ⟨0, by simp, rfl, hm1, fun _ _ h => by omega⟩) ?_
    clear hm1
    rintro p a m1 hIn
    obtain ⟨z, hk2, rfl, hm1, hz2⟩ := (hI2 _ _ _).1 hIn
    clear hIn
    obtain ⟨h5a, h5b⟩ := h5 m1 hm1
    simp [h4, h5b, (he.mono hm1).len]
    refine bbind_dec (fun hzl => ?_) fun hzl => ?_
    · have hw2 := step64 hzl hszx.1
      obtain ⟨p, rfl⟩ : ∃ p', p = p' + 1 := ⟨p - 1, by omega⟩
      obtain ⟨b1, o1, hp1, hl1⟩ := (he.mono hm1).at hzl
      have hgy := hgx _ (List.getElem_mem hzl)
      have hee : x.elems[z]? = some x.elems[z] := List.getElem?_eq_getElem hzl
      generalize x.elems[z] = ek at *
      obtain ⟨j, rfl⟩ : ∃ j : Nat, ek = j := ⟨ek.toNat, by omega⟩
      have hj : j < l.length := by omega
      obtain ⟨bj, oj, ej, h6, h7, _⟩ := hs.elems hj
      obtain ⟨h7a, _⟩ := h7 m1 hm1
      have hv : voidE l (j : Int) = (l[j].kind == 0) := by simp [voidE, hj]
      have next : ¬ (voidE l (j : Int) = true ∧ ¬ (x.kind = 13 ∧ z + 1 = x.elems.length) ∧ ¬ x.kind = 12) → I2 p (h70_2 s (.int .i64 k) (.int .i64 (z + 1 : Nat))) m1 := fun hno => by
        refine (hI2 _ _ _).2 ⟨z + 1, by omega, rfl, hm1, fun j' e' hj' he' => ?_⟩
        by_cases hjz : j' = z
        · subst hjz
          rw [hee] at he'; cases he'
          exact hno
        · exact hz2 j' e' (by omega) he'
      have stop : (voidE l (j : Int) = true ∧ ¬ (x.kind = 13 ∧ z + 1 = x.elems.length) ∧ ¬ x.kind = 12) → C = 7 := fun hyes' => hyes ((voids_iff l x).2 ⟨z, _, hee, hyes'⟩)
      have hpl : x.kind = 13 → IntKind.i64.wrap ((x.elems.length : Int) - 1) = ((x.elems.length - 1 : Nat) : Int) := fun h => pred64 (by have := h13 h; omega) hszx.1
      have hbe : (x.kind = 13) → ((z : Int) == ((x.elems.length - 1 : Nat) : Int)) = decide (z + 1 = x.elems.length) := fun h => by
        have := h13 h
        rw [Bool.eq_iff_iff]
        simp
        omega
      by_cases c13 : x.kind = 13
      · have hp13 := hpl c13
        have hb13 := hbe c13
        by_cases cz : z + 1 = x.elems.length
        · cases cv : (l[j].kind == 0)
          · simp [h4, h5a, h5b, c13, (he.mono hm1).len, hp13, hb13, cz, hp1, hl1, h6, h7a, cv, hw2]
            exact ⟨p, by omega, by simpa using next (by rw [hv, cv]; simp)⟩
          · simp [h4, h5a, h5b, c13, (he.mono hm1).len, hp13, hb13, cz, hp1, hl1, h6, h7a, cv, hw2]
            exact ⟨p, by omega, by simpa using next (fun h => h.2.1 ⟨c13, cz⟩)⟩
        · cases cv : (l[j].kind == 0)
          · simp [h4, h5a, h5b, c13, (he.mono hm1).len, hp13, hb13, cz, hp1, hl1, h6, h7a, cv, hw2]
            exact ⟨p, by omega, by simpa using next (by rw [hv, cv]; simp)⟩
          · simp [h4, h5a, h5b, c13, (he.mono hm1).len, hp13, hb13, cz, hp1, hl1, h6, h7a, cv, hw2]
            exact ⟨(stop ⟨by rw [hv, cv], fun h => cz h.2, by omega⟩).symm, hm1⟩
      · by_cases c12 : x.kind = 12
        · cases cv : (l[j].kind == 0)
          · simp [h4, h5a, h5b, c12, hp1, hl1, h6, h7a, cv, hw2]
            exact ⟨p, by omega, by simpa using next (by rw [hv, cv]; simp)⟩
          · simp [h4, h5a, h5b, c12, hp1, hl1, h6, h7a, cv, hw2]
            exact ⟨p, by omega, by simpa using next (fun h => h.2.2 c12)⟩
        · cases cv : (l[j].kind == 0)
          · simp [h4, h5a, h5b, beqF c13, hp1, hl1, h6, h7a, cv, hw2]
            exact ⟨p, by omega, by simpa using next (by rw [hv, cv]; simp)⟩
          · simp [h4, h5a, h5b, beqF c13, bneT c12, hp1, hl1, h6, h7a, cv, hw2]
            exact ⟨(stop ⟨by rw [hv, cv], fun h => c13 h.1, c12⟩).symm, hm1⟩
    · simp [hw]
      refine ⟨q, by omega, (hI _ _ _).2 ⟨k + 1, by omega, by simp, hm1, fun j hj hjk => hmem j hj hjk ?_⟩⟩
      rw [← Bool.not_eq_true, voids_iff]
      rintro ⟨j', e', h1, h2⟩
      have := (List.getElem?_eq_some_iff.1 h1).1
      exact hz2 j' e' (by omega) h1 h2
  rw [if_neg (by rw [any_false fun j hj => hz j hj (by omega)]; simp)] at hC
  simp
  clear hI I hz hk hkl
  obtain ⟨I, hI⟩ : ∃ I : Nat → AFrame → AMem → Prop, ∀ q a m', I q a m' ↔ (∃ (k : Nat), k + q = l.length ∧ a = h70_3 s (.int .i64 k) ∧ m <+: m' ∧ ∀ j, j < k → ¬ badM l j) := ⟨_, fun _ _ _ => Iff.rfl⟩
  refine W_loop I l.length ((hI _ _ _).2 ⟨0, by simp, rfl, hm1, fun _ h => by omega⟩) ?_
  clear hm1
  rintro q a m1 hIn
  obtain ⟨k, hk, rfl, hm1, hz⟩ := (hI _ _ _).1 hIn
  clear hIn
  simp [hs.len]
  refine bbind_dec (fun hkl => ?_) fun hkl => ?_
  · have hw := step64 hkl hl
    obtain ⟨q, rfl⟩ : ∃ q', q = q' + 1 := ⟨q - 1, by omega⟩
    have hyes : badM l k → C = 10 := fun h1 => by
      rw [if_pos ⟨k, hkl, h1⟩] at hC; exact hC.symm
    simp
    refine C_of (k112 s l k 1 hkl m1 (hs.mono hm1) hg hn hsz) ?_
    rintro v m2 ⟨hm2, R, hR, hRl, hRj⟩
    obtain ⟨b1, o1, _, h1, h2, _⟩ := hR.at (i := k) (by omega)
    have hRk : R[k]'(by omega) = true ↔ badY l k := by
      have := hRj k
      rw [List.getElem?_eq_getElem (by omega), Option.some.injEq, stepsP_1] at this
      exact this
    replace hm2 := hm1.trans hm2
    cases cR : R[k]'(by omega)
    rotate_left
    · simp [h1, h2, cR]
      exact ⟨(hyes (.inl (hRk.1 cR))).symm, hm2⟩
    simp [h1, h2, cR]
    have hY : ¬ badY l k := fun h => by rw [hRk.2 h] at cR; cases cR
    refine C_of (k112 s l k 2 hkl m2 (hs.mono hm2) hg hn hsz) ?_
    rintro v2 m3 ⟨hm3, R2, hR2, hRl2, hRj2⟩
    obtain ⟨b3, o3, _, h3, h4, _⟩ := hR2.at (i := k) (by omega)
    have hRk2 : R2[k]'(by omega) = true ↔ badG l k := by
      have := hRj2 k
      rw [List.getElem?_eq_getElem (by omega), Option.some.injEq, stepsP_2] at this
      exact this
    replace hm3 := hm2.trans hm3
    cases cR2 : R2[k]'(by omega)
    rotate_left
    · simp [h3, h4, cR2]
      exact ⟨(hyes (.inr (hRk2.1 cR2))).symm, hm3⟩
    simp [h3, h4, cR2, hw]
    have hG : ¬ badG l k := fun h => by rw [hRk2.2 h] at cR2; cases cR2
    refine ⟨q, by omega, (hI _ _ _).2 ⟨k + 1, by omega, by simp, hm3, fun j hjk => ?_⟩⟩
    by_cases hjk' : j = k
    · subst hjk'; exact fun h => h.elim hY hG
    · exact hz j (by omega)
  have hnb : ¬ ∃ r, r < l.length ∧ badM l r := fun ⟨r, hr, h⟩ => hz r (by omega) h
  rw [if_neg hnb] at hC
  have hac := acyc_of hnb
  simp
  clear hI I hz hk hkl
  have hc1 : (l.length : Int) ≤ 281474976710656 := by omega
  have hc2 : (l.length : Int) ≤ 9223372036854775807 := by omega
  simp [hs.len, hc1, hc2]
  have hN0 := OwL.rep (f := AVal.bool) m1 4 l.length false
  have hm2 : m1 <+: m1 ++ [.own (List.replicate l.length (.bool false)) 4 none] := List.prefix_append _ _
  generalize AVal.slice m1.length 0 l.length l.length none = t at *
  generalize m1 ++ [.own (List.replicate l.length (.bool false)) 4 none] = m2 at *
  replace hm2 := hm1.trans hm2
  have hlo := hm1.length_le
  generalize m1.length = lo at *
  obtain ⟨I, hI⟩ : ∃ I : Nat → AFrame → AMem → Prop, ∀ q a m', I q a m' ↔ (∃ (k : Nat) (N : List Bool), k + q = l.length ∧ a = h70_4 s t (.int .i64 k) ∧ m <+: m' ∧ OwL AVal.bool lo m' 4 t N ∧ N.length = l.length ∧ (∀ (j : Nat), N[j]? = some true → ¬ FlexP l j) ∧ ∀ j (hj : j < l.length), j < k → ¬ (flexOf l[j] = true ∧ ∃ e ∈ l[j].elems, FlexP l e.toNat)) := ⟨_, fun _ _ _ => Iff.rfl⟩
  refine W_loop I l.length ((hI _ _ _).2 ⟨0, _, by simp, rfl, hm2, hN0, by simp, fun j hj => (by rw [List.getElem?_replicate] at hj; split at hj <;> cases hj), fun _ _ h => by omega⟩) ?_
  clear hN0 hm2
  rintro q a m3 hIn
  obtain ⟨k, N, hk, rfl, hm3, hN, hNl, hNs, hz⟩ := (hI _ _ _).1 hIn
  clear hIn
  simp [hs.len]
  refine bbind_dec (fun hkl => ?_) fun hkl => ?_
  · have hw := step64 hkl hl
    obtain ⟨q, rfl⟩ : ∃ q', q = q' + 1 := ⟨q - 1, by omega⟩
    obtain ⟨bk, ok, e, h4, h5, he⟩ := hs.elems hkl
    have hxm : l[k] ∈ l := List.getElem_mem hkl
    have hmem : ∀ (j : Nat) (hj : j < l.length), j < k + 1 → (¬ (flexOf l[k] = true ∧ ∃ e ∈ l[k].elems, FlexP l e.toNat)) → ¬ (flexOf l[j] = true ∧ ∃ e ∈ l[j].elems, FlexP l e.toNat) := fun j hj hjk hn => by
      by_cases hjk' : j = k
      · subst hjk'; exact hn
      · exact hz j hj (by omega)
    have hyes : flexOf l[k] = true → (∃ e ∈ l[k].elems, FlexP l e.toNat) → C = 7 := fun h1 h2 => by
      rw [if_pos ⟨l[k], hxm, h1, h2⟩] at hC; exact hC.symm
    have hgx := hg _ hxm
    have hszx := hsz _ hxm
    generalize l[k] = x at *
    simp
    obtain ⟨I2, hI2⟩ : ∃ I : Nat → AFrame → AMem → Prop, ∀ q a m', I q a m' ↔ (∃ (z : Nat) (N : List Bool), z + q = x.elems.length ∧ a = h70_5 s t (.int .i64 k) (.int .i64 z) ∧ m <+: m' ∧ OwL AVal.bool lo m' 4 t N ∧ N.length = l.length ∧ (∀ (j : Nat), N[j]? = some true → ¬ FlexP l j) ∧ ∀ (j : Nat) e, j < z → x.elems[j]? = some e → ¬ (flexOf x = true ∧ FlexP l e.toNat)) := ⟨_, fun _ _ _ => Iff.rfl⟩
    refine W_loop I2 x.elems.length ((hI2 _ _ _).2 ⟨0, N, by simp, rfl, hm3, hN, hNl, hNs, fun _ _ h => by omega⟩) ?_
    clear hm3 hN hNl hNs
    rintro p a m3 hIn
    obtain ⟨z, N, hk2, rfl, hm3, hN, hNl, hNs, hz2⟩ := (hI2 _ _ _).1 hIn
    clear hIn
    obtain ⟨h5a, h5b⟩ := h5 m3 hm3
    simp [h4, h5b, (he.mono hm3).len]
    refine bbind_dec (fun hzl => ?_) fun hzl => ?_
    · have hw2 := step64 hzl hszx.1
      obtain ⟨p, rfl⟩ : ∃ p', p = p' + 1 := ⟨p - 1, by omega⟩
      obtain ⟨b1, o1, hp1, hl1⟩ := (he.mono hm3).at hzl
      have hgy := hgx _ (List.getElem_mem hzl)
      have hem : x.elems[z] ∈ x.elems := List.getElem_mem hzl
      have hee : x.elems[z]? = some x.elems[z] := List.getElem?_eq_getElem hzl
      generalize x.elems[z] = ek at *
      obtain ⟨j, rfl⟩ : ∃ j : Nat, ek = j := ⟨ek.toNat, by omega⟩
      have hj : j < l.length := by omega
      have next : ∀ (m' : AMem) N', m <+: m' → OwL AVal.bool lo m' 4 t N' → N'.length = l.length → (∀ (j : Nat), N'[j]? = some true → ¬ FlexP l j) → ¬ (flexOf x = true ∧ FlexP l j) → I2 p (h70_5 s t (.int .i64 k) (.int .i64 (z + 1 : Nat))) m' := fun m' N' h1 h2 h3 h4 hno => by
        refine (hI2 _ _ _).2 ⟨z + 1, N', by omega, rfl, h1, h2, h3, h4, fun j' e' hj' he' => ?_⟩
        by_cases hjz : j' = z
        · subst hjz
          rw [hee] at he'; cases he'
          simpa using hno
        · exact hz2 j' e' (by omega) he'
      by_cases hfx : flexOf x = true
      rotate_left
      · have hx12 : ¬ x.kind = 12 := fun h => hfx (by simp [flexOf, h])
        have hx13 : ¬ x.kind = 13 := fun h => hfx (by simp [flexOf, h])
        simp [h4, h5a, beqF hx12, beqF hx13, hw2]
        exact ⟨p, by omega, by simpa using next m3 N hm3 hN hNl hNs fun h => hfx h.1⟩
      have call := k105 s l m hs hg hac hn hsz lo hlo t (hgt l j + 1) j hj (by omega) m3 N hm3 hN hNl hNs
      by_cases h12 : x.kind = 12
      · simp [h4, h5a, h5b, h12, hp1, hl1]
        refine C_of call ?_
        rintro _ m4 ⟨hm4, ⟨b, rfl, hbf⟩, _, N', hN', hNl', hNs'⟩
        simp
        refine bbind_intro (fun h1 => ?_) fun h1 => ?_
        · simp [hm4]
          exact (hyes hfx ⟨_, hem, by simpa using hbf.1 h1⟩).symm
        · simp [hw2]
          exact ⟨p, by omega, by simpa using next m4 N' hm4 hN' hNl' hNs' fun h => by rw [hbf.2 h.2] at h1; cases h1⟩
      · have h13 : x.kind = 13 := by simp [flexOf] at hfx; omega
        simp [h4, h5a, h5b, h13, hp1, hl1]
        refine C_of call ?_
        rintro _ m4 ⟨hm4, ⟨b, rfl, hbf⟩, _, N', hN', hNl', hNs'⟩
        simp
        refine bbind_intro (fun h1 => ?_) fun h1 => ?_
        · simp [hm4]
          exact (hyes hfx ⟨_, hem, by simpa using hbf.1 h1⟩).symm
        · simp [hw2]
          exact ⟨p, by omega, by simpa using next m4 N' hm4 hN' hNl' hNs' fun h => by rw [hbf.2 h.2] at h1; cases h1⟩
    · simp [hw]
      refine ⟨q, by omega, (hI _ _ _).2 ⟨k + 1, N, by omega, by simp, hm3, hN, hNl, hNs, fun j hj hjk => hmem j hj hjk ?_⟩⟩
      rintro ⟨h1, e', he', h2⟩
      obtain ⟨j', hj', rfl⟩ := List.mem_iff_getElem.1 he'
      exact hz2 j' _ (by omega) (List.getElem?_eq_getElem hj') ⟨h1, h2⟩
  · rw [if_neg] at hC
    · simp [← hC, hm3]
    · rintro ⟨x, hx, h1⟩
      obtain ⟨j, hj, rfl⟩ := List.mem_iff_getElem.1 hx
      exact hz j hj (by omega) h1
end Go.Proofs.YtheadodblifklaaGreat

namespace Go.Proofs.YtheadodblifklaaGreat
open Go Ax
open Relation
set_option maxRecDepth 100000
def isU (x : Md) : Bool := x.kind == 12
theorem RIn.dropQ {l : List Md} {p : Md → Bool} {m : Nat} {S : List Bool} {Q : List Nat} {x k e : Nat} (h : RIn l p m S (Q ++ [e]) x k) {y : Md} (hy : l[e]? = some y) (hp : p y = false) : RIn l p m S Q x k where
  len := h.len
  q := fun z hz => h.q z (List.mem_append_left _ hz)
  s := h.s
  xr := h.xr
  px := h.px
  c := fun z hz => by
    rcases h.c z hz with h1 | h1 | h1
    · rcases List.mem_append.1 h1 with h2 | h2
      · exact .inl h2
      · rw [List.mem_singleton] at h2
        subst h2
        refine .inr (.inr fun w hw => ?_)
        obtain ⟨y', h3, h4, _⟩ := hw
        rw [hy] at h3; cases h3
        rw [hp] at h4; cases h4
    · exact .inr (.inl h1)
    · exact .inr (.inr h1)
  d := h.d
def OutOk (l : List Md) (S : List Bool) (O : List Nat) : Prop := O.Nodup ∧ ∀ i, i ∈ O ↔ S[i]? = some true ∧ ∀ y, l[i]? = some y → isU y = false
def Ap (s t : AVal) : Prop := ∀ b, s.blk = some b → t.blk ≠ some b
theorem Ap.symm {s t : AVal} (h : Ap s t) : Ap t s := fun b h1 h2 => h b h2 h1
set_option maxHeartbeats 4000000 in
theorem k89 (s : AVal) (l : List Md) (i : Nat) (hi : i < l.length) (hu : isU l[i] = true) (m : AMem) (hs : RTab m s l) (hg : goodT l) (hn : l.length ≤ 512) (hsz : ∀ x ∈ l, smallN x) :
    ACalls Tryz.prog 89 [s, .int .i64 i, .nilslice] m fun v m' => m <+: m' ∧ ∃ O, OwL natI m.length m' 3 v O ∧ O.Nodup ∧ ∀ j, j ∈ O ↔ TransGen (stepR l isU) i j ∧ ∀ y, l[j]? = some y → isU y = false := by
  refine w89 ?_
  have hc1 : (l.length : Int) ≤ 281474976710656 := by omega
  have hc2 : (l.length : Int) ≤ 9223372036854775807 := by omega
  simp [hs.len, hc1, hc2]
  have hS0 := OwL.rep (f := AVal.bool) m 4 l.length false
  have hm1 : m <+: m ++ [.own (List.replicate l.length (.bool false)) 4 none] := List.prefix_append _ _
  have ha : (AVal.slice m.length 0 l.length l.length none).blk = some m.length := rfl
  have hl1 : (m ++ [ABlk.own (List.replicate l.length (.bool false)) 4 none]).length = m.length + 1 := by simp
  generalize AVal.slice m.length 0 l.length l.length none = t7 at *
  generalize m ++ [.own (List.replicate l.length (.bool false)) 4 none] = m1 at *
  have hQ0 := OwL.new (f := natI) m1 3 [i]
  simp [setN, fillA] at hQ0 ⊢
  obtain ⟨I, hI⟩ : ∃ I : Nat → AFrame → AMem → Prop, ∀ n a m', I n a m' ↔ (∃ S Q O t7 t8 t2, cntF S + Q.length = n ∧ a = h89_0 s t2 t7 t8 ∧ m <+: m' ∧ OwL AVal.bool m.length m' 4 t7 S ∧ OwL natI m.length m' 3 t8 Q ∧ OwL natI m.length m' 3 t2 O ∧ Ap t7 t8 ∧ Ap t7 t2 ∧ Ap t8 t2 ∧ RInv l isU i S Q ∧ (∀ z ∈ Q, ∀ y, l[z]? = some y → isU y = true) ∧ OutOk l S O ∧ O.length + cntF S ≤ l.length ∧ n ≤ l.length + 1) := ⟨_, fun _ _ _ => Iff.rfl⟩
  refine W_loop I (l.length + 1) ((hI _ _ _).2 ⟨List.replicate l.length false, [i], [], t7, _, .nilslice, ?_, rfl, hm1.trans (List.prefix_append _ _), hS0.mono (List.prefix_append _ _), OwL.lo' hQ0 (by omega), OwL.nil, ?_, fun _ _ h => (by cases h), fun _ _ h => (by cases h), RInv.init hi, fun z hz y hy => ?_, ⟨List.nodup_nil, fun j => ?_⟩, ?_, by omega⟩) ?_
  · simp [cntF]
  · intro b hb
    rw [ha] at hb
    cases hb
    simp [AVal.blk, hl1]
  · rw [List.mem_singleton] at hz
    subst hz
    rw [List.getElem?_eq_getElem hi] at hy; cases hy
    exact hu
  · rw [List.getElem?_replicate]
    split <;> simp
  · simp [cntF]
  rintro n a m2 hIn
  obtain ⟨S, Q, O, t7, t8, t2, hcnt, rfl, hm2, hS, hQ, hO, hap1, hap2, hap3, hinv, hQu, hOk, hOl, hnn⟩ := (hI _ _ _).1 hIn
  clear hIn
  simp [hQ.len]
  refine bbind_dec (fun h => ?_) fun h => ?_
  · have hql : 0 < Q.length := h
    obtain ⟨x, Q', rfl⟩ : ∃ x Q', Q = x :: Q' := by
      cases Q with
      | nil => simp at hql
      | cons x Q' => exact ⟨x, Q', rfl⟩
    have hx := hinv.q x List.mem_cons_self
    obtain ⟨b8, o8, _, h2, h3, _⟩ := hQ.at hql
    obtain ⟨bx', ox, c, h4, h5, _, _, h6⟩ := hs.atC hx.1
    replace h5 := loadE_mono hm2 h5
    obtain ⟨t8', h7, h8, h9⟩ := hQ.drop (i := 1) (by simp)
    simp at h2 h3 h7 h8
    simp [h2, h3, h4, h5, h7, hQ.len]
    have hcl := h6.all
    rw [store_new _ _ c _ _ 6 hcl.1 rfl hcl.2]
    have hb := readB_new m2 c 49 none
    have hm24 : m2 <+: m2 ++ [.own c 49 none] := List.prefix_append _ _
    generalize m2 ++ [.own c 49 none] = m4 at *
    generalize m2.length = b9 at *
    obtain ⟨e, nm, c0, c1, c2, c3, c4, c5, he, hnm, rfl⟩ := h6.get
    have hQ' : ∀ z, z ∈ x :: Q' ↔ z ∈ Q' ∨ z = x := fun z => by rw [List.mem_cons]; exact Or.comm
    have hlx : l[x]? = some l[x] := List.getElem?_eq_getElem hx.1
    have hxm : l[x] ∈ l := List.getElem_mem hx.1
    have hms := hm2.trans hm24
    have hin := hinv.enter hQ' hlx (hQu x List.mem_cons_self _ hlx)
    have hQu' : ∀ z ∈ Q', ∀ y, l[z]? = some y → isU y = true := fun z hz => hQu z (List.mem_cons_of_mem _ hz)
    have hmu : cntF S + Q'.length + 1 = n := by simp at hcnt; omega
    simp [h7, bx hb, (he.mono hms).len]
    obtain ⟨I2, hI2⟩ : ∃ I : Nat → AFrame → AMem → Prop, ∀ q a m', I q a m' ↔ (∃ k S Q O t7 t8 t2, k + q = l[x].elems.length ∧ a = h89_1 s t2 t7 t8 e (.int .i64 l[x].elems.length) (.int .i64 (k : Nat)) ∧ m <+: m' ∧ OwL AVal.bool m.length m' 4 t7 S ∧ OwL natI m.length m' 3 t8 Q ∧ OwL natI m.length m' 3 t2 O ∧ Ap t7 t8 ∧ Ap t7 t2 ∧ Ap t8 t2 ∧ RIn l isU i S Q x k ∧ (∀ z ∈ Q, ∀ y, l[z]? = some y → isU y = true) ∧ OutOk l S O ∧ O.length + cntF S ≤ l.length ∧ cntF S + Q.length + 1 ≤ n) := ⟨_, fun _ _ _ => Iff.rfl⟩
    refine W_loop I2 l[x].elems.length ((hI2 _ _ _).2 ⟨0, S, Q', O, t7, t8', t2, by simp, rfl, hms, hS.mono hm24, OwL.mono h8 hm24, hO.mono hm24, by intro b hb; rw [h9]; exact hap1 b hb, hap2, by intro b hb; rw [h9] at hb; exact hap3 b hb, hin, hQu', hOk, hOl, by omega⟩) ?_
    clear hin hmu hS hO hap1 hap2 hap3 hQu' hOk hOl
    rintro q a m5 hIn
    obtain ⟨k, S, Q, O, t7, t8, t2, hk, rfl, hm5, hS, hQ, hO, hap1, hap2, hap3, hin, hQu, hOk, hOl, hmu⟩ := (hI2 _ _ _).1 hIn
    clear hIn
    simp
    refine bbind_dec (fun h => ?_) fun h => ?_
    · obtain ⟨b1, o1, hp1, hl1⟩ := (he.mono hm5).at h
      have hgx := hg _ hxm _ (List.getElem_mem h)
      have hee : l[x].elems[k]? = some l[x].elems[k] := List.getElem?_eq_getElem h
      have hw := step64 h (hsz _ hxm).1
      obtain ⟨q, rfl⟩ : ∃ q', q = q' + 1 := ⟨q - 1, by omega⟩
      revert hl1 hgx hee
      generalize l[x].elems[k] = ek
      intro hl1 hgx hee
      obtain ⟨j, rfl⟩ : ∃ j : Nat, ek = j := ⟨ek.toNat, by omega⟩
      have hj : j < S.length := by rw [hin.len]; omega
      have hjl : j < l.length := by omega
      have hlj : l[j]? = some l[j] := List.getElem?_eq_getElem hjl
      obtain ⟨b7, o7, hb7, hp7, hl7, hst7⟩ := hS.at hj
      -- the mark
      have mark : ∀ m6 S' Q O t8 t2, m <+: m6 → OwL AVal.bool m.length m6 4 t7 S → OwL natI m.length m6 3 t8 Q → OwL natI m.length m6 3 t2 O → Ap t7 t8 → Ap t7 t2 → Ap t8 t2 → S' = S.set j true → RIn l isU i S' Q x (k + 1) → (∀ z ∈ Q, ∀ y, l[z]? = some y → isU y = true) → OutOk l S' O → O.length + cntF S' ≤ l.length → cntF S' + Q.length + 1 ≤ n →
          ∃ m7, storeE m6 1 (.ptr b7 o7) (.bool true) = some (.undef, m7) ∧ I2 q (h89_1 s t2 t7 t8 e (.int .i64 l[x].elems.length) (.int .i64 (k + 1 : Nat))) m7 := by
        intro m6 S' Q O t8 t2 g1 g2 g3 g4 g5 g6 g7 g8 g9 g10 g11 g12 g13
        subst g8
        obtain ⟨b7', o7', hb7', hp7', _, hst7'⟩ := g2.at hj
        obtain ⟨rfl, rfl⟩ : b7' = b7 ∧ o7' = o7 := by have := (hp7' .i64).symm.trans (hp7 .i64); simpa using this
        obtain ⟨m7, hst, hch, hS7⟩ := hst7' true
        exact ⟨m7, hst, (hI2 _ _ _).2 ⟨k + 1, _, Q, O, t7, t8, t2, by omega, rfl, hch.pre g1 fun b hb => by have := (g2.blk_lo hb7').1; omega, hS7, g3.ch hch fun b hb hbb => g5 b7' hb7' (by rw [← hbb]; exact hb), g4.ch hch fun b hb hbb => g6 b7' hb7' (by rw [← hbb]; exact hb), g5, g6, g7, g9, g10, g11, g12, g13⟩⟩
      simp [hp1, hl1, hp7, hl7]
      by_cases hsj : S[j] = true
      · have hset : S.set j true = S := by
          refine List.ext_getElem? fun z => ?_
          rw [List.getElem?_set]
          split
          · rename_i hz; subst hz; rw [List.getElem?_eq_getElem hj, hsj]
          · rfl
        have hsj' : S[(j : Int).toNat]? = some true := by rw [Int.toNat_natCast, List.getElem?_eq_getElem hj, hsj]
        obtain ⟨m7, hst, hI7⟩ := mark m5 S Q O t8 t2 hm5 hS hQ hO hap1 hap2 hap3 hset.symm (hin.seen hlx hee hsj') hQu hOk hOl hmu
        simp [hsj, hp7, hst, hw]
        exact ⟨q, by omega, by simpa using hI7⟩
      · have hsf : S[j] = false := by simpa using hsj
        have hsf' : S[j]? = some false := by rw [List.getElem?_eq_getElem hj, hsf]
        have hcf := cntF_set hsf'
        obtain ⟨bj, oj, ej, h10, h11, _⟩ := hs.elems hjl
        obtain ⟨h11a, _⟩ := h11 m5 hm5
        have hun := hin.unseen hg hlx hee
        rw [Int.toNat_natCast] at hun
        have hOmem : ∀ z, (S.set j true)[z]? = some true ↔ z = j ∨ S[z]? = some true := fun z => by
          constructor
          · exact of_set
          · rintro (rfl | h)
            · rw [List.getElem?_set_self hj]
            · exact set_true h
        have hm6 : m5 <+: m5 ++ [.own [.int .i64 (j : Int)] 3 none] := List.prefix_append _ _
        have hml : m.length ≤ (m5 ++ [ABlk.own [.int .i64 (j : Int)] 3 none]).length := by have := hm5.length_le; simp; omega
        by_cases hju : isU l[j] = true
        · have hk12 : l[j].kind = 12 := by simpa [isU] using hju
          obtain ⟨t8'', m8, happ, hch8, hQ8, hbl⟩ := (hQ.mono hm6).push hml (by_ := 8) (by decide) j (by omega)
          simp only [natI] at happ
          obtain ⟨m9, hst, hI9⟩ := mark m8 _ (Q ++ [j]) O t8'' t2 (hch8.pre (hm5.trans hm6) fun b hb hbb => by have := (hQ.blk_lo hbb).1; omega) ((hS.mono hm6).ch hch8 fun b hb hbb => hap1 b hb hbb) hQ8 ((hO.mono hm6).ch hch8 fun b hb hbb => hap3 b hbb hb)
            (fun b hb hbb => by
              rcases hbl b hbb with h1 | h1
              · exact hap1 b hb h1
              · have := (hS.blk_lo hb).2; simp at h1; omega)
            hap2
            (fun b hb hbb => by
              rcases hbl b hb with h1 | h1
              · exact hap3 b h1 hbb
              · have := (hO.blk_lo hbb).2; simp at h1; omega)
            rfl hun (fun z hz y hy => by
              rcases List.mem_append.1 hz with hz | hz
              · exact hQu z hz y hy
              · rw [List.mem_singleton] at hz; subst hz; rw [hlj] at hy; cases hy; exact hju)
            ⟨hOk.1, fun z => by
              rw [hOk.2, hOmem]
              constructor
              · rintro ⟨h1, h2⟩; exact ⟨.inr h1, h2⟩
              · rintro ⟨rfl | h1, h2⟩
                · have := h2 _ hlj; rw [hju] at this; cases this
                · exact ⟨h1, h2⟩⟩ (by omega) (by simp; omega)
          simp [hsf, h10, h11a, hk12, fillA, setN, happ, hp7, hst, hw]
          exact ⟨q, by omega, by simpa using hI9⟩
        · have hju : isU l[j] = false := by simpa using hju
          have hk12 : ¬ l[j].kind = 12 := by simpa [isU] using hju
          obtain ⟨t2'', m8, happ, hch8, hO8, hbl⟩ := (hO.mono hm6).push hml (by_ := 8) (by decide) j (by omega)
          simp only [natI] at happ
          have hjO : j ∉ O := fun h => by have := ((hOk.2 j).1 h).1; rw [hsf'] at this; cases this
          obtain ⟨m9, hst, hI9⟩ := mark m8 _ Q (O ++ [j]) t8 t2'' (hch8.pre (hm5.trans hm6) fun b hb hbb => by have := (hO.blk_lo hbb).1; omega) ((hS.mono hm6).ch hch8 fun b hb hbb => hap2 b hb hbb) ((hQ.mono hm6).ch hch8 fun b hb hbb => hap3 b hb hbb) hO8
            hap1
            (fun b hb hbb => by
              rcases hbl b hbb with h1 | h1
              · exact hap2 b hb h1
              · have := (hS.blk_lo hb).2; simp at h1; omega)
            (fun b hb hbb => by
              rcases hbl b hbb with h1 | h1
              · exact hap3 b hb h1
              · have := (hQ.blk_lo hb).2; simp at h1; omega)
            rfl (hun.dropQ hlj hju) hQu
            ⟨List.nodup_append.2 ⟨hOk.1, by simp, fun a ha b hb => by rw [List.mem_singleton] at hb; subst hb; exact fun h => hjO (h ▸ ha)⟩, fun z => by
              rw [List.mem_append, List.mem_singleton, hOk.2, hOmem]
              constructor
              · rintro (⟨h1, h2⟩ | rfl)
                · exact ⟨.inr h1, h2⟩
                · exact ⟨.inl rfl, fun y hy => by rw [hlj] at hy; cases hy; exact hju⟩
              · rintro ⟨rfl | h1, h2⟩
                · exact .inr rfl
                · exact .inl ⟨h1, h2⟩⟩ (by simp; omega) (by omega)
          simp [hsf, h10, h11a, beqF hk12, fillA, setN, happ, hp7, hst, hw]
          exact ⟨q, by omega, by simpa using hI9⟩
    · simp
      refine ⟨cntF S + Q.length, by omega, (hI _ _ _).2 ⟨S, Q, O, t7, t8, t2, rfl, by simp, hm5, hS, hQ, hO, hap1, hap2, hap3, hin.leave fun y hy => ?_, hQu, hOk, hOl, by omega⟩⟩
      rw [hlx] at hy; cases hy
      omega
  · obtain rfl : Q = [] := by
      cases Q with
      | nil => rfl
      | cons _ _ => simp at h
    simp
    exact ⟨hm2, O, hO, hOk.1, fun j => by rw [hOk.2, hinv.done]⟩
end Go.Proofs.YtheadodblifklaaGreat

namespace Go.Proofs.YtheadodblifklaaGreat
open Go Ax
structure OrdG {α : Type} (c : α → α → Int) (D : α → Prop) : Prop where
  anti : ∀ a b, D a → D b → (c a b < 0 ↔ 0 < c b a)
  trans : ∀ a b d, D a → D b → D d → c a b ≤ 0 → c b d ≤ 0 → c a d ≤ 0
section
variable {α β : Type} {c c1 c2 : α → α → Int} {D : α → Prop}
theorem OrdG.zero (h : OrdG c D) {a b : α} (ha : D a) (hb : D b) : c a b = 0 ↔ c b a = 0 := by
  have h1 := h.anti a b ha hb
  have h2 := h.anti b a hb ha
  omega
theorem OrdG.self (h : OrdG c D) {a : α} (ha : D a) : c a a = 0 := by have := h.anti a a ha ha; omega
theorem OrdG.ge (h : OrdG c D) {a b : α} (ha : D a) (hb : D b) : 0 ≤ c a b ↔ c b a ≤ 0 := by
  have h1 := h.anti a b ha hb
  have h2 := h.anti b a hb ha
  omega
theorem OrdG.lt_le (h : OrdG c D) {a b d : α} (ha : D a) (hb : D b) (hd : D d) (h1 : c a b < 0) (h2 : c b d ≤ 0) : c a d < 0 := by
  have h3 := h.trans a b d ha hb hd (by omega) h2
  by_cases h4 : c a d = 0
  · have h5 := (h.zero ha hd).1 h4
    have h6 := h.trans b d a hb hd ha h2 (by omega)
    have := h.anti a b ha hb
    omega
  · omega
theorem OrdG.le_lt (h : OrdG c D) {a b d : α} (ha : D a) (hb : D b) (hd : D d) (h1 : c a b ≤ 0) (h2 : c b d < 0) : c a d < 0 := by
  have h3 := h.trans a b d ha hb hd h1 (by omega)
  by_cases h4 : c a d = 0
  · have h5 := (h.zero ha hd).1 h4
    have h6 := h.trans d a b hd ha hb (by omega) h1
    have := h.anti b d hb hd
    omega
  · omega
def thenC (c1 c2 : α → α → Int) (a b : α) : Int := if c1 a b ≠ 0 then c1 a b else c2 a b
theorem OrdG.then (h1 : OrdG c1 D) (h2 : OrdG c2 D) : OrdG (thenC c1 c2) D := by
  refine ⟨fun a b ha hb => ?_, fun a b d ha hb hd k1 k2 => ?_⟩
  · have e1 := h1.anti a b ha hb
    have e2 := h1.zero ha hb
    have e3 := h2.anti a b ha hb
    unfold thenC
    by_cases h : c1 a b = 0
    · have h' := e2.1 h
      simp [h, h', e3]
    · have h' : ¬ c1 b a = 0 := fun x => h (e2.2 x)
      simp [h, h', e1]
  · unfold thenC at k1 k2 ⊢
    have t1 := h1.trans a b d ha hb hd
    by_cases hab : c1 a b = 0
    · by_cases hbd : c1 b d = 0
      · have had : c1 a d = 0 := by
          have u1 := t1 (by omega) (by omega)
          have u2 := h1.trans d b a hd hb ha (by have := (h1.zero hb hd).1 hbd; omega) (by have := (h1.zero ha hb).1 hab; omega)
          have := h1.ge ha hd
          omega
        simp [hab] at k1
        simp [hbd] at k2
        simp [had]
        exact h2.trans a b d ha hb hd k1 k2
      · simp [hbd] at k2
        have := h1.le_lt ha hb hd (by omega) (by omega : c1 b d < 0)
        simp [show ¬ c1 a d = 0 by omega]; omega
    · simp [hab] at k1
      by_cases hbd : c1 b d = 0
      · have := h1.lt_le ha hb hd (by omega : c1 a b < 0) (by omega)
        simp [show ¬ c1 a d = 0 by omega]; omega
      · simp [hbd] at k2
        have := h1.lt_le ha hb hd (by omega : c1 a b < 0) (by omega)
        simp [show ¬ c1 a d = 0 by omega]; omega
theorem OrdG.pull {E : β → Prop} (h : OrdG c D) (f : β → α) (hf : ∀ x, E x → D (f x)) : OrdG (fun a b => c (f a) (f b)) E :=
  ⟨fun a b ha hb => h.anti _ _ (hf a ha) (hf b hb), fun a b d ha hb hd => h.trans _ _ _ (hf a ha) (hf b hb) (hf d hd)⟩
theorem cmpI_ordG : OrdG cmpI (fun _ => True) := ⟨cmpI_ord.anti, cmpI_ord.trans⟩
theorem OrdG.lex (h : OrdG c D) : OrdG (lexC c) (fun xs => ∀ x ∈ xs, D x) := by
  have anti : ∀ xs ys : List α, (∀ x ∈ xs, D x) → (∀ x ∈ ys, D x) → (lexC c xs ys < 0 ↔ 0 < lexC c ys xs) := by
    intro xs
    induction xs with
    | nil => intro ys _ _; cases ys <;> simp [lexC]
    | cons x xs ih =>
      intro ys hx hy
      cases ys with
      | nil => simp [lexC]
      | cons y ys =>
        have dx := hx x List.mem_cons_self
        have dy := hy y List.mem_cons_self
        have := ih ys (fun z hz => hx z (List.mem_cons_of_mem _ hz)) (fun z hz => hy z (List.mem_cons_of_mem _ hz))
        simp only [lexC]
        by_cases h0 : c x y = 0
        · have h0' := (h.zero dx dy).1 h0
          simp [h0, h0', this]
        · have h0' : ¬ c y x = 0 := fun e => h0 ((h.zero dx dy).2 e)
          simp [h0, h0', h.anti x y dx dy]
  refine ⟨anti, fun xs => ?_⟩
  induction xs with
  | nil =>
    intro ys zs _ _ _ h1 h2
    cases zs <;> simp [lexC]
  | cons x xs ih =>
    intro ys zs hx hy hz h1 h2
    cases ys with
    | nil => simp [lexC] at h1
    | cons y ys =>
      cases zs with
      | nil => simp [lexC] at h2
      | cons z zs =>
        have dx := hx x List.mem_cons_self
        have dy := hy y List.mem_cons_self
        have dz := hz z List.mem_cons_self
        have ih' := ih ys zs (fun z hz => hx z (List.mem_cons_of_mem _ hz)) (fun z hz => hy z (List.mem_cons_of_mem _ hz)) (fun w hw => hz w (List.mem_cons_of_mem _ hw))
        simp only [lexC] at h1 h2 ⊢
        by_cases hxy : c x y = 0
        · by_cases hyz : c y z = 0
          · have hxz : c x z = 0 := by
              have u1 := h.trans x y z dx dy dz (by omega) (by omega)
              have u2 := h.trans z y x dz dy dx (by have := (h.zero dy dz).1 hyz; omega) (by have := (h.zero dx dy).1 hxy; omega)
              have := h.ge dx dz
              omega
            simp [hxy] at h1
            simp [hyz] at h2
            simp [hxz]
            exact ih' h1 h2
          · simp [hyz] at h2
            have := h.le_lt dx dy dz (by omega) (by omega : c y z < 0)
            simp [show ¬ c x z = 0 by omega]; omega
        · simp [hxy] at h1
          by_cases hyz : c y z = 0
          · have := h.lt_le dx dy dz (by omega : c x y < 0) (by omega)
            simp [show ¬ c x z = 0 by omega]; omega
          · simp [hyz] at h2
            have := h.lt_le dx dy dz (by omega : c x y < 0) (by omega)
            simp [show ¬ c x z = 0 by omega]; omega
end
def cmpB (a b : UInt8) : Int := cmpI a.toNat b.toNat
theorem cmpB_ord : OrdG cmpB (fun _ => True) := cmpI_ordG.pull (fun a : UInt8 => (a.toNat : Int)) fun _ _ => trivial
theorem bytes_lex : ∀ (x y : List UInt8), (Op.bytesLess x y = true ↔ lexC cmpB x y < 0) ∧ (x = y ↔ lexC cmpB x y = 0)
  | [], [] => by simp [Op.bytesLess, lexC]
  | [], _ :: _ => by simp [Op.bytesLess, lexC]
  | _ :: _, [] => by simp [Op.bytesLess, lexC]
  | a :: x, b :: y => by
    have ih := bytes_lex x y
    have e : a = b ↔ cmpB a b = 0 := by
      unfold cmpB
      rw [cmpI_zero]
      constructor
      · rintro rfl; rfl
      · intro h; exact UInt8.toNat_inj.1 (by omega)
    have hlt : a < b ↔ cmpB a b < 0 := by
      unfold cmpB
      rw [cmpI_lt, UInt8.lt_iff_toNat_lt]
      omega
    simp only [Op.bytesLess, lexC]
    by_cases h : cmpB a b = 0
    · have hab := e.2 h
      subst hab
      have hn : ¬ a < a := fun h' => by have := hlt.1 h'; omega
      simp [h, ih.1, ih.2]
    · have hab : a ≠ b := fun h' => h (e.1 h')
      simp [h, hab, hlt]
theorem cmpS_eq (a b : ByteArray) : cmpS a b = lexC cmpB a.toList b.toList := by
  obtain ⟨h1, h2⟩ := bytes_lex a.toList b.toList
  have hr : ∀ xs ys : List UInt8, lexC cmpB xs ys = -1 ∨ lexC cmpB xs ys = 0 ∨ lexC cmpB xs ys = 1 := by
    intro xs
    induction xs with
    | nil => intro ys; cases ys <;> simp [lexC]
    | cons x xs ih =>
      intro ys
      cases ys with
      | nil => simp [lexC]
      | cons y ys =>
        simp only [lexC]
        by_cases h : cmpB x y = 0
        · simp [h]; exact ih ys
        · simp [h]
          unfold cmpB cmpI at *
          split <;> (try split) <;> simp_all
  unfold cmpS
  have h3 := hr a.toList b.toList
  cases h : Op.bytesLess a.toList b.toList
  · have hn : ¬ lexC cmpB a.toList b.toList < 0 := fun h' => by rw [h1.2 h'] at h; cases h
    by_cases he : a.toList = b.toList
    · have := h2.1 he
      simp [he] at this ⊢
      omega
    · have : ¬ lexC cmpB a.toList b.toList = 0 := fun h' => he (h2.2 h')
      simp [he]
      omega
  · have := h1.1 h
    simp
    omega
theorem cmpS_ord : OrdG cmpS (fun _ => True) := by
  have := (cmpB_ord.lex).pull (fun a : ByteArray => a.toList) (E := fun _ => True) fun _ _ _ _ => trivial
  refine ⟨fun a b ha hb => by rw [cmpS_eq, cmpS_eq]; exact this.anti a b ha hb, fun a b d ha hb hd => by rw [cmpS_eq, cmpS_eq, cmpS_eq]; exact this.trans a b d ha hb hd⟩
def lenK (x : Md) : Int := if x.kind = 12 then 0 else x.elems.length
def pullC (f : Md → Int) (x y : Md) : Int := cmpI (f x) (f y)
theorem pullC_ord (f : Md → Int) : OrdG (pullC f) (fun _ => True) := cmpI_ordG.pull f fun _ _ => trivial
theorem firstC_eq (x y : Md) : firstC x y = thenC (pullC Md.kind) (thenC (pullC Md.size) (thenC (pullC Md.dims) (thenC (pullC fun x => bi x.flex) (thenC (pullC lenK) fun x y => lexC cmpS x.names y.names)))) x y := by
  unfold firstC firstL thenC pullC
  simp only [firstNZ_cons]
  have h0 : firstNZ [] = 0 := rfl
  rw [h0]
  by_cases hk : cmpI x.kind y.kind = 0
  · have hkk : x.kind = y.kind := cmpI_zero.1 hk
    have hl : lenC x y = cmpI (lenK x) (lenK y) := by
      unfold lenC lenK
      rw [← hkk]
      split
      · rfl
      · rfl
    rw [hl]
    generalize cmpI (lenK x) (lenK y) = a5
    generalize lexC cmpS x.names y.names = a6
    by_cases h6 : a6 = 0 <;> simp [h6]
  · simp [hk]
theorem firstC_ord : OrdG firstC (fun _ => True) := by
  have h := (pullC_ord Md.kind).then ((pullC_ord Md.size).then ((pullC_ord Md.dims).then ((pullC_ord fun x => bi x.flex).then ((pullC_ord lenK).then ((cmpS_ord.lex).pull (fun x : Md => x.names) (E := fun _ => True) fun _ _ _ _ => trivial)))))
  refine ⟨fun a b ha hb => by rw [firstC_eq, firstC_eq]; exact h.anti a b ha hb, fun a b d ha hb hd => by rw [firstC_eq, firstC_eq, firstC_eq]; exact h.trans a b d ha hb hd⟩
end Go.Proofs.YtheadodblifklaaGreat

namespace Go.Proofs.YtheadodblifklaaGreat
open Go Ax
open Relation
def mdAt (l : List Md) (a : Nat) : Md := (l[a]?).getD ⟨0, 0, [], [], 0, false⟩
theorem mdAt_eq {l : List Md} {a : Nat} (h : a < l.length) : mdAt l a = l[a] := by simp [mdAt, h]
def IsPart (l : List Md) (m j : Nat) : Prop := TransGen (stepR l isU) m j ∧ ∀ y, l[j]? = some y → isU y = false
theorem IsPart.lt {l : List Md} (hg : goodT l) {m j : Nat} (h : IsPart l m j) : j < l.length := by
  have := h.1
  cases this with
  | single h1 => obtain ⟨x, h2, _, h3⟩ := h1; have := hg x (List.mem_of_getElem? h2) _ h3; omega
  | tail _ h1 => obtain ⟨x, h2, _, h3⟩ := h1; have := hg x (List.mem_of_getElem? h2) _ h3; omega
open Classical in
noncomputable def keyOf (l : List Md) (r : Nat → Nat) (m : Nat) : List Int :=
  if isU (mdAt l m) then ((List.range l.length).filter fun v => decide (∃ j, IsPart l m j ∧ r j = v)).map fun v : Nat => (v : Int)
  else (mdAt l m).elems.map fun e => (r e.toNat : Int)
noncomputable def cmpR (l : List Md) (r : Nat → Nat) (d : Nat) (a b : Nat) : Int :=
  thenC (fun a b => cmpI (r a) (r b)) (fun a b => if d = 0 then firstC (mdAt l a) (mdAt l b) else lexC cmpI (keyOf l r a) (keyOf l r b)) a b
def cntC (n : Nat) (c : Nat → Nat → Int) (i : Nat) : Nat := (List.range n).countP fun j => decide (c j i < 0)
noncomputable def R (l : List Md) : Nat → Nat → Nat
  | 0, _ => 0
  | d + 1, i => cntC l.length (cmpR l (R l d) d) i
noncomputable def RR (l : List Md) : Nat → Nat := R l (l.length + 1)
theorem cmpR_ord (l : List Md) (r : Nat → Nat) (d : Nat) : OrdG (cmpR l r d) (fun _ => True) := by
  have h1 : OrdG (fun a b : Nat => cmpI (r a) (r b)) (fun _ => True) := cmpI_ordG.pull (fun a : Nat => (r a : Int)) fun _ _ => trivial
  by_cases hd : d = 0
  · have h2 : OrdG (fun a b : Nat => firstC (mdAt l a) (mdAt l b)) (fun _ => True) := firstC_ord.pull (mdAt l) fun _ _ => trivial
    have := h1.then h2
    unfold cmpR
    simpa [hd] using this
  · have h2 : OrdG (fun a b : Nat => lexC cmpI (keyOf l r a) (keyOf l r b)) (fun _ => True) := (cmpI_ordG.lex).pull (keyOf l r) fun _ _ _ _ => trivial
    have := h1.then h2
    unfold cmpR
    simpa [hd] using this
theorem cntC_lt {n : Nat} {c : Nat → Nat → Int} (h : OrdG c (fun _ => True)) {a b : Nat} (ha : a < n) : cntC n c a < cntC n c b ↔ c a b < 0 := by
  constructor
  · intro hlt
    by_cases hc : c a b < 0
    · exact hc
    · exfalso
      have hba : c b a ≤ 0 := (h.ge trivial trivial).1 (by omega)
      have : cntC n c b ≤ cntC n c a := List.countP_mono_left fun j _ hj => by
        simp only [decide_eq_true_eq] at hj ⊢
        exact h.lt_le trivial trivial trivial hj hba
      omega
  · intro hc
    refine countP_lt (x := a) (fun j _ hj => ?_) (List.mem_range.2 ha) ?_ ?_
    · simp only [decide_eq_true_eq] at hj ⊢
      exact h.lt_le trivial trivial trivial hj (by omega)
    · have := h.self (a := a) trivial
      simp; omega
    · simpa using hc
theorem R_lt (l : List Md) (d : Nat) {a b : Nat} (ha : a < l.length) : R l (d + 1) a < R l (d + 1) b ↔ cmpR l (R l d) d a b < 0 := cntC_lt (cmpR_ord l (R l d) d) ha
theorem R_bound (l : List Md) (d : Nat) {a : Nat} (ha : a < l.length) : R l d a < l.length := by
  cases d with
  | zero => simp only [R]; omega
  | succ d =>
    have h : (List.range l.length).countP (fun j => decide (cmpR l (R l d) d j a < 0)) < (List.range l.length).countP fun _ => true := by
      refine countP_lt (x := a) (fun _ _ _ => rfl) (List.mem_range.2 ha) ?_ rfl
      have := (cmpR_ord l (R l d) d).self (a := a) trivial
      simp; omega
    simpa [R, cntC] using h
theorem R_refine (l : List Md) (d : Nat) {a b : Nat} (ha : a < l.length) (h : R l d a < R l d b) : R l (d + 1) a < R l (d + 1) b := by
  rw [R_lt l d ha]
  unfold cmpR thenC
  have : cmpI (R l d a) (R l d b) < 0 := cmpI_lt.2 (by omega)
  simp only
  rw [if_pos (by omega)]
  exact this
structure IsKey (l : List Md) (r : Nat → Nat) (m : Nat) (K : List Int) : Prop where
  un : isU (mdAt l m) = true → K.Pairwise (· < ·) ∧ ∀ v, v ∈ K ↔ ∃ j, IsPart l m j ∧ (r j : Int) = v
  el : isU (mdAt l m) = false → K = (mdAt l m).elems.map fun e => (r e.toNat : Int)
theorem keyOf_isKey {l : List Md} (hg : goodT l) {r : Nat → Nat} (hr : ∀ a, a < l.length → r a < l.length) (m : Nat) : IsKey l r m (keyOf l r m) := by
  refine ⟨fun hu => ?_, fun hu => ?_⟩
  · unfold keyOf
    rw [if_pos hu]
    refine ⟨?_, fun v => ?_⟩
    · refine List.Pairwise.map _ (R := fun a b : Nat => a < b) (fun a b hab => by omega) ?_
      exact List.Pairwise.filter _ List.pairwise_lt_range
    · simp only [List.mem_map, List.mem_filter, List.mem_range, decide_eq_true_eq]
      constructor
      · rintro ⟨w, ⟨_, j, h1, h2⟩, rfl⟩
        exact ⟨j, h1, by rw [h2]⟩
      · rintro ⟨j, h1, rfl⟩
        exact ⟨r j, ⟨hr j (h1.lt hg), j, h1, rfl⟩, rfl⟩
  · unfold keyOf
    rw [if_neg (by rw [hu]; simp)]
theorem pw_ext : ∀ {xs ys : List Int}, xs.Pairwise (· < ·) → ys.Pairwise (· < ·) → (∀ v, v ∈ xs ↔ v ∈ ys) → xs = ys
  | [], [], _, _, _ => rfl
  | [], y :: ys, _, _, h => by have := (h y).2 List.mem_cons_self; cases this
  | x :: xs, [], _, _, h => by have := (h x).1 List.mem_cons_self; cases this
  | x :: xs, y :: ys, hx, hy, h => by
    rw [List.pairwise_cons] at hx hy
    have hxy : x = y := by
      have h1 := (h x).1 List.mem_cons_self
      have h2 := (h y).2 List.mem_cons_self
      rcases List.mem_cons.1 h1 with h1 | h1
      · exact h1
      · rcases List.mem_cons.1 h2 with h2 | h2
        · exact h2.symm
        · have := hy.1 x h1
          have := hx.1 y h2
          omega
    subst hxy
    rw [pw_ext hx.2 hy.2 fun v => ?_]
    constructor
    · intro hv
      rcases List.mem_cons.1 ((h v).1 (List.mem_cons_of_mem _ hv)) with rfl | h1
      · have := hx.1 v hv; omega
      · exact h1
    · intro hv
      rcases List.mem_cons.1 ((h v).2 (List.mem_cons_of_mem _ hv)) with rfl | h1
      · have := hy.1 v hv; omega
      · exact h1
def SameOrd (n : Nat) (r r' : Nat → Nat) : Prop := ∀ a b, a < n → b < n → (r a < r b ↔ r' a < r' b)
theorem SameOrd.cmp {n : Nat} {r r' : Nat → Nat} (h : SameOrd n r r') {a b : Nat} (ha : a < n) (hb : b < n) : cmpI (r a) (r b) = cmpI (r' a) (r' b) := by
  have h1 := h a b ha hb
  have h2 := h b a hb ha
  have c1 : ((r a : Int) < r b) ↔ ((r' a : Int) < r' b) := by omega
  have c2 : ((r b : Int) < r a) ↔ ((r' b : Int) < r' a) := by omega
  simp only [cmpI, c1, c2]
theorem IsKey.reps {l : List Md} (hg : goodT l) {r r' : Nat → Nat} (h : SameOrd l.length r r') {m : Nat} (hm : m < l.length) {K K' : List Int} (hK : IsKey l r m K) (hK' : IsKey l r' m K') : ∃ us : List Nat, (∀ u ∈ us, u < l.length) ∧ K = us.map (fun u => (r u : Int)) ∧ K' = us.map (fun u => (r' u : Int)) := by
  cases hu : isU (mdAt l m)
  · refine ⟨(mdAt l m).elems.map Int.toNat, fun u hu => ?_, by rw [hK.el hu, List.map_map]; rfl, by rw [hK'.el hu, List.map_map]; rfl⟩
    obtain ⟨e, he, rfl⟩ := List.mem_map.1 hu
    rw [mdAt_eq hm] at he
    have := hg _ (List.getElem_mem hm) e he
    omega
  · obtain ⟨h1, h2⟩ := hK.un hu
    obtain ⟨h3, h4⟩ := hK'.un hu
    -- a part for each value
    have hrep : ∀ L : List Int, (∀ v ∈ L, ∃ j, IsPart l m j ∧ (r j : Int) = v) → ∃ us : List Nat, (∀ u ∈ us, IsPart l m u) ∧ L = us.map (fun u => (r u : Int)) := by
      intro L
      induction L with
      | nil => intro _; exact ⟨[], by simp, rfl⟩
      | cons v L ih =>
        intro hv
        obtain ⟨j, h5, h6⟩ := hv v List.mem_cons_self
        obtain ⟨us, h7, h8⟩ := ih fun w hw => hv w (List.mem_cons_of_mem _ hw)
        exact ⟨j :: us, fun u hu => (List.mem_cons.1 hu).elim (fun e => e ▸ h5) (h7 u), by rw [List.map_cons, ← h8, h6]⟩
    obtain ⟨us, h5, h6⟩ := hrep K fun v hv => (h2 v).1 hv
    refine ⟨us, fun u hu => (h5 u hu).lt hg, h6, pw_ext h3 ?_ fun v => ?_⟩
    · rw [h6, List.pairwise_map] at h1
      rw [List.pairwise_map]
      refine List.Pairwise.imp_of_mem (fun {a b} ha hb hab => ?_) h1
      have := (h a b ((h5 a ha).lt hg) ((h5 b hb).lt hg)).1 (by omega)
      omega
    · rw [h4]
      constructor
      · rintro ⟨j, h7, rfl⟩
        have : (r j : Int) ∈ K := (h2 _).2 ⟨j, h7, rfl⟩
        rw [h6] at this
        obtain ⟨u, h8, h9⟩ := List.mem_map.1 this
        have hju := (h5 u h8).lt hg
        have hjl := h7.lt hg
        have e1 := h j u hjl hju
        have e2 := h u j hju hjl
        refine List.mem_map.2 ⟨u, h8, ?_⟩
        have n1 : ¬ r' j < r' u := fun x => by have := e1.2 x; omega
        have n2 : ¬ r' u < r' j := fun x => by have := e2.2 x; omega
        omega
      · intro hv
        obtain ⟨u, h8, rfl⟩ := List.mem_map.1 hv
        exact ⟨u, h5 u h8, rfl⟩
theorem lex_same {n : Nat} {r r' : Nat → Nat} (h : SameOrd n r r') : ∀ {us vs : List Nat}, (∀ u ∈ us, u < n) → (∀ u ∈ vs, u < n) → lexC cmpI (us.map fun u => (r u : Int)) (vs.map fun u => (r u : Int)) = lexC cmpI (us.map fun u => (r' u : Int)) (vs.map fun u => (r' u : Int))
  | [], [], _, _ => rfl
  | [], _ :: _, _, _ => rfl
  | _ :: _, [], _, _ => rfl
  | u :: us, v :: vs, h1, h2 => by
    simp only [List.map_cons, lexC]
    rw [h.cmp (h1 u List.mem_cons_self) (h2 v List.mem_cons_self), lex_same h (fun u hu => h1 u (List.mem_cons_of_mem _ hu)) (fun u hu => h2 u (List.mem_cons_of_mem _ hu))]
theorem IsKey.cmp {l : List Md} (hg : goodT l) {r r' : Nat → Nat} (h : SameOrd l.length r r') {a b : Nat} (ha : a < l.length) (hb : b < l.length) {K K' L L' : List Int} (hK : IsKey l r a K) (hK' : IsKey l r' a K') (hL : IsKey l r b L) (hL' : IsKey l r' b L') : lexC cmpI K L = lexC cmpI K' L' := by
  obtain ⟨us, h1, rfl, rfl⟩ := hK.reps hg h ha hK'
  obtain ⟨vs, h2, rfl, rfl⟩ := hL.reps hg h hb hL'
  exact lex_same h h1 h2
theorem SameOrd.refl (n : Nat) (r : Nat → Nat) : SameOrd n r r := fun _ _ _ _ => Iff.rfl
theorem next_same {l : List Md} (hg : goodT l) {d : Nat} (hd : d ≠ 0) {r : Nat → Nat} (h : SameOrd l.length r (R l d)) {a b : Nat} (ha : a < l.length) (hb : b < l.length) {K L : List Int} (hK : IsKey l r a K) (hL : IsKey l r b L) :
    thenC (fun a b => cmpI (r a) (r b)) (fun _ _ => lexC cmpI K L) a b = cmpR l (R l d) d a b := by
  have h1 := h.cmp ha hb
  have h2 := IsKey.cmp hg h ha hb hK (keyOf_isKey hg (fun _ h => R_bound l d h) a) hL (keyOf_isKey hg (fun _ h => R_bound l d h) b)
  unfold cmpR thenC
  simp only [h1, h2, if_neg hd]
theorem R_count (l : List Md) (d : Nat) {i : Nat} : R l (d + 1) i = cntC l.length (fun a b => if R l (d + 1) a < R l (d + 1) b then -1 else 0) i := by
  conv => lhs; rw [R]
  unfold cntC
  refine List.countP_congr fun j hj => ?_
  have hj := List.mem_range.1 hj
  simp only [decide_eq_true_eq]
  rw [← R_lt l d hj]
  split <;> simp_all
theorem R_stable {l : List Md} (hg : goodT l) {d : Nat} (hd : d ≠ 0) (h : SameOrd l.length (R l (d + 1)) (R l d)) : ∀ e, ∀ a, a < l.length → R l (d + e) a = R l d a := by
  have step : ∀ f, f ≠ 0 → (∀ a, a < l.length → R l f a = R l d a) → SameOrd l.length (R l (f + 1)) (R l (d + 1)) := by
    intro f hf hfd a b ha hb
    rw [R_lt l f ha, R_lt l d ha]
    have hs : SameOrd l.length (R l f) (R l d) := fun a b ha hb => by rw [hfd a ha, hfd b hb]
    have := next_same hg hd hs ha hb (keyOf_isKey hg (fun _ h => R_bound l f h) a) (keyOf_isKey hg (fun _ h => R_bound l f h) b)
    rw [← this]
    unfold cmpR
    rw [show (fun a b => if f = 0 then firstC (mdAt l a) (mdAt l b) else lexC cmpI (keyOf l (R l f) a) (keyOf l (R l f) b)) = fun a b => lexC cmpI (keyOf l (R l f) a) (keyOf l (R l f) b) by funext a b; rw [if_neg hf]]
    unfold thenC
    exact Iff.rfl
  have same_eq : ∀ f g, f ≠ 0 → g ≠ 0 → SameOrd l.length (R l f) (R l g) → ∀ a, a < l.length → R l f a = R l g a := by
    intro f g hf hg' hs a ha
    obtain ⟨f, rfl⟩ : ∃ f', f = f' + 1 := ⟨f - 1, by omega⟩
    obtain ⟨g, rfl⟩ : ∃ g', g = g' + 1 := ⟨g - 1, by omega⟩
    rw [R_count, R_count]
    unfold cntC
    refine List.countP_congr fun j hj => ?_
    have hj := List.mem_range.1 hj
    have := hs j a hj ha
    simp only [this]
  intro e
  induction e with
  | zero => intro a _; rfl
  | succ e ih =>
    intro a ha
    refine same_eq (d + e + 1) d (by omega) hd ?_ a ha
    intro x y hx hy
    rw [step (d + e) (by omega) ih x y hx hy]
    exact h x y hx hy
theorem DenseOf.low {n k k' : Nat} {lt lt' : Nat → Nat → Prop} {ds ds' : List Nat} (h : DenseOf n lt ds k) (h' : DenseOf n lt' ds' k') (hr : ∀ a b, a < n → b < n → lt a b → lt' a b) : ∀ (x a x' : Nat), ds[a]? = some x → ds'[a]? = some x' → x ≤ x' := by
  intro x
  induction x with
  | zero => intro _ _ _ _; omega
  | succ x ih =>
    intro a x' hx hx'
    have hxk := h.bound a _ hx
    obtain ⟨b, hb⟩ := h.surj x (by omega)
    have hbn : b < n := by rw [← h.len]; exact (List.getElem?_eq_some_iff.1 hb).1
    have han : a < n := by rw [← h.len]; exact (List.getElem?_eq_some_iff.1 hx).1
    have hb' : ds'[b]? = some (ds'[b]'(by rw [h'.len]; exact hbn)) := List.getElem?_eq_getElem _
    have h1 := ih b _ hb hb'
    have h2 := hr b a hbn han ((h.ord b a _ _ hb hx).1 (by omega))
    have h3 := (h'.ord b a _ _ hb' hx').2 h2
    omega
theorem DenseOf.high {n k k' : Nat} {lt lt' : Nat → Nat → Prop} {ds ds' : List Nat} (h : DenseOf n lt ds k) (h' : DenseOf n lt' ds' k') (hr : ∀ a b, a < n → b < n → lt a b → lt' a b) : ∀ (z a x x' : Nat), ds[a]? = some x → ds'[a]? = some x' → k = x + 1 + z → x' + 1 + z ≤ k' := by
  intro z
  induction z with
  | zero =>
    intro a x x' _ hx' _
    have := h'.bound a _ hx'
    omega
  | succ z ih =>
    intro a x x' hx hx' hk
    obtain ⟨b, hb⟩ := h.surj (x + 1) (by omega)
    have hbn : b < n := by rw [← h.len]; exact (List.getElem?_eq_some_iff.1 hb).1
    have han : a < n := by rw [← h.len]; exact (List.getElem?_eq_some_iff.1 hx).1
    have hb' : ds'[b]? = some (ds'[b]'(by rw [h'.len]; exact hbn)) := List.getElem?_eq_getElem _
    have h1 := ih b _ _ hb hb' (by omega)
    have h2 := hr a b han hbn ((h.ord a b _ _ hx hb).1 (by omega))
    have h3 := (h'.ord a b _ _ hx' hb').2 h2
    omega
theorem DenseOf.mono {n k k' : Nat} {lt lt' : Nat → Nat → Prop} {ds ds' : List Nat} (h : DenseOf n lt ds k) (h' : DenseOf n lt' ds' k') (hr : ∀ a b, a < n → b < n → lt a b → lt' a b) : k ≤ k' := by
  by_cases hk : k = 0
  · omega
  · obtain ⟨a, ha⟩ := h.surj 0 (by omega)
    have han : a < n := by rw [← h.len]; exact (List.getElem?_eq_some_iff.1 ha).1
    have ha' : ds'[a]? = some (ds'[a]'(by rw [h'.len]; exact han)) := List.getElem?_eq_getElem _
    have := h.high h' hr (k - 1) a _ _ ha ha' (by omega)
    omega
theorem DenseOf.same {n k : Nat} {lt lt' : Nat → Nat → Prop} {ds ds' : List Nat} (h : DenseOf n lt ds k) (h' : DenseOf n lt' ds' k) (hr : ∀ a b, a < n → b < n → lt a b → lt' a b) : ∀ a b, a < n → b < n → (lt' a b ↔ lt a b) := by
  have e : ∀ (a x x' : Nat), ds[a]? = some x → ds'[a]? = some x' → x = x' := by
    intro a x x' hx hx'
    have h1 := h.low h' hr x a x' hx hx'
    have h2 := h.bound a _ hx
    have h3 := h.high h' hr (k - x - 1) a x x' hx hx' (by omega)
    omega
  intro a b ha hb
  have ga : ds[a]? = some (ds[a]'(by rw [h.len]; exact ha)) := List.getElem?_eq_getElem _
  have gb : ds[b]? = some (ds[b]'(by rw [h.len]; exact hb)) := List.getElem?_eq_getElem _
  have ga' : ds'[a]? = some (ds'[a]'(by rw [h'.len]; exact ha)) := List.getElem?_eq_getElem _
  have gb' : ds'[b]? = some (ds'[b]'(by rw [h'.len]; exact hb)) := List.getElem?_eq_getElem _
  rw [← h.ord a b _ _ ga gb, ← h'.ord a b _ _ ga' gb', e a _ _ ga ga', e b _ _ gb gb']
end Go.Proofs.YtheadodblifklaaGreat

namespace Go.Proofs.YtheadodblifklaaGreat
open Go Ax
theorem pigeon : ∀ (k : Nat) (xs : List Nat), (∀ v, v < k → v ∈ xs) → k ≤ xs.length
  | 0, _, _ => Nat.zero_le _
  | k + 1, xs, h => by
    have h1 : k ≤ (xs.filter fun x => x != k).length := pigeon k _ fun v hv => by
      rw [List.mem_filter]
      exact ⟨h v (by omega), by simp; omega⟩
    have h2 : (xs.filter fun x => x != k).length < xs.length := by
      rw [List.length_filter_lt_length_iff_exists]
      exact ⟨k, h k (by omega), by simp⟩
    omega
theorem nodup_le : ∀ (n : Nat) (xs : List Nat), xs.Nodup → (∀ x ∈ xs, x < n) → xs.length ≤ n
  | 0, [], _, _ => Nat.le_refl _
  | 0, x :: _, _, h => by have := h x List.mem_cons_self; omega
  | n + 1, xs, hd, h => by
    have h1 : (xs.filter fun x => x != n).length ≤ n := nodup_le n _ (hd.filter _) fun x hx => by
      rw [List.mem_filter] at hx
      have h2 := h x hx.1
      have h3 : x ≠ n := by simpa using hx.2
      omega
    have h2 : xs.length ≤ (xs.filter fun x => x != n).length + 1 := by
      have hc : xs.count n ≤ 1 := by
        exact List.nodup_iff_count.1 hd n
      have := List.length_eq_countP_add_countP (fun x => x != n) (l := xs)
      rw [List.countP_eq_length_filter] at this
      have h3 : xs.countP (fun a => !(a != n)) = xs.count n := by
        rw [List.count_eq_countP]
        refine List.countP_congr fun x _ => ?_
        simp
      simp only [Bool.not_eq_true] at this
      have h4 : xs.countP (fun a => decide ((a != n) = false)) = xs.countP (fun a => !(a != n)) := List.countP_congr fun x _ => by simp
      omega
    omega
theorem DenseOf.congr {n k : Nat} {lt lt' : Nat → Nat → Prop} {ds : List Nat} (h : DenseOf n lt ds k) (hl : ∀ a b, a < n → b < n → (lt a b ↔ lt' a b)) : DenseOf n lt' ds k :=
  ⟨h.len, fun a b x y hx hy => by
    have ha := (List.getElem?_eq_some_iff.1 hx).1
    have hb := (List.getElem?_eq_some_iff.1 hy).1
    rw [h.len] at ha hb
    rw [h.ord a b x y hx hy, hl a b ha hb], h.bound, h.surj⟩
theorem DenseOf.le {n k : Nat} {lt : Nat → Nat → Prop} {ds : List Nat} (h : DenseOf n lt ds k) : k ≤ n := by
  rw [← h.len]
  refine pigeon k ds fun v hv => ?_
  obtain ⟨a, ha⟩ := h.surj v hv
  exact List.mem_of_getElem? ha
theorem DenseOf.pos {n k : Nat} {lt : Nat → Nat → Prop} {ds : List Nat} (h : DenseOf n lt ds k) (hn : n ≠ 0) : 1 ≤ k := by
  have h0 : ds[0]? = some (ds[0]'(by rw [h.len]; omega)) := List.getElem?_eq_getElem _
  have := h.bound 0 _ h0
  omega
theorem DenseOf.sameOrd {n k : Nat} {r : Nat → Nat} {ds : List Nat} (h : DenseOf n (fun a b => r a < r b) ds k) : SameOrd n (fun a => ds.getD a 0) r := by
  intro a b ha hb
  have ga : ds[a]? = some (ds[a]'(by rw [h.len]; exact ha)) := List.getElem?_eq_getElem _
  have gb : ds[b]? = some (ds[b]'(by rw [h.len]; exact hb)) := List.getElem?_eq_getElem _
  have := h.ord a b _ _ ga gb
  simp only [List.getD, ga, gb, Option.getD_some]
  exact this
theorem cp_sorted {ys : List Int} (hs : SortedTo cmpI ys ys.length) : ∀ j, j ≤ ys.length → (cp ys j).Pairwise (· < ·) ∧ (∀ v, v ∈ cp ys j ↔ v ∈ ys.take j) ∧ (j ≠ 0 → ∃ w, (cp ys j).getLast? = some w ∧ ys[j - 1]? = some w)
  | 0, _ => by simp [cp]
  | j + 1, hj => by
    obtain ⟨h1, h2, h3⟩ := cp_sorted hs j (by omega)
    have hyj : ys[j]? = some (ys[j]'(by omega)) := List.getElem?_eq_getElem _
    have htk : ys.take (j + 1) = ys.take j ++ [ys[j]'(by omega)] := by rw [List.take_add_one, hyj]; rfl
    rw [cp]
    split
    · rename_i hc
      refine ⟨h1, fun v => ?_, fun _ => ?_⟩
      · rw [htk, h2]
        simp only [List.mem_append, List.mem_singleton]
        constructor
        · exact .inl
        · rintro (h | rfl)
          · exact h
          · have hjm : ys[j - 1]? = some (ys[j]'(by omega)) := by rw [← hc.2, hyj]
            exact List.mem_iff_getElem?.2 ⟨j - 1, by rw [List.getElem?_take, if_pos (by omega)]; exact hjm⟩
      · obtain ⟨w, h4, h5⟩ := h3 hc.1
        exact ⟨w, h4, by rw [Nat.add_sub_cancel, hc.2]; exact h5⟩
    · rename_i hc
      have hgd : ys.getD j 0 = ys[j]'(by omega) := by simp [List.getD, hyj]
      rw [hgd]
      refine ⟨?_, fun v => ?_, fun _ => ⟨ys[j]'(by omega), by simp, by rw [Nat.add_sub_cancel]; exact hyj⟩⟩
      · rw [List.pairwise_append]
        refine ⟨h1, by simp, fun v hv w hw => ?_⟩
        rw [List.mem_singleton] at hw
        subst hw
        have hv' := (h2 v).1 hv
        obtain ⟨p, hp, hpv⟩ := List.mem_iff_getElem.1 hv'
        rw [List.length_take] at hp
        rw [List.getElem_take] at hpv
        have hle := hs p j _ _ (by omega) (by omega) (List.getElem?_eq_getElem (by omega)) hyj
        rw [cmpI_le, hpv] at hle
        by_cases he : v = ys[j]'(by omega)
        · exfalso
          refine hc ⟨by omega, ?_⟩
          -- what stands between is the same
          have hpj := hs p (j - 1)
          have hjl : ys[j - 1]? = some (ys[j - 1]'(by omega)) := List.getElem?_eq_getElem _
          have h6 := hs (j - 1) j _ _ (by omega) (by omega) hjl hyj
          rw [cmpI_le] at h6
          rw [hyj, hjl]
          by_cases hpj' : p = j - 1
          · subst hpj'
            rw [← he, hpv]
          · have h7 := hs p (j - 1) _ _ (by omega) (by omega) (List.getElem?_eq_getElem (by omega)) hjl
            rw [cmpI_le, hpv] at h7
            congr 1
            omega
        · omega
      · rw [htk]
        simp only [List.mem_append, List.mem_singleton, h2]
end Go.Proofs.YtheadodblifklaaGreat

