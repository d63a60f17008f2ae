/- environlaw11.UnionsUnites returns true for every table of modes and any three numbers, and leaves its arguments as they were.  Conditions: none beyond those stated. -/
import Derived.Test.YtheadodblifklaaGreatS6
import Derived.Laws.IdiomArrays
/- Laws of a table and three numbers in an array: from the contract to the row.  Conditions: stated. -/
namespace Go.Proofs.YtheadodblifklaaGreat
open Go Ax Go.ChangeShapes Go.WideShapes Go.ChangeAt Go.RowKit
set_option maxRecDepth 100000
theorem under31 : Tryz.prog.underlying 31 = some (.array 3 3) := by kernel_rfl
theorem cells31 : Tryz.prog.cellsOf 31 = 3 := by kernel_rfl
theorem cells3 : Tryz.prog.cellsOf 3 = 1 := by kernel_rfl
/-- What is asked of a law of a table and three numbers. -/
def LawTA (f : FuncId) : Prop := ∀ (m : AMem) (s : AVal) (l : List Md) (u v w : Int), RTab m s l → (∀ md ∈ l, MdB reachBytes md) → ACalls Tryz.prog f [s, .agg [.int .i64 u, .int .i64 v, .int .i64 w]] m fun r _ => r = .bool true
theorem lifted2 {os : Os} (started : os.Started) {H : Type} {enc : TypeId × Value → H} {f : FuncId} {fn : Func} {s : ChangeSpec} {conds : List PathCond}
    (noInit : Tryz.checked.prog.inits.idxOf? f = none) (hfn : Tryz.checked.prog.funcs[f]? = some fn) (hp : fn.params = #[22, 31]) (hr : fn.resultTypes = #[4]) (hs : s.vars = [])
    (hsf : ∀ d1 d2 : DataW H, s.fn H [d1, d2] = { results := [.lit (.bool true)], args := [d1, d2] })
    (witness : ∃ (w : World) (tape : Tape) (i : Input), w.os = os ∧ (w.forCall tape i).Shaped Tryz.checked.prog ∧ i.vars = [] ∧ Input.okWide Tryz.checked.prog (w.forCall tape i) .any w.heap.size f i ∧
      s.pre6 enc Tryz.checked.prog fn conds false (w.forCall tape i).memory i.args ∧ ({} : Assume).holds Tryz.checked.prog (lone (Frame.enter Tryz.checked.prog f i.args .normal) [] (w.forCall tape i)))
    (law : LawTA f) :
    ReturnsInHanded {} Tryz.checked os f .any (s.pre6 enc Tryz.checked.prog fn conds false) (s.post enc Tryz.checked.prog fn false true false false) := by
  refine returnsInHanded_of_change_sized (C := Tryz.checked) own0 started noInit hfn witness ?_
  intro W base args ds gs before hval0 hW _ hsz0 _
  have hW' := hW
  rw [hp] at hval0 hsz0
  obtain ⟨p, q, hA, hV, rfl, _, _⟩ := hW
  rw [hp] at hA
  rw [hs] at hV
  obtain ⟨v0, v1, d0, d1, p0, p1, rfl, rfl, rfl, h0, h1⟩ := trodAll_two hA
  obtain ⟨rfl, rfl⟩ := trodVars_none hV
  have hv0 := hval0 0 22 v0 rfl rfl
  have hv1 := hval0 1 31 v1 rfl rfl
  have h0k := h0
  have h1k := h1
  obtain ⟨fuel, hf⟩ := h0
  obtain ⟨fuel1, hf1⟩ := h1
  obtain ⟨cs, rfl, hcs⟩ : ∃ cs, v1 = .agg cs ∧ cs.size = 3 := by
    simp only [Value.okWide, under31] at hv1
    obtain ⟨cs, h1, h2, _⟩ := hv1
    exact ⟨cs, h1, by rw [← cells31]; exact h2⟩
  obtain ⟨c0, c1, c2, rfl⟩ : ∃ c0 c1 c2, cs = #[c0, c1, c2] := by
    match cs, hcs with
    | ⟨[c0, c1, c2]⟩, _ => exact ⟨_, _, _, rfl⟩
  obtain ⟨y0, y1, y2, n, _, e0, e1, e2⟩ := trod_array3 under31 cells3 hf1
  obtain ⟨n0, q0, _, _⟩ := DataW.trod_int under3 e0
  obtain ⟨n1, q1, _, _⟩ := DataW.trod_int under3 e1
  obtain ⟨n2, q2, _, _⟩ := DataW.trod_int under3 e2
  simp only [List.cons.injEq, and_true] at q0 q1 q2
  subst q0 q1 q2
  obtain ⟨a0, len, cap, rfl⟩ := okWide_slice under22 hv0
  obtain ⟨l, hent, hbd⟩ := enters_tab (enc := enc) modeT (fuel := fuel) (x := (d0, p0)) (fun a len' cap' e => by
    simp [Value.cells] at e
    obtain ⟨rfl, rfl, rfl⟩ := e
    exact heap_pos under22 hv0) hf
  obtain ⟨_, b2⟩ := hbd reachBytes (by
    rw [List.all_eq_true] at hsz0 ⊢
    intro n hn
    exact hsz0 n (DataW.weights_mem_each (j := 0) (t := 22) (d := d0) (by simp) (by simp) n hn))
  obtain ⟨ρ', m', xs, _, _, hro, hsim, hvr, sv, rfl, hT⟩ := hent [] [] (Sim.nil W) RoMem.nil
  simp only [VRs] at hvr
  obtain ⟨_, _, e, hvr, rfl⟩ := hvr
  simp [Value.cells] at e
  subst e
  have hlt : ∀ x ∈ p0, x.block < W.heap.size := fun x hx => hW'.lt x (by simp [hx])
  have hlt1 : ∀ x ∈ p1, x.block < W.heap.size := fun x hx => hW'.lt x (by simp [hx])
  refine ((law m' sv l n0 n1 n2 hT b2).2 ρ' W #[.slice a0 len cap, .agg #[.int .i64 n0, .int .i64 n1, .int .i64 n2]] hsim (by simp only [VRs, VR]; exact ⟨_, _, rfl, hvr, _, _, rfl, ⟨_, rfl, _, _, rfl, rfl, _, _, rfl, rfl, _, _, rfl, rfl, rfl⟩, rfl⟩)).mono fun e W' h => ?_
  obtain ⟨v', v, m'', ρ'', rfl, rfl, hv, _, hev⟩ := h
  simp only [VR] at hv
  subst hv
  have hb := below_of_evol hro hev
  refine ⟨_, rfl, [d0, _], [], _, [], p0 ++ (p1 ++ []), [], hW', ?_, ?_, ?_, hb.frame _, fun h => by cases h⟩
  · rw [hr]
    show DataW.TrodAll enc _ W' _ _ _ [4] _ (s.fn H [d0, _]).results []
    rw [hsf]
    exact trodAll_mk1 (shut_bool under4 true)
  · rw [hp]
    show DataW.TrodAll enc _ W' _ _ _ [22, 31] _ (s.fn H [d0, _]).args _
    rw [hsf]
    exact trodAll_cons_mk (Below.trod laidOut (by kernel_rfl) (of_decide_eq_true (by kernel_rfl)) h0k hb hlt) (trodAll_cons_mk (Below.trod laidOut (by kernel_rfl) (of_decide_eq_true (by kernel_rfl)) h1k hb hlt1) trodAll_mk0)
  · show DataW.TrodVars enc _ W' _ s.vars (s.fn H [d0, _]).vars _
    rw [hsf, hs]
    rfl
noncomputable def fn4 : Func := (Tryz.checked.prog.funcs[4]?).get (by kernel_rfl)
theorem func4 : Tryz.checked.prog.funcs[4]? = some fn4 := by kernel_rfl
theorem unites_of (law : LawTA 4) : Rows.UnionsUnitesSaid :=
  OpenClaim.holds_of_wide 4 fn4 rfl rfl rfl rfl rfl rfl rfl ⟨rfl, rfl, rfl, rfl, rfl⟩ rfl rfl rfl rfl rfl (by kernel_rfl) func4 (by kernel_rfl)
    (of_decide_eq_true (by kernel_rfl)) (by unfold Func.isWrapper; rw [if_neg (of_decide_eq_false (by kernel_rfl))]; exact ⟨rfl, rfl⟩)
    (fun os started H enc _ => lifted2 (s := Rows.unionsUnitesSpec) (conds := Rows.unionsUnitesRow.domain) started (by kernel_rfl) func4 (by kernel_rfl) (by kernel_rfl) rfl (fun _ _ => rfl)
      (ChangeSpec.witness6 (enc := enc) (C := Tryz.checked) false ⟨#[], #[.slice none 0 0, .agg #[.int .i64 0, .int .i64 0, .int .i64 0]], []⟩ 8 (by kernel_rfl) (by kernel_rfl) (by kernel_rfl) (by kernel_rfl)) law)
end Go.Proofs.YtheadodblifklaaGreat

/- alike.Equal, environlaw11.unites; uniting, without a program.  Conditions: stated. -/
namespace Go.Proofs.YtheadodblifklaaGreat
open Go Ax
set_option maxRecDepth 100000
theorem k19 (s : AVal) (l : List Md) (a b : Nat) (m : AMem) (hs : RTab m s l) (hsz : ∀ x ∈ l, smallN x) (hn : l.length ≤ 12) (hc : checkI l = 0) (ha : a < l.length) (hb : b < l.length) :
    ACalls Tryz.prog 19 [s, .int .i64 a, .int .i64 b] m fun v m' => v = .tuple [.bool (decide (RR l a = RR l b)), .int .i64 0] ∧ m <+: m' := by
  refine w19 ?_
  have ok := okT_of hc
  simp [fillA, setN]
  have hA := two_ints m a b
  have hm1 : m <+: m ++ [.own [.int .i64 (a : Int), .int .i64 (b : Int)] 3 none] := List.prefix_append _ _
  generalize AVal.slice m.length 0 2 2 none = t1 at *
  generalize m ++ [.own [.int .i64 (a : Int), .int .i64 (b : Int)] 3 none] = m1 at *
  refine C_of (k51 s t1 l [(a : Int), (b : Int)] m1 (hs.mono hm1) hA.ints hsz (by omega) (by simp)) ?_
  rintro _ m2 ⟨rfl, hm2⟩
  rw [rightI_two hc ha hb]
  simp
  refine C_of (k52 s l m2 (hs.mono (hm1.trans hm2)) ok.good hn hsz ok.h64) ?_
  rintro v3 m3 ⟨hm3, ds, kd, hX, hD⟩
  have hXi := ints_of_nat hX
  obtain ⟨ba, oa, hpa, hla⟩ := ranksAt hXi (x := a) (by rw [hD.len]; exact ha)
  obtain ⟨bb, ob, hpb, hlb⟩ := ranksAt hXi (x := b) (by rw [hD.len]; exact hb)
  have hla := hla m3 (List.prefix_refl _)
  have hlb := hlb m3 (List.prefix_refl _)
  have heq := hD.sameOrd.eq ha hb
  generalize ds.getD a 0 = x at *
  generalize ds.getD b 0 = y at *
  have hxy : ((x : Int) == (y : Int)) = decide (RR l a = RR l b) := by
    rw [Bool.eq_iff_iff, decide_eq_true_iff, ← heq]
    simp
    omega
  simp
  refine W_drawPR (by simp [maxDst]) rfl rfl ?_
  simp [hpa, hla, hpb, hlb, hxy]
  intro m4 hm4
  exact ((hm1.trans hm2).trans hm3).trans hm4
theorem uniV_ok {l : List Md} {a b : Nat} (hc : checkI l = 0) (ha : a < l.length) (hb : b < l.length) : uniV l a b = .tuple [.bool (uniB l a b), .int .i64 0] := by
  simp [uniV, rightI_two hc ha hb]
theorem k20 (s : AVal) (l : List Md) (a b : Nat) (m : AMem) (hs : RTab m s l) (hsz : ∀ x ∈ l, smallN x) (hnm : ∀ x ∈ l, x.names.length < 2 ^ 40) (hn : l.length ≤ 12) (hc : checkI l = 0) (ha : a < l.length) (hb : b < l.length) :
    ACalls Tryz.prog 20 [s, .int .i64 a, .int .i64 b] m fun v m' => v = .bool (uniB l a b) ∧ m <+: m' := by
  refine w20 ?_
  simp
  refine C_of (k16 s l a b m hs hsz hnm hn) ?_
  rintro _ m2 ⟨rfl, hm2⟩
  rw [uniV_ok hc ha hb]
  generalize uniB l a b = U
  cases U <;> simp [hm2]
/-! Uniting. -/
theorem hasRR_rr {l : List Md} {c x y : Nat} (h : hasRR l c x) (e : RR l x = RR l y) : hasRR l c y := by
  obtain ⟨j, h1, h2⟩ := h
  exact ⟨j, h1, h2.trans e⟩
theorem uniB_self {l : List Md} (hg : goodT l) {a : Nat} (ha : a < l.length) : uniB l a a = false := by
  cases h : uniB l a a
  · rfl
  · exact absurd rfl ((uniB_iff hg ha ha).1 h).2.1
theorem uniB_twin0 {l : List Md} (hg : goodT l) {a b : Nat} (ha : a < l.length) (hb : b < l.length) (e : RR l a = RR l b) : uniB l a b = false := by
  cases h : uniB l a b
  · rfl
  · exact absurd e ((uniB_iff hg ha hb).1 h).2.1
theorem uniB_twin1 {l : List Md} (hg : goodT l) {a b c : Nat} (ha : a < l.length) (hb : b < l.length) (hc : c < l.length) (e : RR l a = RR l b) : uniB l a c = uniB l b c := by
  have key : ∀ {a b : Nat}, a < l.length → b < l.length → RR l a = RR l b → uniB l a c = true → uniB l b c = true := by
    intro a b ha hb e h
    obtain ⟨h1, h2, h3⟩ := (uniB_iff hg ha hc).1 h
    refine (uniB_iff hg hb hc).2 ⟨h1, by rw [← e]; exact h2, fun x hx => ?_⟩
    obtain ⟨j, h4, h5⟩ := (hasRR_congr hg ha hb e).2 ⟨x, hx, rfl⟩
    exact hasRR_rr (h3 j h4) h5
  rw [Bool.eq_iff_iff]
  exact ⟨key ha hb e, key hb ha e.symm⟩
theorem uniB_twin2 {l : List Md} (hg : goodT l) {a b c : Nat} (ha : a < l.length) (hb : b < l.length) (hc : c < l.length) (e : RR l a = RR l b) : uniB l c a = uniB l c b := by
  have key : ∀ {a b : Nat}, a < l.length → b < l.length → RR l a = RR l b → uniB l c a = true → uniB l c b = true := by
    intro a b ha hb e h
    obtain ⟨h1, h2, h3⟩ := (uniB_iff hg hc ha).1 h
    exact (uniB_iff hg hc hb).2 ⟨by rw [← RR_isU ha hb e]; exact h1, by rw [← e]; exact h2, fun x hx => (hasRR_congr hg ha hb e).1 (h3 x hx)⟩
  rw [Bool.eq_iff_iff]
  exact ⟨key ha hb e, key hb ha e.symm⟩
theorem uniB_trans {l : List Md} (hg : goodT l) {a b c : Nat} (ha : a < l.length) (hb : b < l.length) (hc : c < l.length) (h1 : uniB l a b = true) (h2 : uniB l b c = true) (hne : RR l a ≠ RR l c) : uniB l a c = true := by
  obtain ⟨_, _, h3⟩ := (uniB_iff hg ha hb).1 h1
  obtain ⟨h4, _, h5⟩ := (uniB_iff hg hb hc).1 h2
  refine (uniB_iff hg ha hc).2 ⟨h4, hne, fun x hx => ?_⟩
  obtain ⟨j, h6, h7⟩ := h3 x hx
  exact hasRR_rr (h5 j h6) h7
end Go.Proofs.YtheadodblifklaaGreat

/- UnionsUnites: the walk.  Conditions: none. -/
namespace Go.Proofs.YtheadodblifklaaGreat
open Go Ax
set_option maxRecDepth 100000
theorem right3 {l : List Md} {u v w : Int} (h : rightI l [u, v, w] = 0) : checkI l = 0 ∧ ∃ a b c : Nat, u = a ∧ v = b ∧ w = c ∧ a < l.length ∧ b < l.length ∧ c < l.length := by
  unfold rightI at h
  split at h
  · omega
  · rename_i h1
    split at h
    · omega
    · rename_i h2
      simp [outB] at h2
      exact ⟨by omega, u.toNat, v.toNat, w.toNat, by omega, by omega, by omega, by omega, by omega, by omega⟩
set_option maxHeartbeats 4000000 in
theorem k4 (m : AMem) (s : AVal) (l : List Md) (u v w : Int) (hs : RTab m s l) (hb : ∀ md ∈ l, MdB reachBytes md) : ACalls Tryz.prog 4 [s, .agg [.int .i64 u, .int .i64 v, .int .i64 w]] m fun r _ => r = .bool true := by
  refine w4 ?_
  simp
  have hb3 := readB_new m [.int .i64 u, .int .i64 v, .int .i64 w] 31 none
  have hA : ∀ m', m ++ [.own [.int .i64 u, .int .i64 v, .int .i64 w] 31 none] <+: m' → RInts m' (.slice m.length 0 3 3 none) [u, v, w] := fun m' h => .inr ⟨_, _, _, _, rfl, ⟨by simp, .inl rfl⟩, .inr ⟨by simp, _, readB_mono h hb3, rfl⟩⟩
  have hm01 : m <+: m ++ [.own [.int .i64 u, .int .i64 v, .int .i64 w] 31 none] := List.prefix_append _ _
  generalize m ++ [.own [.int .i64 u, .int .i64 v, .int .i64 w] 31 none] = m0 at *
  generalize m.length = b3 at *
  refine C_of (k10 m0) ?_
  rintro _ m1 ⟨rfl, hm1⟩
  simp
  refine C_of (k11 s l 12 m1 (hs.mono (hm01.trans hm1)) (by omega)) ?_
  rintro _ m2 ⟨rfl, hm2⟩
  cases hsm : (decide ((l.length : Int) ≤ 12) && l.all fun x => decide (x.elems.length ≤ 6) && decide (x.names.length ≤ 6))
  · simp
  have hf := fits_of hb hsm
  have hnm : ∀ x ∈ l, x.names.length < 2 ^ 40 := fun x hx => (hf.h40 x hx).2
  have hn := hf.n
  have hm02 := hm1.trans hm2
  simp [POp.ev, bnd]
  refine C_of (k18 s _ l [u, v, w] m2 (hs.mono (hm01.trans hm02)) (hA m2 hm02) hf.sm (by omega) (by simp)) ?_
  rintro _ m3 ⟨rfl, hm3⟩
  have hm03 := hm02.trans hm3
  by_cases hr : rightI l [u, v, w] = 0
  rotate_left
  · simp [hr]
  obtain ⟨hc, a, b, c, rfl, rfl, rfl, ha, hb', hcc⟩ := right3 hr
  have ok := okT_of hc
  have hg := ok.good
  simp [hr]
  refine W_drawPR (by simp [maxDst]) rfl rfl ?_
  simp [POp.ev, bx (readB_mono hm03 hb3)]
  intro m4 hm4
  have hs4 := hs.mono ((hm01.trans hm03).trans hm4)
  clear hb3 hA
  refine C_of (k19 s l a c m4 hs4 hf.sm hn hc ha hcc) ?_
  rintro _ m5 ⟨rfl, hm5⟩
  simp
  refine C_of (k19 s l a b m5 (hs4.mono hm5) hf.sm hn hc ha hb') ?_
  rintro _ m6 ⟨rfl, hm6⟩
  have hs6 := (hs4.mono hm5).mono hm6
  have call : ∀ (x y : Nat), x < l.length → y < l.length → ∀ m', m6 <+: m' → ACalls Tryz.prog 20 [s, .int .i64 x, .int .i64 y] m' fun v m'' => v = .bool (uniB l x y) ∧ m' <+: m'' := fun x y hx hy m' h => k20 s l x y m' (hs6.mono h) hf.sm hnm hn hc hx hy
  have hself := uniB_self hg ha
  have h00 : IntKind.i64.wrap 0 = 0 := by decide
  simp [h00]
  refine C_of (call a a ha ha m6 (List.prefix_refl _)) ?_
  rintro _ m7 ⟨rfl, hm7⟩
  rw [hself]
  by_cases htw : RR l a = RR l b
  · simp [htw]
    refine C_of (call a b ha hb' m7 hm7) ?_
    rintro _ m8 ⟨rfl, hm8⟩
    rw [uniB_twin0 hg ha hb' htw]
    have hm68 := hm7.trans hm8
    simp
    refine C_of (call a c ha hcc m8 hm68) ?_
    rintro _ m9 ⟨rfl, hm9⟩
    have hm69 := hm68.trans hm9
    simp
    refine C_of (call b c hb' hcc m9 hm69) ?_
    rintro _ m10 ⟨rfl, hm10⟩
    have hm610 := hm69.trans hm10
    rw [uniB_twin1 hg ha hb' hcc htw]
    simp
    refine C_of (call c a hcc ha m10 hm610) ?_
    rintro _ m11 ⟨rfl, hm11⟩
    have hm611 := hm610.trans hm11
    simp
    refine C_of (call c b hcc hb' m11 hm611) ?_
    rintro _ m12 ⟨rfl, hm12⟩
    have hm612 := hm611.trans hm12
    rw [uniB_twin2 hg ha hb' hcc htw]
    simp
    refine C_of (call a b ha hb' m12 hm612) ?_
    rintro _ m13 ⟨rfl, hm13⟩
    rw [uniB_twin0 hg ha hb' htw]
    simp
  · simp [htw]
    refine C_of (call a b ha hb' m7 hm7) ?_
    rintro _ m8 ⟨rfl, hm8⟩
    have hm68 := hm7.trans hm8
    cases h1 : uniB l a b
    · simp
    simp
    refine C_of (call b c hb' hcc m8 hm68) ?_
    rintro _ m9 ⟨rfl, hm9⟩
    have hm69 := hm68.trans hm9
    cases h2 : uniB l b c
    · simp
    simp
    by_cases hsame : RR l a = RR l c
    · simp [hsame]
    simp [hsame]
    refine C_of (call a c ha hcc m9 hm69) ?_
    rintro _ m10 ⟨rfl, hm10⟩
    rw [uniB_trans hg ha hb' hcc h1 h2 hsame]
    simp
end Go.Proofs.YtheadodblifklaaGreat

/- UnionsUnites: for every table and any three modes the law returns true.  Conditions: none. -/
namespace Go.Proofs.YtheadodblifklaaGreat
open Go Ax
theorem unionsUnites_holds : Rows.UnionsUnitesSaid := unites_of fun m s l u v w hs hb => k4 m s l u v w hs hb
end Go.Proofs.YtheadodblifklaaGreat

