/- The law LinkRuns' statement (arguments of bounded bulk), proved. -/
import Derived.Test.YtnipmjpdklbbcaaGreatBk
import Derived.Test.YtnipmjpdklbbcaaGreatMw
import Derived.Test.YtnipmjpdklbbcaaGreatSlY
import Derived.Test.YtnipmjpdklbbcaaGreatSlZ
import Derived.JoinedCond
set_option linter.unusedVariables false
namespace Go.Proofs.YtnipmjpdklbbcaaGreat
open Go.ChangeShapes Go.WideShapes Go.ChangeAt Go.RowKit Go.SL

theorem ownK : ownKnob Tryz.prog.godebug = none := by kernel_rfl
theorem laidK : laidOutB Tryz.prog = true := by kernel_rfl

theorem refCOk (cs : List Value) (h : okCells [.int .i64, .int .i64, .int .u64, .int .i64, .int .u64] cs) : ∃ x : Ref, cs = refC x ∧ 0 ≤ x.vec.bits := by
  obtain ⟨x0, r, rfl, w0, h0⟩ := okCells_int h
  obtain ⟨x1, r, rfl, w1, h1⟩ := okCells_int h0
  obtain ⟨x2, r, rfl, w2, h2⟩ := okCells_int h1
  obtain ⟨x3, r, rfl, w3, h3⟩ := okCells_int h2
  obtain ⟨x4, r, rfl, w4, h4⟩ := okCells_int h3
  obtain rfl := okCells_nil h4
  exact ⟨⟨x0, ⟨x1, x2⟩, ⟨x3, x4⟩⟩, rfl, (wf_u64 w4).1⟩

theorem kopCOk (cs : List Value) (h : okCells [.int .i64, .int .i64, .int .u64, .int .i64, .int .i64, .int .u64, .int .i64, .int .u64, .int .i64, .int .i64, .int .u64, .int .i64, .int .u64, .int .i64, .int .i64] cs) : ∃ x : KOp, cs = kopC x ∧ 0 ≤ x.w.bits := by
  obtain ⟨x0, r, rfl, w0, h0⟩ := okCells_int h
  obtain ⟨x1, r, rfl, w1, h1⟩ := okCells_int h0
  obtain ⟨x2, r, rfl, w2, h2⟩ := okCells_int h1
  obtain ⟨x3, r, rfl, w3, h3⟩ := okCells_int h2
  obtain ⟨x4, r, rfl, w4, h4⟩ := okCells_int h3
  obtain ⟨x5, r, rfl, w5, h5⟩ := okCells_int h4
  obtain ⟨x6, r, rfl, w6, h6⟩ := okCells_int h5
  obtain ⟨x7, r, rfl, w7, h7⟩ := okCells_int h6
  obtain ⟨x8, r, rfl, w8, h8⟩ := okCells_int h7
  obtain ⟨x9, r, rfl, w9, h9⟩ := okCells_int h8
  obtain ⟨x10, r, rfl, w10, h10⟩ := okCells_int h9
  obtain ⟨x11, r, rfl, w11, h11⟩ := okCells_int h10
  obtain ⟨x12, r, rfl, w12, h12⟩ := okCells_int h11
  obtain ⟨x13, r, rfl, w13, h13⟩ := okCells_int h12
  obtain ⟨x14, r, rfl, w14, h14⟩ := okCells_int h13
  obtain rfl := okCells_nil h14
  exact ⟨⟨x0, ⟨x1, x2⟩, ⟨x3, ⟨x4, x5⟩, ⟨x6, x7⟩⟩, ⟨x8, ⟨x9, x10⟩, ⟨x11, x12⟩⟩, ⟨x13, x14⟩⟩, rfl, (wf_u64 w2).1⟩

set_option maxRecDepth 100000 in
theorem LinkRuns_lifted (os : Os) (started : os.Started) (H : Type) (enc : TypeId × Value → H) (I : Stop.Interp) :
    ReturnsInHanded {} Tryz.checked os 6 .any ((Rows.OpenSpec.upto Rows.linkRunsSpec).pre6 enc Tryz.prog Tryz.f6 Rows.linkRunsUptoRow.domain false) (((Rows.OpenSpec.upto Rows.linkRunsSpec).at I).post enc Tryz.prog Tryz.f6 false true false false) := by
  refine returnsInHanded_of_cond (C := Tryz.checked) (s := Rows.OpenSpec.upto Rows.linkRunsSpec) (k := Rows.uptoSmall) rfl ownK started (by kernel_rfl) Tryz.func6
    (OpenSpec.witness (enc := enc) (C := Tryz.checked) (s := Rows.OpenSpec.upto Rows.linkRunsSpec) (k := Rows.uptoSmall) rfl false ⟨#[], #[.agg #[.int .i64 0, .int .i64 0, .int .u64 0, .int .i64 0, .int .u64 0], .slice none 0 0], []⟩ 20 (by kernel_rfl) (by kernel_rfl) (by kernel_rfl)
      (x := ([.agg [.lit (.int .i64 0), .agg [.lit (.int .i64 0), .lit (.int .u64 0)], .agg [.lit (.int .i64 0), .lit (.int .u64 0)]], .nil], [], [])) (by kernel_rfl) rfl (by kernel_rfl)) ?_
  intro W base args ds gs before hval0 hW _ hk _
  have hval : ∀ (j : Nat) t v, Tryz.f6.params[j]? = some t → args[j]? = some v → Value.okWide Tryz.prog W .any base t v := hval0
  have hW' := hW
  obtain ⟨p, q, hA0, hV, rfl, hfz, hnd⟩ := hW
  have hA : DataW.TrodAll enc Tryz.prog W 0 (fun _ => true) true Tryz.f6.params.toList args.toList ds p := hA0
  rw [Tryz.params6] at hA hval
  obtain ⟨v0, u0, d0, e0, p0, q0, l0, rfl, rfl, h0, r0⟩ := trodAll_cons hA
  obtain ⟨v1, u1, d1, e1, p1, q1, l1, rfl, rfl, h1, r1⟩ := trodAll_cons r0
  obtain ⟨l2, rfl, rfl⟩ := trodAll_nil r1
  subst l2 l1
  obtain rfl : args = #[v0, v1] := by rw [← Array.toList_inj]; exact l0
  clear l0
  obtain ⟨rfl, rfl⟩ := trodVars_none hV
  obtain ⟨cs0, rfl, hc0⟩ := open_flat (n := 9) Tryz.underlying38 (by kernel_rfl) (hval 0 38 v0 rfl rfl) h0
  obtain ⟨x0, rfl, hP0⟩ := refCOk cs0 hc0
  obtain ⟨a1, c1, xs1, rfl, hP1, hd1, hi1⟩ := open_row (n := 9) (ec := kopC) (sz := 15) Tryz.underlying68 (by kernel_rfl) (by kernel_rfl) (by decide) kopCOk (hval 1 68 v1 rfl rfl) h1
  have hL1 := bulk_slice (d := d1) (n := xs1.length) hk (by simp) (by simpa using hd1)
  exact law_post laidK (by kernel_rfl) rfl rfl rfl Tryz.underlying4 hW' (hi1 (by omega) []) (Has.there Has.here) (LinkRuns_fn x0 hP1 hP0)

theorem LinkRuns_proved : Rows.LinkRunsUptoSaid :=
  OpenClaim.holds_of_cond 6 Tryz.f6 rfl rfl rfl rfl rfl rfl rfl ⟨rfl, rfl, rfl, rfl, rfl⟩ rfl rfl rfl rfl rfl (by kernel_rfl) Tryz.func6 (by kernel_rfl)
    (of_decide_eq_true (by kernel_rfl)) (by unfold Func.isWrapper; first | (rw [if_pos (by decide +kernel)]; kernel_rfl) | (rw [if_neg (by decide +kernel)]; exact ⟨rfl, rfl⟩))
    (fun os started H enc _ I => LinkRuns_lifted os started H enc I)
#print axioms LinkRuns_proved
end Go.Proofs.YtnipmjpdklbbcaaGreat
