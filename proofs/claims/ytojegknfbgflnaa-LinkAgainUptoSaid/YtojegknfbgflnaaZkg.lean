/- The law LinkAgain' statement (arguments of bounded bulk), proved. -/
import Derived.Test.YtojegknfbgflnaaBk
import Derived.Test.YtojegknfbgflnaaKh
import Derived.Test.YtojegknfbgflnaaSlY
import Derived.Test.YtojegknfbgflnaaSlZ
import Derived.JoinedCond
set_option linter.unusedVariables false
namespace Go.Proofs.Ytojegknfbgflnaa
open Go.ChangeShapes Go.WideShapes Go.ChangeAt Go.RowKit Go.SL

theorem ownK : ownKnob Try.prog.godebug = none := by kernel_rfl
theorem laidK : laidOutB Try.prog = true := by kernel_rfl

theorem refCOk (cs : List Value) (h : okCells [.int .i64, .int .i64, .int .u64, .int .i64, .int .u64] cs) : ∃ x : Ref, cs = refC x ∧ True := by
  obtain ⟨x0, r, rfl, _, h⟩ := okCells_int h
  obtain ⟨x1, r, rfl, _, h⟩ := okCells_int h
  obtain ⟨x2, r, rfl, _, h⟩ := okCells_int h
  obtain ⟨x3, r, rfl, _, h⟩ := okCells_int h
  obtain ⟨x4, r, rfl, _, h⟩ := okCells_int h
  obtain rfl := okCells_nil h
  exact ⟨⟨x0, ⟨x1, x2⟩, ⟨x3, x4⟩⟩, rfl, trivial⟩

theorem kopCOk (cs : List Value) (h : okCells [.int .i64, .int .i64, .int .u64, .int .i64, .int .i64, .int .u64, .int .i64, .int .u64, .int .i64, .int .i64, .int .u64, .int .i64, .int .u64, .int .i64, .int .i64] cs) : ∃ x : KOp, cs = kopC x ∧ True := by
  obtain ⟨x0, r, rfl, _, h⟩ := okCells_int h
  obtain ⟨x1, r, rfl, _, h⟩ := okCells_int h
  obtain ⟨x2, r, rfl, _, h⟩ := okCells_int h
  obtain ⟨x3, r, rfl, _, h⟩ := okCells_int h
  obtain ⟨x4, r, rfl, _, h⟩ := okCells_int h
  obtain ⟨x5, r, rfl, _, h⟩ := okCells_int h
  obtain ⟨x6, r, rfl, _, h⟩ := okCells_int h
  obtain ⟨x7, r, rfl, _, h⟩ := okCells_int h
  obtain ⟨x8, r, rfl, _, h⟩ := okCells_int h
  obtain ⟨x9, r, rfl, _, h⟩ := okCells_int h
  obtain ⟨x10, r, rfl, _, h⟩ := okCells_int h
  obtain ⟨x11, r, rfl, _, h⟩ := okCells_int h
  obtain ⟨x12, r, rfl, _, h⟩ := okCells_int h
  obtain ⟨x13, r, rfl, _, h⟩ := okCells_int h
  obtain ⟨x14, r, rfl, _, h⟩ := okCells_int h
  obtain rfl := okCells_nil h
  exact ⟨⟨x0, ⟨x1, x2⟩, ⟨x3, ⟨x4, x5⟩, ⟨x6, x7⟩⟩, ⟨x8, ⟨x9, x10⟩, ⟨x11, x12⟩⟩, ⟨x13, x14⟩⟩, rfl, trivial⟩

theorem vecCOk (cs : List Value) (h : okCells [.int .i64, .int .u64] cs) : ∃ x : Vec, cs = vecC x ∧ True := by
  obtain ⟨x0, r, rfl, _, h⟩ := okCells_int h
  obtain ⟨x1, r, rfl, _, h⟩ := okCells_int h
  obtain rfl := okCells_nil h
  exact ⟨⟨x0, x1⟩, rfl, trivial⟩

theorem ownerCOk (cs : List Value) (h : okCells [.int .i64, .int .i64] cs) : ∃ x : Owner, cs = ownerC x ∧ True := by
  obtain ⟨x0, r, rfl, _, h⟩ := okCells_int h
  obtain ⟨x1, r, rfl, _, h⟩ := okCells_int h
  obtain rfl := okCells_nil h
  exact ⟨⟨x0, x1⟩, rfl, trivial⟩

set_option maxRecDepth 100000 in
theorem LinkAgain_lifted (os : Os) (started : os.Started) (H : Type) (enc : TypeId × Value → H) (I : Stop.Interp) :
    ReturnsInHanded {} Try.checked os 9 .any ((Rows.OpenSpec.upto Rows.linkAgainSpec).pre6 enc Try.prog Try.f9 Rows.linkAgainUptoRow.domain false) (((Rows.OpenSpec.upto Rows.linkAgainSpec).at I).post enc Try.prog Try.f9 false true false false) := by
  refine returnsInHanded_of_cond (C := Try.checked) (s := Rows.OpenSpec.upto Rows.linkAgainSpec) (k := Rows.uptoSmall) rfl ownK started (by kernel_rfl) Try.func9
    (OpenSpec.witness (enc := enc) (C := Try.checked) (s := Rows.OpenSpec.upto Rows.linkAgainSpec) (k := Rows.uptoSmall) rfl false ⟨#[], #[.agg #[.int .i64 0, .int .i64 0, .int .u64 0, .int .i64 0, .int .u64 0], .slice none 0 0, .agg #[.int .i64 0, .int .u64 0], .agg #[.int .i64 0, .int .i64 0, .int .u64 0, .int .i64 0, .int .u64 0], .agg #[.int .i64 0, .int .i64 0, .int .u64 0, .int .i64 0, .int .u64 0], .agg #[.int .i64 0, .int .i64 0]], []⟩ 20 (by kernel_rfl) (by kernel_rfl) (by kernel_rfl)
      (x := ([.agg [.lit (.int .i64 0), .agg [.lit (.int .i64 0), .lit (.int .u64 0)], .agg [.lit (.int .i64 0), .lit (.int .u64 0)]], .nil, .agg [.lit (.int .i64 0), .lit (.int .u64 0)], .agg [.lit (.int .i64 0), .agg [.lit (.int .i64 0), .lit (.int .u64 0)], .agg [.lit (.int .i64 0), .lit (.int .u64 0)]], .agg [.lit (.int .i64 0), .agg [.lit (.int .i64 0), .lit (.int .u64 0)], .agg [.lit (.int .i64 0), .lit (.int .u64 0)]], .agg [.lit (.int .i64 0), .lit (.int .i64 0)]], [], [])) (by kernel_rfl) rfl (by kernel_rfl)) ?_
  intro W base args ds gs before hval0 hW _ hk _
  have hval : ∀ (j : Nat) t v, Try.f9.params[j]? = some t → args[j]? = some v → Value.okWide Try.prog W .any base t v := hval0
  have hW' := hW
  obtain ⟨p, q, hA0, hV, rfl, hfz, hnd⟩ := hW
  have hA : DataW.TrodAll enc Try.prog W 0 (fun _ => true) true Try.f9.params.toList args.toList ds p := hA0
  rw [Try.params9] at hA hval
  obtain ⟨v0, u0, d0, e0, p0, q0, l0, rfl, rfl, h0, r0⟩ := trodAll_cons hA
  obtain ⟨v1, u1, d1, e1, p1, q1, l1, rfl, rfl, h1, r1⟩ := trodAll_cons r0
  obtain ⟨v2, u2, d2, e2, p2, q2, l2, rfl, rfl, h2, r2⟩ := trodAll_cons r1
  obtain ⟨v3, u3, d3, e3, p3, q3, l3, rfl, rfl, h3, r3⟩ := trodAll_cons r2
  obtain ⟨v4, u4, d4, e4, p4, q4, l4, rfl, rfl, h4, r4⟩ := trodAll_cons r3
  obtain ⟨v5, u5, d5, e5, p5, q5, l5, rfl, rfl, h5, r5⟩ := trodAll_cons r4
  obtain ⟨l6, rfl, rfl⟩ := trodAll_nil r5
  subst l6 l5 l4 l3 l2 l1
  obtain rfl : args = #[v0, v1, v2, v3, v4, v5] := by rw [← Array.toList_inj]; exact l0
  clear l0
  obtain ⟨rfl, rfl⟩ := trodVars_none hV
  obtain ⟨cs0, rfl, hc0⟩ := open_flat (n := 9) Try.underlying60 (by kernel_rfl) (hval 0 60 v0 rfl rfl) h0
  obtain ⟨x0, rfl, _⟩ := refCOk cs0 hc0
  obtain ⟨a1, c1, xs1, rfl, _, hd1, hi1⟩ := open_row (n := 9) (ec := kopC) (sz := 15) Try.underlying64 (by kernel_rfl) (by kernel_rfl) (by decide) kopCOk (hval 1 64 v1 rfl rfl) h1
  have hL1 := bulk_slice (d := d1) (n := xs1.length) hk (by simp) (by simpa using hd1)
  obtain ⟨cs2, rfl, hc2⟩ := open_flat (n := 9) Try.underlying55 (by kernel_rfl) (hval 2 55 v2 rfl rfl) h2
  obtain ⟨x2, rfl, _⟩ := vecCOk cs2 hc2
  obtain ⟨cs3, rfl, hc3⟩ := open_flat (n := 9) Try.underlying60 (by kernel_rfl) (hval 3 60 v3 rfl rfl) h3
  obtain ⟨x3, rfl, _⟩ := refCOk cs3 hc3
  obtain ⟨cs4, rfl, hc4⟩ := open_flat (n := 9) Try.underlying60 (by kernel_rfl) (hval 4 60 v4 rfl rfl) h4
  obtain ⟨x4, rfl, _⟩ := refCOk cs4 hc4
  obtain ⟨cs5, rfl, hc5⟩ := open_flat (n := 9) Try.underlying29 (by kernel_rfl) (hval 5 29 v5 rfl rfl) h5
  obtain ⟨x5, rfl, _⟩ := ownerCOk cs5 hc5
  exact law_post laidK (by kernel_rfl) rfl rfl rfl Try.underlying4 hW' (hi1 (by omega) []) (Has.there Has.here) (LinkAgain_fn x0 x2 x3 x4 x5)

theorem LinkAgain_proved : Rows.LinkAgainUptoSaid :=
  OpenClaim.holds_of_cond 9 Try.f9 rfl rfl rfl rfl rfl rfl rfl ⟨rfl, rfl, rfl, rfl, rfl⟩ rfl rfl rfl rfl rfl (by kernel_rfl) Try.func9 (by kernel_rfl)
    (of_decide_eq_true (by kernel_rfl)) (by unfold Func.isWrapper; first | (rw [if_pos (by decide +kernel)]; kernel_rfl) | (rw [if_neg (by decide +kernel)]; exact ⟨rfl, rfl⟩))
    (fun os started H enc _ I => LinkAgain_lifted os started H enc I)
#print axioms LinkAgain_proved
end Go.Proofs.Ytojegknfbgflnaa
