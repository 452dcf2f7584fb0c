/- The law LinkSame's statement (arguments of bounded bulk), proved. -/
import Derived.Test.YtojegknfbgflnaaKf
import Derived.Test.YtojegknfbgflnaaSlX
import Derived.Test.YtojegknfbgflnaaSlZ
import Derived.JoinedCond
set_option linter.unusedVariables false
namespace Go.Proofs.Ytojegknfbgflnaa
open Go.ChangeShapes Go.WideShapes Go.ChangeAt Go.RowKit Go.SL

theorem ownK : ownKnob Try.prog.godebug = none := by kernel_rfl
theorem laidK : laidOutB Try.prog = true := by kernel_rfl

theorem vecCOk (cs : List Value) (h : okCells [.int .i64, .int .u64] cs) : ∃ x : Vec, cs = vecC x ∧ True := by
  obtain ⟨x0, r, rfl, _, h⟩ := okCells_int h
  obtain ⟨x1, r, rfl, _, h⟩ := okCells_int h
  obtain rfl := okCells_nil h
  exact ⟨⟨x0, x1⟩, rfl, trivial⟩
theorem refCOk (cs : List Value) (h : okCells [.int .i64, .int .i64, .int .u64, .int .i64, .int .u64] cs) : ∃ x : Ref, cs = refC x ∧ True := by
  obtain ⟨x0, r, rfl, _, h⟩ := okCells_int h
  obtain ⟨x1, r, rfl, _, h⟩ := okCells_int h
  obtain ⟨x2, r, rfl, _, h⟩ := okCells_int h
  obtain ⟨x3, r, rfl, _, h⟩ := okCells_int h
  obtain ⟨x4, r, rfl, _, h⟩ := okCells_int h
  obtain rfl := okCells_nil h
  exact ⟨⟨x0, ⟨x1, x2⟩, ⟨x3, x4⟩⟩, rfl, trivial⟩
theorem ownerCOk (cs : List Value) (h : okCells [.int .i64, .int .i64] cs) : ∃ x : Owner, cs = ownerC x ∧ True := by
  obtain ⟨x0, r, rfl, _, h⟩ := okCells_int h
  obtain ⟨x1, r, rfl, _, h⟩ := okCells_int h
  obtain rfl := okCells_nil h
  exact ⟨⟨x0, x1⟩, rfl, trivial⟩

theorem rsOk {S : Hp} {cs : List Value} (h : Ok Try.prog S 1048576 62 cs) : ∃ s a c, cs = rsC s a c ∧ slH false 2 (.slice a s.waits.length c) c (s.waits.map ownerC) S (fun _ => none) := by
  have h := h.structI Try.underlying62 (by kernel_rfl) rfl
  obtain ⟨c0, r, rfl, h0, c1, r, rfl, h1, c2, r, rfl, h2, c3, r, rfl, h3, c4, r, rfl, h4, c5, r, rfl, h5, rfl⟩ := h
  obtain ⟨x0, rfl, _⟩ := vecCOk _ (h0.flatB (n := 9) (by kernel_rfl) (by decide))
  obtain ⟨x1, rfl, _⟩ := refCOk _ (h1.flatB (n := 9) (by kernel_rfl) (by decide))
  obtain ⟨x2, rfl, _⟩ := refCOk _ (h2.flatB (n := 9) (by kernel_rfl) (by decide))
  obtain ⟨b, r, rfl, g3⟩ := okCells_bool (h3.flatB (n := 9) (ks := [.bool]) (by kernel_rfl) (by decide))
  obtain rfl := okCells_nil g3
  obtain ⟨x4, rfl, _⟩ := ownerCOk _ (h4.flatB (n := 9) (by kernel_rfl) (by decide))
  obtain ⟨a, c, ws, rfl, _, _, hw⟩ := h5.rowI (ec := ownerC) (sz := 2) (ok := fun _ => True) Try.underlying30 (by kernel_rfl) (by decide) (by decide) (fun a => (ownerC_one a).2) (fun x hx => ownerCOk _ (hx.flatB (n := 9) (by kernel_rfl) (by decide)))
  exact ⟨⟨x0, x1, x2, b, x4, ws⟩, a, c, rfl, hw⟩

set_option maxRecDepth 100000 in
theorem LinkSame_lifted (os : Os) (started : os.Started) (H : Type) (enc : TypeId × Value → H) (I : Stop.Interp) :
    ReturnsInHanded {} Try.checked os 7 .any ((Rows.OpenSpec.upto Rows.linkSameSpec).pre6 enc Try.prog Try.f7 Rows.linkSameUptoRow.domain false) (((Rows.OpenSpec.upto Rows.linkSameSpec).at I).post enc Try.prog Try.f7 false true false false) := by
  refine returnsInHanded_of_cond (C := Try.checked) (s := Rows.OpenSpec.upto Rows.linkSameSpec) (k := Rows.uptoSmall) rfl ownK started (by kernel_rfl) Try.func7
    (OpenSpec.witness (enc := enc) (C := Try.checked) (s := Rows.OpenSpec.upto Rows.linkSameSpec) (k := Rows.uptoSmall) rfl false ⟨#[], #[.agg #[.int .i64 0, .int .u64 0, .int .i64 0, .int .i64 0, .int .u64 0, .int .i64 0, .int .u64 0, .int .i64 0, .int .i64 0, .int .u64 0, .int .i64 0, .int .u64 0, .bool false, .int .i64 0, .int .i64 0, .slice none 0 0], .agg #[.int .i64 0, .int .u64 0, .int .i64 0, .int .i64 0, .int .u64 0, .int .i64 0, .int .u64 0, .int .i64 0, .int .i64 0, .int .u64 0, .int .i64 0, .int .u64 0, .bool false, .int .i64 0, .int .i64 0, .slice none 0 0]], []⟩ 20 (by kernel_rfl) (by kernel_rfl) (by kernel_rfl)
      (x := ([.agg [.agg [.lit (.int .i64 0), .lit (.int .u64 0)], .agg [.lit (.int .i64 0), .agg [.lit (.int .i64 0), .lit (.int .u64 0)], .agg [.lit (.int .i64 0), .lit (.int .u64 0)]], .agg [.lit (.int .i64 0), .agg [.lit (.int .i64 0), .lit (.int .u64 0)], .agg [.lit (.int .i64 0), .lit (.int .u64 0)]], .lit (.bool false), .agg [.lit (.int .i64 0), .lit (.int .i64 0)], .nil], .agg [.agg [.lit (.int .i64 0), .lit (.int .u64 0)], .agg [.lit (.int .i64 0), .agg [.lit (.int .i64 0), .lit (.int .u64 0)], .agg [.lit (.int .i64 0), .lit (.int .u64 0)]], .agg [.lit (.int .i64 0), .agg [.lit (.int .i64 0), .lit (.int .u64 0)], .agg [.lit (.int .i64 0), .lit (.int .u64 0)]], .lit (.bool false), .agg [.lit (.int .i64 0), .lit (.int .i64 0)], .nil]], [], [])) (by kernel_rfl) rfl (by kernel_rfl)) ?_
  intro W base args ds gs before hval0 hW _ hk _
  have hval : ∀ (j : Nat) t v, Try.f7.params[j]? = some t → args[j]? = some v → Value.okWide Try.prog W .any base t v := hval0
  have hW' := hW
  obtain ⟨p, q, hA0, hV, rfl, hfz, hnd⟩ := hW
  have hA : DataW.TrodAll enc Try.prog W 0 (fun _ => true) true Try.f7.params.toList args.toList ds p := hA0
  rw [Try.params7] at hA hval
  obtain ⟨v0, u0, d0, e0, p0, q0, l0, rfl, rfl, h0, r0⟩ := trodAll_cons hA
  obtain ⟨v1, u1, d1, e1, p1, q1, l1, rfl, rfl, h1, r1⟩ := trodAll_cons r0
  obtain ⟨l2, rfl, rfl⟩ := trodAll_nil r1
  subst l2 l1
  obtain rfl : args = #[v0, v1] := by rw [← Array.toList_inj]; exact l0
  clear l0
  obtain ⟨rfl, rfl⟩ := trodVars_none hV
  obtain ⟨cs0, rfl, k0⟩ := open_ok (n := 9) (B := 1048576) Try.underlying62 (by kernel_rfl) (hval 0 62 v0 rfl rfl) h0 (bulk_le hk (by simp))
  obtain ⟨cs1, rfl, k1⟩ := open_ok (n := 9) (B := 1048576) Try.underlying62 (by kernel_rfl) (hval 1 62 v1 rfl rfl) h1 (bulk_le hk (by simp))
  obtain ⟨s0, a0, c0, rfl, w0⟩ := rsOk k0
  obtain ⟨s1, a1, c1, rfl, w1⟩ := rsOk k1
  exact law_post (cs := [SlT false ownerC 2 (.slice a1 s1.waits.length c1) c1 s1.waits, SlT false ownerC 2 (.slice a0 s0.waits.length c0) c0 s0.waits, old W.heap]) laidK (by kernel_rfl) rfl rfl rfl Try.underlying4 hW'
    (Imp.trans (Imp.oldSl w0) (Imp.trans Imp.swap (Imp.trans (Imp.oldSl w1) (Imp.trans (Imp.cons Imp.swap) (Imp.refl _))))) (Has.there (Has.there Has.here)) LinkSame_fn

theorem LinkSame_proved : Rows.LinkSameUptoSaid :=
  OpenClaim.holds_of_cond 7 Try.f7 rfl rfl rfl rfl rfl rfl rfl ⟨rfl, rfl, rfl, rfl, rfl⟩ rfl rfl rfl rfl rfl (by kernel_rfl) Try.func7 (by kernel_rfl)
    (of_decide_eq_true (by kernel_rfl)) (by unfold Func.isWrapper; first | (rw [if_pos (by decide +kernel)]; kernel_rfl) | (rw [if_neg (by decide +kernel)]; exact ⟨rfl, rfl⟩))
    (fun os started H enc _ I => LinkSame_lifted os started H enc I)
#print axioms LinkSame_proved
end Go.Proofs.Ytojegknfbgflnaa
