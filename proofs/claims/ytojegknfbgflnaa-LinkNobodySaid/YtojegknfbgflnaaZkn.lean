/- The law LinkNobody' statement, proved. -/
import Derived.Test.YtojegknfbgflnaaBk
import Derived.Test.YtojegknfbgflnaaKi
import Derived.Test.YtojegknfbgflnaaSlY
import Derived.Test.YtojegknfbgflnaaSlZ
import Derived.JoinedCond
set_option linter.unusedVariables false
namespace Go.Proofs.Ytojegknfbgflnaa
open Go.ChangeShapes Go.WideShapes Go.ChangeAt Go.RowKit Go.SL

theorem ownK : ownKnob Try.prog.godebug = none := by kernel_rfl
theorem laidK : laidOutB Try.prog = true := by kernel_rfl

theorem kopCOk (cs : List Value) (h : okCells [.int .i64, .int .i64, .int .u64, .int .i64, .int .i64, .int .u64, .int .i64, .int .u64, .int .i64, .int .i64, .int .u64, .int .i64, .int .u64, .int .i64, .int .i64] cs) : ∃ x : KOp, cs = kopC x ∧ True := by
  obtain ⟨x0, r, rfl, _, h⟩ := okCells_int h
  obtain ⟨x1, r, rfl, _, h⟩ := okCells_int h
  obtain ⟨x2, r, rfl, _, h⟩ := okCells_int h
  obtain ⟨x3, r, rfl, _, h⟩ := okCells_int h
  obtain ⟨x4, r, rfl, _, h⟩ := okCells_int h
  obtain ⟨x5, r, rfl, _, h⟩ := okCells_int h
  obtain ⟨x6, r, rfl, _, h⟩ := okCells_int h
  obtain ⟨x7, r, rfl, _, h⟩ := okCells_int h
  obtain ⟨x8, r, rfl, _, h⟩ := okCells_int h
  obtain ⟨x9, r, rfl, _, h⟩ := okCells_int h
  obtain ⟨x10, r, rfl, _, h⟩ := okCells_int h
  obtain ⟨x11, r, rfl, _, h⟩ := okCells_int h
  obtain ⟨x12, r, rfl, _, h⟩ := okCells_int h
  obtain ⟨x13, r, rfl, _, h⟩ := okCells_int h
  obtain ⟨x14, r, rfl, _, h⟩ := okCells_int h
  obtain rfl := okCells_nil h
  exact ⟨⟨x0, ⟨x1, x2⟩, ⟨x3, ⟨x4, x5⟩, ⟨x6, x7⟩⟩, ⟨x8, ⟨x9, x10⟩, ⟨x11, x12⟩⟩, ⟨x13, x14⟩⟩, rfl, trivial⟩

set_option maxRecDepth 100000 in
theorem LinkNobody_lifted (os : Os) (started : os.Started) (H : Type) (enc : TypeId × Value → H) :
    ReturnsInHanded {} Try.checked os 13 .any (Rows.linkNobodySpec.pre6 enc Try.prog Try.f13 Rows.linkNobodyRow.domain false) (Rows.linkNobodySpec.post enc Try.prog Try.f13 false true false false) := by
  refine returnsInHanded_of_change (C := Try.checked) ownK started (by kernel_rfl) Try.func13
    (ChangeSpec.witness6 (enc := enc) (C := Try.checked) false ⟨#[], #[.agg #[.int .i64 0, .int .i64 0, .int .u64 0, .int .i64 0, .int .i64 0, .int .u64 0, .int .i64 0, .int .u64 0, .int .i64 0, .int .i64 0, .int .u64 0, .int .i64 0, .int .u64 0, .int .i64 0, .int .i64 0]], []⟩ 20 (by kernel_rfl) (by kernel_rfl) (by kernel_rfl) (by kernel_rfl)) ?_
  intro W base args ds gs before hval0 hW _ _
  have hval : ∀ (j : Nat) t v, Try.f13.params[j]? = some t → args[j]? = some v → Value.okWide Try.prog W .any base t v := hval0
  have hW' := hW
  obtain ⟨p, q, hA0, hV, rfl, hfz, hnd⟩ := hW
  have hA : DataW.TrodAll enc Try.prog W 0 (fun _ => true) true Try.f13.params.toList args.toList ds p := hA0
  rw [Try.params13] at hA hval
  obtain ⟨v0, u0, d0, e0, p0, q0, l0, rfl, rfl, h0, r0⟩ := trodAll_cons hA
  obtain ⟨l1, rfl, rfl⟩ := trodAll_nil r0
  subst l1
  obtain rfl : args = #[v0] := by rw [← Array.toList_inj]; exact l0
  clear l0
  obtain ⟨rfl, rfl⟩ := trodVars_none hV
  obtain ⟨cs0, rfl, hc0⟩ := open_flat (n := 9) Try.underlying66 (by kernel_rfl) (hval 0 66 v0 rfl rfl) h0
  obtain ⟨x0, rfl, _⟩ := kopCOk cs0 hc0
  exact law_post laidK (by kernel_rfl) rfl rfl rfl Try.underlying4 hW' (Imp.refl _) Has.here (LinkNobody_fn x0 [old W.heap])

theorem LinkNobody_proved : Rows.LinkNobodySaid :=
  OpenClaim.holds_of_wide 13 Try.f13 rfl rfl rfl rfl rfl rfl rfl ⟨rfl, rfl, rfl, rfl, rfl⟩ rfl rfl rfl rfl rfl (by kernel_rfl) Try.func13 (by kernel_rfl)
    (of_decide_eq_true (by kernel_rfl)) (by unfold Func.isWrapper; first | (rw [if_pos (by decide +kernel)]; kernel_rfl) | (rw [if_neg (by decide +kernel)]; exact ⟨rfl, rfl⟩))
    (fun os started H enc _ => LinkNobody_lifted os started H enc)
#print axioms LinkNobody_proved
end Go.Proofs.Ytojegknfbgflnaa
