/- The law LockNobody's statement, proved. -/
import Derived.Test.YtojegknfbgflnaaRows
import Derived.Test.YtojegknfbgflnaaLn
import Derived.Test.YtojegknfbgflnaaSlY
set_option linter.unusedVariables false
namespace Go.Proofs.Ytojegknfbgflnaa
open Go.ChangeShapes Go.WideShapes Go.ChangeAt Go.RowKit Go.SL

theorem ownK : ownKnob Try.prog.godebug = none := by kernel_rfl
theorem laidK : laidOutB Try.prog = true := by kernel_rfl

theorem ownerOk (cs : List Value) (h : okCells [.int .i64, .int .i64] cs) : ∃ x : Owner, cs = ownerC x := by
  obtain ⟨b, r, rfl, _, h⟩ := okCells_int h
  obtain ⟨c, r, rfl, _, h⟩ := okCells_int h
  obtain rfl := okCells_nil h
  exact ⟨⟨b, c⟩, rfl⟩

set_option maxRecDepth 100000 in
theorem LockNobody_lifted (os : Os) (started : os.Started) (H : Type) (enc : TypeId × Value → H) :
    ReturnsInHanded {} Try.checked os 6 .any (Rows.lockNobodySpec.pre6 enc Try.prog Try.f6 Rows.lockNobodyRow.domain false) (Rows.lockNobodySpec.post enc Try.prog Try.f6 false true false false) := by
  refine returnsInHanded_of_change (C := Try.checked) ownK started (by kernel_rfl) Try.func6
    (ChangeSpec.witness6 (enc := enc) (C := Try.checked) false ⟨#[], #[.agg #[.int .i64 0, .int .i64 0]], []⟩ 8 (by kernel_rfl) (by kernel_rfl) (by kernel_rfl) (by kernel_rfl)) ?_
  intro W base args ds gs before hval0 hW _ _
  have hval : ∀ (j : Nat) t v, Try.f6.params[j]? = some t → args[j]? = some v → Value.okWide Try.prog W .any base t v := hval0
  have hW' := hW
  obtain ⟨p, q, hA0, hV, rfl, hfz, hnd⟩ := hW
  have hA : DataW.TrodAll enc Try.prog W 0 (fun _ => true) true Try.f6.params.toList args.toList ds p := hA0
  rw [Try.params6] at hA hval
  obtain ⟨v0, d0, rfl, rfl, h0⟩ := trodAll_one hA
  obtain ⟨rfl, rfl⟩ := trodVars_none hV
  obtain ⟨cs, rfl, hc⟩ := open_flat (n := 9) Try.underlying29 (by kernel_rfl) (hval 0 29 v0 rfl rfl) h0
  obtain ⟨o, rfl⟩ := ownerOk cs hc
  exact law_post laidK (by kernel_rfl) rfl rfl rfl Try.underlying4 hW' (Imp.refl _) Has.here (LockNobody_fn o [old W.heap])

theorem LockNobody_proved : Rows.LockNobodySaid :=
  OpenClaim.holds_of_wide 6 Try.f6 rfl rfl rfl rfl rfl rfl rfl ⟨rfl, rfl, rfl, rfl, rfl⟩ rfl rfl rfl rfl rfl (by kernel_rfl) Try.func6 (by kernel_rfl)
    (of_decide_eq_true (by kernel_rfl)) (by unfold Func.isWrapper; first | (rw [if_pos (by decide +kernel)]; kernel_rfl) | (rw [if_neg (by decide +kernel)]; exact ⟨rfl, rfl⟩))
    (fun os started H enc _ => LockNobody_lifted os started H enc)
#print axioms LockNobody_proved
end Go.Proofs.Ytojegknfbgflnaa
