/- The law LockTurns' statement (arguments of bounded bulk), proved. -/
import Derived.Test.YtojegknfbgflnaaBk
import Derived.Test.YtojegknfbgflnaaLu
import Derived.Test.YtojegknfbgflnaaSlY
import Derived.JoinedCond
set_option linter.unusedVariables false
namespace Go.Proofs.Ytojegknfbgflnaa
open Go.ChangeShapes Go.WideShapes Go.ChangeAt Go.RowKit Go.SL

theorem ownK : ownKnob Try.prog.godebug = none := by kernel_rfl
theorem laidK : laidOutB Try.prog = true := by kernel_rfl

theorem lopOk (cs : List Value) (h : okCells [.int .i64, .int .i64, .int .i64] cs) : ∃ x : LOp, cs = lopC x ∧ True := by
  obtain ⟨a, r, rfl, _, h⟩ := okCells_int h
  obtain ⟨b, r, rfl, _, h⟩ := okCells_int h
  obtain ⟨c, r, rfl, _, h⟩ := okCells_int h
  obtain rfl := okCells_nil h
  exact ⟨⟨a, ⟨b, c⟩⟩, rfl, trivial⟩

set_option maxRecDepth 100000 in
theorem LockTurns_lifted (os : Os) (started : os.Started) (H : Type) (enc : TypeId × Value → H) (I : Stop.Interp) :
    ReturnsInHanded {} Try.checked os 4 .any ((Rows.OpenSpec.upto Rows.lockTurnsSpec).pre6 enc Try.prog Try.f4 Rows.lockTurnsUptoRow.domain false) (((Rows.OpenSpec.upto Rows.lockTurnsSpec).at I).post enc Try.prog Try.f4 false true false false) := by
  refine returnsInHanded_of_cond (C := Try.checked) (s := Rows.OpenSpec.upto Rows.lockTurnsSpec) (k := Rows.uptoSmall) rfl ownK started (by kernel_rfl) Try.func4
    (OpenSpec.witness (enc := enc) (C := Try.checked) (s := Rows.OpenSpec.upto Rows.lockTurnsSpec) (k := Rows.uptoSmall) rfl false ⟨#[], #[.slice none 0 0], []⟩ 8 (by kernel_rfl) (by kernel_rfl) (by kernel_rfl)
      (x := ([.nil], [], [])) (by kernel_rfl) rfl (by kernel_rfl)) ?_
  intro W base args ds gs before hval0 hW _ hk _
  have hval : ∀ (j : Nat) t v, Try.f4.params[j]? = some t → args[j]? = some v → Value.okWide Try.prog W .any base t v := hval0
  have hW' := hW
  obtain ⟨p, q, hA0, hV, rfl, hfz, hnd⟩ := hW
  have hA : DataW.TrodAll enc Try.prog W 0 (fun _ => true) true Try.f4.params.toList args.toList ds p := hA0
  rw [Try.params4] at hA hval
  obtain ⟨v0, d0, rfl, rfl, h0⟩ := trodAll_one hA
  obtain ⟨rfl, rfl⟩ := trodVars_none hV
  obtain ⟨a, c, xs, rfl, _, hd, hi⟩ := open_row (n := 9) (ec := lopC) (sz := 3) Try.underlying33 (by kernel_rfl) (by kernel_rfl) (by decide) lopOk (hval 0 33 v0 rfl rfl) h0
  have hL := bulk_slice (d := d0) (n := xs.length) hk (by simp) (by simpa using hd)
  exact law_post laidK (by kernel_rfl) rfl rfl rfl Try.underlying4 hW' (hi (by omega) []) (Has.there Has.here) LockTurns_fn

theorem LockTurns_proved : Rows.LockTurnsUptoSaid :=
  OpenClaim.holds_of_cond 4 Try.f4 rfl rfl rfl rfl rfl rfl rfl ⟨rfl, rfl, rfl, rfl, rfl⟩ rfl rfl rfl rfl rfl (by kernel_rfl) Try.func4 (by kernel_rfl)
    (of_decide_eq_true (by kernel_rfl)) (by unfold Func.isWrapper; first | (rw [if_pos (by decide +kernel)]; kernel_rfl) | (rw [if_neg (by decide +kernel)]; exact ⟨rfl, rfl⟩))
    (fun os started H enc _ I => LockTurns_lifted os started H enc I)
#print axioms LockTurns_proved
end Go.Proofs.Ytojegknfbgflnaa
