/- The law LockRising' statement (arguments of bounded bulk), proved. -/
import Derived.Test.YtojegknfbgflnaaBk
import Derived.Test.YtojegknfbgflnaaQi
import Derived.Test.YtojegknfbgflnaaSlY
import Derived.Test.YtojegknfbgflnaaSlZ
import Derived.JoinedCond
set_option linter.unusedVariables false
namespace Go.Proofs.Ytojegknfbgflnaa
open Go.ChangeShapes Go.WideShapes Go.ChangeAt Go.RowKit Go.SL

theorem ownK : ownKnob Try.prog.godebug = none := by kernel_rfl
theorem laidK : laidOutB Try.prog = true := by kernel_rfl

theorem clCOk (cs : List Value) (h : okCells [.int .i64, .int .i64, .int .i64, .bool] cs) : ∃ x : Cl, cs = clC x ∧ True := by
  obtain ⟨x0, r, rfl, _, h0⟩ := okCells_int h
  obtain ⟨x1, r, rfl, _, h1⟩ := okCells_int h0
  obtain ⟨x2, r, rfl, _, h2⟩ := okCells_int h1
  obtain ⟨x3, r, rfl, h3⟩ := okCells_bool h2
  obtain rfl := okCells_nil h3
  exact ⟨⟨⟨x0, x1⟩, x2, x3⟩, rfl, trivial⟩

set_option maxRecDepth 100000 in
theorem LockRising_lifted (os : Os) (started : os.Started) (H : Type) (enc : TypeId × Value → H) (I : Stop.Interp) :
    ReturnsInHanded {} Try.checked os 11 .any ((Rows.OpenSpec.upto Rows.lockRisingSpec).pre6 enc Try.prog Try.f11 Rows.lockRisingUptoRow.domain false) (((Rows.OpenSpec.upto Rows.lockRisingSpec).at I).post enc Try.prog Try.f11 false true false false) := by
  refine returnsInHanded_of_cond (C := Try.checked) (s := Rows.OpenSpec.upto Rows.lockRisingSpec) (k := Rows.uptoSmall) rfl ownK started (by kernel_rfl) Try.func11
    (OpenSpec.witness (enc := enc) (C := Try.checked) (s := Rows.OpenSpec.upto Rows.lockRisingSpec) (k := Rows.uptoSmall) rfl false ⟨#[], #[.slice none 0 0], []⟩ 20 (by kernel_rfl) (by kernel_rfl) (by kernel_rfl)
      (x := ([.nil], [], [])) (by kernel_rfl) rfl (by kernel_rfl)) ?_
  intro W base args ds gs before hval0 hW _ hk _
  have hval : ∀ (j : Nat) t v, Try.f11.params[j]? = some t → args[j]? = some v → Value.okWide Try.prog W .any base t v := hval0
  have hW' := hW
  obtain ⟨p, q, hA0, hV, rfl, hfz, hnd⟩ := hW
  have hA : DataW.TrodAll enc Try.prog W 0 (fun _ => true) true Try.f11.params.toList args.toList ds p := hA0
  rw [Try.params11] at hA hval
  obtain ⟨v0, u0, d0, e0, p0, q0, l0, rfl, rfl, h0, r0⟩ := trodAll_cons hA
  obtain ⟨l1, rfl, rfl⟩ := trodAll_nil r0
  subst l1
  obtain rfl : args = #[v0] := by rw [← Array.toList_inj]; exact l0
  clear l0
  obtain ⟨rfl, rfl⟩ := trodVars_none hV
  obtain ⟨a0, c0, xs0, rfl, _, hd0, hi0⟩ := open_row (n := 9) (ec := clC) (sz := 4) Try.underlying78 (by kernel_rfl) (by kernel_rfl) (by decide) clCOk (hval 0 78 v0 rfl rfl) h0
  have hL0 := bulk_slice (d := d0) (n := xs0.length) hk (by simp) (by simpa using hd0)
  exact law_post laidK (by kernel_rfl) rfl rfl rfl Try.underlying4 hW' (hi0 (by omega) []) (Has.there Has.here) (LockRising_fn)

theorem LockRising_proved : Rows.LockRisingUptoSaid :=
  OpenClaim.holds_of_cond 11 Try.f11 rfl rfl rfl rfl rfl rfl rfl ⟨rfl, rfl, rfl, rfl, rfl⟩ rfl rfl rfl rfl rfl (by kernel_rfl) Try.func11 (by kernel_rfl)
    (of_decide_eq_true (by kernel_rfl)) (by unfold Func.isWrapper; first | (rw [if_pos (by decide +kernel)]; kernel_rfl) | (rw [if_neg (by decide +kernel)]; exact ⟨rfl, rfl⟩))
    (fun os started H enc _ I => LockRising_lifted os started H enc I)
#print axioms LockRising_proved
end Go.Proofs.Ytojegknfbgflnaa
