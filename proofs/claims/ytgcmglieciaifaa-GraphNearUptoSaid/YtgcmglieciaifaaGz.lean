/- Layer 11: what the laws' arguments are. Conditions: none. -/
import Derived.Test.YtgcmglieciaifaaBk
import Derived.Test.YtgcmglieciaifaaGa
import Derived.Test.YtgcmglieciaifaaSlZ
import Derived.JoinedCond
set_option linter.unusedVariables false
namespace Go.Proofs.Ytgcmglieciaifaa
open Go.ChangeShapes Go.WideShapes Go.ChangeAt Go.RowKit Go.SL

theorem ownK : ownKnob Try.prog.godebug = none := by kernel_rfl
theorem laidK : laidOutB Try.prog = true := by kernel_rfl
theorem vecCOk (cs : List Value) (h : okCells [.int .i64, .int .u64] cs) : ∃ x : SL.Vec, cs = vecC x ∧ 0 ≤ x.bits := by
  obtain ⟨x0, r, rfl, _, h⟩ := okCells_int h
  obtain ⟨x1, r, rfl, w, h⟩ := okCells_int h
  obtain rfl := okCells_nil h
  exact ⟨⟨x0, x1⟩, rfl, (wf_u64 w).1⟩
theorem keyCOk (cs : List Value) (h : okCells [.int .i64, .int .u64] cs) : ∃ x : SL.Key, cs = keyC x ∧ True := by
  obtain ⟨x0, r, rfl, _, h⟩ := okCells_int h
  obtain ⟨x1, r, rfl, _, h⟩ := okCells_int h
  obtain rfl := okCells_nil h
  exact ⟨⟨x0, x1⟩, rfl, trivial⟩
theorem refCOk (cs : List Value) (h : okCells [.int .i64, .int .i64, .int .u64, .int .i64, .int .u64] cs) : ∃ x : SL.Ref, cs = refC x ∧ 0 ≤ x.vec.bits := by
  obtain ⟨x0, r, rfl, _, h⟩ := okCells_int h
  obtain ⟨x1, r, rfl, _, h⟩ := okCells_int h
  obtain ⟨x2, r, rfl, _, h⟩ := okCells_int h
  obtain ⟨x3, r, rfl, _, h⟩ := okCells_int h
  obtain ⟨x4, r, rfl, w, h⟩ := okCells_int h
  obtain rfl := okCells_nil h
  exact ⟨⟨x0, ⟨x1, x2⟩, ⟨x3, x4⟩⟩, rfl, (wf_u64 w).1⟩
end Go.Proofs.Ytgcmglieciaifaa
