/- Layer 6: what the laws' events are, and how they lie in memory. Conditions: none. -/
import Derived.Test.YtienlpaehgdpaaaTz
import Derived.Test.YtienlpaehgdpaaaTx
set_option linter.unusedVariables false
namespace Go.Proofs.Ytienlpaehgdpaaa
open Go.ChangeShapes Go.WideShapes Go.ChangeAt Go.RowKit Go.SL
theorem evOk {S : Hp} {cs : List Value} (h : Ok Try.prog S 1048576 83 cs) : ∃ y : EvE, cs = evEC y ∧ byH S y.x.a y.x.c y.x.x.value := by
  have h := h.structI Try.underlying83 (by kernel_rfl) rfl
  obtain ⟨c0, r, rfl, h0, c1, r, rfl, h1, c2, r, rfl, h2, c3, r, rfl, h3, rfl⟩ := h
  obtain ⟨k, r, rfl, _, g0⟩ := okCells_int (h0.flatB (n := 9) (ks := [.int .i64]) (by kernel_rfl) (by decide))
  obtain rfl := okCells_nil g0
  obtain ⟨i, r, rfl, _, g1⟩ := okCells_int (h1.flatB (n := 9) (ks := [.int .i64]) (by kernel_rfl) (by decide))
  obtain rfl := okCells_nil g1
  obtain ⟨x2, rfl⟩ := askCOk _ (h2.flatB (n := 9) (by kernel_rfl) (by decide))
  obtain ⟨x3, rfl, w3⟩ := ansOk h3
  exact ⟨⟨k, i, x2, x3⟩, rfl, w3⟩
end Go.Proofs.Ytienlpaehgdpaaa
