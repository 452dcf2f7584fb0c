/- Layer 9: what the laws' arguments are, and how they lie in memory. Conditions: none. -/
import Derived.Test.YtmeajliiloaegaaGreatBk
import Derived.Test.YtmeajliiloaegaaGreatPo
import Derived.Test.YtmeajliiloaegaaGreatSlZ
import Derived.JoinedCond
set_option linter.unusedVariables false
namespace Go.Proofs.YtmeajliiloaegaaGreat
open Go.ChangeShapes Go.WideShapes Go.ChangeAt Go.RowKit Go.SL

theorem ownK : ownKnob Tryz.prog.godebug = none := by kernel_rfl
theorem laidK : laidOutB Tryz.prog = true := by kernel_rfl
theorem byteCOk (cs : List Value) (h : okCells [.int .u8] cs) : ∃ x : UInt8, cs = byteC x ∧ True := by
  obtain ⟨n, r, rfl, w, h⟩ := okCells_int h
  obtain rfl := okCells_nil h
  have hw : 0 ≤ n ∧ n ≤ 255 := by simpa [Lit.wf, IntKind.min, IntKind.max, IntKind.signed, IntKind.bits] using w
  refine ⟨UInt8.ofNat n.toNat, ?_, trivial⟩
  unfold byteC
  have : ((UInt8.ofNat n.toNat).toNat : Int) = n := by
    rw [UInt8.toNat_ofNat']; omega
  rw [this]
theorem refCOk (cs : List Value) (h : okCells [.int .i64, .int .i64, .int .u64, .int .i64, .int .u64] cs) : ∃ x : SL.Ref, cs = refC x ∧ 0 ≤ x.vec.bits := by
  obtain ⟨x0, r, rfl, _, h⟩ := okCells_int h
  obtain ⟨x1, r, rfl, _, h⟩ := okCells_int h
  obtain ⟨x2, r, rfl, _, h⟩ := okCells_int h
  obtain ⟨x3, r, rfl, _, h⟩ := okCells_int h
  obtain ⟨x4, r, rfl, w, h⟩ := okCells_int h
  obtain rfl := okCells_nil h
  exact ⟨⟨x0, ⟨x1, x2⟩, ⟨x3, x4⟩⟩, rfl, (wf_u64 w).1⟩
theorem askCOk (cs : List Value) (h : okCells [.int .i64, .int .i64, .int .u64, .int .i64, .int .i64, .int .u64, .int .i64, .int .u64, .int .i64, .int .i64, .int .u64, .int .i64, .int .u64, .int .i64, .int .i64] cs) : ∃ x : SL.Ask, cs = askC x ∧ 0 ≤ x.w.bits := by
  obtain ⟨x0, r, rfl, _, h⟩ := okCells_int h
  obtain ⟨x1, r, rfl, _, h⟩ := okCells_int h
  obtain ⟨x2, r, rfl, w, h⟩ := okCells_int h
  obtain ⟨x3, r, rfl, _, h⟩ := okCells_int h
  obtain ⟨x4, r, rfl, _, h⟩ := okCells_int h
  obtain ⟨x5, r, rfl, _, h⟩ := okCells_int h
  obtain ⟨x6, r, rfl, _, h⟩ := okCells_int h
  obtain ⟨x7, r, rfl, _, h⟩ := okCells_int h
  obtain ⟨x8, r, rfl, _, h⟩ := okCells_int h
  obtain ⟨x9, r, rfl, _, h⟩ := okCells_int h
  obtain ⟨x10, r, rfl, _, h⟩ := okCells_int h
  obtain ⟨x11, r, rfl, _, h⟩ := okCells_int h
  obtain ⟨x12, r, rfl, _, h⟩ := okCells_int h
  obtain ⟨x13, r, rfl, _, h⟩ := okCells_int h
  obtain ⟨x14, r, rfl, _, h⟩ := okCells_int h
  obtain rfl := okCells_nil h
  exact ⟨⟨x0, ⟨x1, x2⟩, ⟨x3, ⟨x4, x5⟩, ⟨x6, x7⟩⟩, ⟨x8, ⟨x9, x10⟩, ⟨x11, x12⟩⟩, ⟨x13, x14⟩⟩, rfl, (wf_u64 w).1⟩
def byH (S : Hp) (a : Option Addr) (c : Nat) (v : List UInt8) : Prop := slH false 1 (.slice a v.length c) c (v.map byteC) S (fun _ => none)
theorem setupOk {S : Hp} {cs : List Value} (h : Ok Tryz.prog S 1048576 32 cs) : ∃ y : StpE, cs = stpC y ∧ (byH S y.a y.c y.v ∧ 0 ≤ y.me.vec.bits) := by
  have h := h.structI Tryz.underlying32 (by kernel_rfl) rfl
  obtain ⟨c0, r, rfl, h0, c1, r, rfl, h1, c2, r, rfl, h2, c3, r, rfl, h3, rfl⟩ := h
  obtain ⟨k, r, rfl, _, g0⟩ := okCells_int (h0.flatB (n := 9) (ks := [.int .i64]) (by kernel_rfl) (by decide))
  obtain rfl := okCells_nil g0
  obtain ⟨m, r, rfl, _, g1⟩ := okCells_int (h1.flatB (n := 9) (ks := [.int .i64]) (by kernel_rfl) (by decide))
  obtain rfl := okCells_nil g1
  obtain ⟨x2, rfl, hb⟩ := refCOk _ (h2.flatB (n := 9) (by kernel_rfl) (by decide))
  obtain ⟨a, c, ws, rfl, _, _, hw⟩ := h3.rowI (ec := byteC) (sz := 1) (ok := fun _ => True) Tryz.underlying30 (by kernel_rfl) (by decide) (by decide) (fun a => (byteC_one a).2) (fun x hx => byteCOk _ (hx.flatB (n := 9) (by kernel_rfl) (by decide)))
  exact ⟨⟨k, m, x2, ws, a, c⟩, rfl, hw, hb⟩
end Go.Proofs.YtmeajliiloaegaaGreat
