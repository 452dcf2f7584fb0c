/- Layer 6: what the laws' arguments are, and how they lie in memory. Conditions: none. -/
import Derived.Test.YtienlpaehgdpaaaBk
import Derived.Test.YtienlpaehgdpaaaTt
import Derived.Test.YtienlpaehgdpaaaSlX
import Derived.Test.YtienlpaehgdpaaaSlZ
import Derived.JoinedCond
set_option linter.unusedVariables false
namespace Go.Proofs.Ytienlpaehgdpaaa
open Go.ChangeShapes Go.WideShapes Go.ChangeAt Go.RowKit Go.SL

theorem ownK : ownKnob Try.prog.godebug = none := by kernel_rfl
theorem laidK : laidOutB Try.prog = true := by kernel_rfl
theorem byteCOk (cs : List Value) (h : okCells [.int .u8] cs) : ∃ x : UInt8, cs = byteC x ∧ True := by
  obtain ⟨n, r, rfl, w, h⟩ := okCells_int h
  obtain rfl := okCells_nil h
  have hw : 0 ≤ n ∧ n ≤ 255 := by simpa [Lit.wf, IntKind.min, IntKind.max, IntKind.signed, IntKind.bits] using w
  refine ⟨UInt8.ofNat n.toNat, ?_, trivial⟩
  unfold byteC
  have : ((UInt8.ofNat n.toNat).toNat : Int) = n := by
    rw [UInt8.toNat_ofNat']; omega
  rw [this]
theorem vecCOk (cs : List Value) (h : okCells [.int .i64, .int .u64] cs) : ∃ x : Vec, cs = vecC x := by
  obtain ⟨x0, r, rfl, _, h⟩ := okCells_int h
  obtain ⟨x1, r, rfl, _, h⟩ := okCells_int h
  obtain rfl := okCells_nil h
  exact ⟨⟨x0, x1⟩, rfl⟩
theorem adCOk (cs : List Value) (h : okCells [.bool, .int .i64] cs) : ∃ x : Ad, cs = adC x ∧ True := by
  obtain ⟨x0, r, rfl, h0⟩ := okCells_bool h
  obtain ⟨x1, r, rfl, _, h1⟩ := okCells_int h0
  obtain rfl := okCells_nil h1
  exact ⟨⟨x0, x1⟩, rfl, trivial⟩
theorem refCOk (cs : List Value) (h : okCells [.int .i64, .int .i64, .int .u64, .int .i64, .int .u64] cs) : ∃ x : SL.Ref, cs = refC x := by
  obtain ⟨x0, r, rfl, _, h⟩ := okCells_int h
  obtain ⟨x1, r, rfl, _, h⟩ := okCells_int h
  obtain ⟨x2, r, rfl, _, h⟩ := okCells_int h
  obtain ⟨x3, r, rfl, _, h⟩ := okCells_int h
  obtain ⟨x4, r, rfl, _, h⟩ := okCells_int h
  obtain rfl := okCells_nil h
  exact ⟨⟨x0, ⟨x1, x2⟩, ⟨x3, x4⟩⟩, rfl⟩
theorem askCOk (cs : List Value) (h : okCells [.int .i64, .int .i64, .int .u64, .int .i64, .int .i64, .int .u64, .int .i64, .int .u64, .int .i64, .int .i64, .int .u64, .int .i64, .int .u64, .int .i64, .int .i64] cs) : ∃ x : SL.Ask, cs = askC x := by
  obtain ⟨x0, r, rfl, _, h⟩ := okCells_int h
  obtain ⟨x1, r, rfl, _, h⟩ := okCells_int h
  obtain ⟨x2, r, rfl, _, h⟩ := okCells_int h
  obtain ⟨x3, r, rfl, _, h⟩ := okCells_int h
  obtain ⟨x4, r, rfl, _, h⟩ := okCells_int h
  obtain ⟨x5, r, rfl, _, h⟩ := okCells_int h
  obtain ⟨x6, r, rfl, _, h⟩ := okCells_int h
  obtain ⟨x7, r, rfl, _, h⟩ := okCells_int h
  obtain ⟨x8, r, rfl, _, h⟩ := okCells_int h
  obtain ⟨x9, r, rfl, _, h⟩ := okCells_int h
  obtain ⟨x10, r, rfl, _, h⟩ := okCells_int h
  obtain ⟨x11, r, rfl, _, h⟩ := okCells_int h
  obtain ⟨x12, r, rfl, _, h⟩ := okCells_int h
  obtain ⟨x13, r, rfl, _, h⟩ := okCells_int h
  obtain ⟨x14, r, rfl, _, h⟩ := okCells_int h
  obtain rfl := okCells_nil h
  exact ⟨⟨x0, ⟨x1, x2⟩, ⟨x3, ⟨x4, x5⟩, ⟨x6, x7⟩⟩, ⟨x8, ⟨x9, x10⟩, ⟨x11, x12⟩⟩, ⟨x13, x14⟩⟩, rfl⟩
def byH (S : Hp) (a : Option Addr) (c : Nat) (v : List UInt8) : Prop := slH false 1 (.slice a v.length c) c (v.map byteC) S (fun _ => none)
theorem ansOk {S : Hp} {cs : List Value} (h : Ok Try.prog S 1048576 61 cs) : ∃ y : AnsE, cs = ansEC y ∧ byH S y.a y.c y.x.value := by
  have h := h.structI Try.underlying61 (by kernel_rfl) rfl
  obtain ⟨c0, r, rfl, h0, c1, r, rfl, h1, c2, r, rfl, h2, c3, r, rfl, h3, c4, r, rfl, h4, rfl⟩ := h
  obtain ⟨k, r, rfl, _, g0⟩ := okCells_int (h0.flatB (n := 9) (ks := [.int .i64]) (by kernel_rfl) (by decide))
  obtain rfl := okCells_nil g0
  obtain ⟨m, r, rfl, g1⟩ := okCells_bool (h1.flatB (n := 9) (ks := [.bool]) (by kernel_rfl) (by decide))
  obtain rfl := okCells_nil g1
  obtain ⟨x2, rfl⟩ := refCOk _ (h2.flatB (n := 9) (by kernel_rfl) (by decide))
  obtain ⟨x3, rfl⟩ := refCOk _ (h3.flatB (n := 9) (by kernel_rfl) (by decide))
  obtain ⟨a, c, ws, rfl, _, _, hw⟩ := h4.rowI (ec := byteC) (sz := 1) (ok := fun _ => True) Try.underlying30 (by kernel_rfl) (by decide) (by decide) (fun a => (byteC_one a).2) (fun x hx => byteCOk _ (hx.flatB (n := 9) (by kernel_rfl) (by decide)))
  exact ⟨⟨⟨k, m, x2, x3, ws⟩, a, c⟩, rfl, hw⟩
theorem pktOk {S : Hp} {cs : List Value} (h : Ok Try.prog S 1048576 63 cs) : ∃ y : PktE, cs = pktEC y ∧ byH S y.a y.c y.p.ans.value := by
  have h := h.structI Try.underlying63 (by kernel_rfl) rfl
  obtain ⟨c0, r, rfl, h0, c1, r, rfl, h1, c2, r, rfl, h2, c3, r, rfl, h3, c4, r, rfl, h4, c5, r, rfl, h5, rfl⟩ := h
  obtain ⟨m, r, rfl, g1⟩ := okCells_bool (h0.flatB (n := 9) (ks := [.bool]) (by kernel_rfl) (by decide))
  obtain rfl := okCells_nil g1
  obtain ⟨x1, rfl, _⟩ := adCOk _ (h1.flatB (n := 9) (by kernel_rfl) (by decide))
  obtain ⟨x2, rfl, _⟩ := adCOk _ (h2.flatB (n := 9) (by kernel_rfl) (by decide))
  obtain ⟨k, r, rfl, _, g0⟩ := okCells_int (h3.flatB (n := 9) (ks := [.int .i64]) (by kernel_rfl) (by decide))
  obtain rfl := okCells_nil g0
  obtain ⟨x4, rfl⟩ := askCOk _ (h4.flatB (n := 9) (by kernel_rfl) (by decide))
  obtain ⟨⟨x, a, c⟩, rfl, hw⟩ := ansOk h5
  exact ⟨⟨⟨m, x1, x2, k, x4, x⟩, a, c⟩, rfl, hw⟩
theorem opOk {S : Hp} {cs : List Value} (h : Ok Try.prog S 1048576 65 cs) : ∃ y : OpE, cs = opEC y ∧ (byH S y.p.a y.p.c y.p.p.ans.value ∧ byH S y.x.a y.x.c y.x.x.value) := by
  have h := h.structI Try.underlying65 (by kernel_rfl) rfl
  obtain ⟨c0, r, rfl, h0, c1, r, rfl, h1, c2, r, rfl, h2, c3, r, rfl, h3, c4, r, rfl, h4, c5, r, rfl, h5, rfl⟩ := h
  obtain ⟨k, r, rfl, _, g0⟩ := okCells_int (h0.flatB (n := 9) (ks := [.int .i64]) (by kernel_rfl) (by decide))
  obtain rfl := okCells_nil g0
  obtain ⟨x1, rfl, _⟩ := adCOk _ (h1.flatB (n := 9) (by kernel_rfl) (by decide))
  obtain ⟨x2, rfl⟩ := askCOk _ (h2.flatB (n := 9) (by kernel_rfl) (by decide))
  obtain ⟨x3, rfl, w3⟩ := pktOk h3
  obtain ⟨i, r, rfl, _, g4⟩ := okCells_int (h4.flatB (n := 9) (ks := [.int .i64]) (by kernel_rfl) (by decide))
  obtain rfl := okCells_nil g4
  obtain ⟨x5, rfl, w5⟩ := ansOk h5
  exact ⟨⟨k, x1, x2, x3, i, x5⟩, rfl, w3, w5⟩
theorem PksA.old {h0 : Heap} : ∀ {ys : List PktE} {cs : List Assn}, (∀ y ∈ ys, byH (fun b => h0[b]?) y.a y.c y.p.ans.value) → Imp (Go.SL.old h0 :: cs) (PksA ys :: Go.SL.old h0 :: cs)
  | [], cs, _ => PksA.nil
  | y :: ys, cs, h => Imp.trans (PksA.old (ys := ys) fun z hz => h z (by simp [hz])) (Imp.trans Imp.swap (Imp.trans (Imp.oldSl (h y (by simp))) (Imp.trans (Imp.cons Imp.swap) PksA.cons)))
theorem AnsA.old {h0 : Heap} : ∀ {ys : List AnsE} {cs : List Assn}, (∀ y ∈ ys, byH (fun b => h0[b]?) y.a y.c y.x.value) → Imp (Go.SL.old h0 :: cs) (AnsA ys :: Go.SL.old h0 :: cs)
  | [], cs, _ => sep_nil
  | y :: ys, cs, h => Imp.trans (AnsA.old (ys := ys) fun z hz => h z (by simp [hz])) (Imp.trans Imp.swap (Imp.trans (Imp.oldSl (h y (by simp))) (Imp.trans (Imp.cons Imp.swap) (sep_cons (f := anO)))))
end Go.Proofs.Ytienlpaehgdpaaa
