/- The law PeerNobody' statement, proved. -/
import Derived.Test.YtmeajliiloaegaaGreatBk
import Derived.Test.YtmeajliiloaegaaGreatPq
import Derived.Test.YtmeajliiloaegaaGreatSlZ
import Derived.JoinedCond
set_option linter.unusedVariables false
namespace Go.Proofs.YtmeajliiloaegaaGreat
open Go.ChangeShapes Go.WideShapes Go.ChangeAt Go.RowKit Go.SL

theorem ownK : ownKnob Tryz.prog.godebug = none := by kernel_rfl
theorem laidK : laidOutB Tryz.prog = true := by kernel_rfl

theorem askCOk (cs : List Value) (h : okCells [.int .i64, .int .i64, .int .u64, .int .i64, .int .i64, .int .u64, .int .i64, .int .u64, .int .i64, .int .i64, .int .u64, .int .i64, .int .u64, .int .i64, .int .i64] cs) : ∃ x : SL.Ask, cs = askC x ∧ True := by
  obtain ⟨x0, r, rfl, w0, h0⟩ := okCells_int h
  obtain ⟨x1, r, rfl, w1, h1⟩ := okCells_int h0
  obtain ⟨x2, r, rfl, w2, h2⟩ := okCells_int h1
  obtain ⟨x3, r, rfl, w3, h3⟩ := okCells_int h2
  obtain ⟨x4, r, rfl, w4, h4⟩ := okCells_int h3
  obtain ⟨x5, r, rfl, w5, h5⟩ := okCells_int h4
  obtain ⟨x6, r, rfl, w6, h6⟩ := okCells_int h5
  obtain ⟨x7, r, rfl, w7, h7⟩ := okCells_int h6
  obtain ⟨x8, r, rfl, w8, h8⟩ := okCells_int h7
  obtain ⟨x9, r, rfl, w9, h9⟩ := okCells_int h8
  obtain ⟨x10, r, rfl, w10, h10⟩ := okCells_int h9
  obtain ⟨x11, r, rfl, w11, h11⟩ := okCells_int h10
  obtain ⟨x12, r, rfl, w12, h12⟩ := okCells_int h11
  obtain ⟨x13, r, rfl, w13, h13⟩ := okCells_int h12
  obtain ⟨x14, r, rfl, w14, h14⟩ := okCells_int h13
  obtain rfl := okCells_nil h14
  exact ⟨⟨x0, ⟨x1, x2⟩, ⟨x3, ⟨x4, x5⟩, ⟨x6, x7⟩⟩, ⟨x8, ⟨x9, x10⟩, ⟨x11, x12⟩⟩, ⟨x13, x14⟩⟩, rfl, trivial⟩

theorem vecCOk (cs : List Value) (h : okCells [.int .i64, .int .u64] cs) : ∃ x : SL.Vec, cs = vecC x ∧ True := by
  obtain ⟨x0, r, rfl, w0, h0⟩ := okCells_int h
  obtain ⟨x1, r, rfl, w1, h1⟩ := okCells_int h0
  obtain rfl := okCells_nil h1
  exact ⟨⟨x0, x1⟩, rfl, trivial⟩

set_option maxRecDepth 100000 in
theorem PeerNobody_lifted (os : Os) (started : os.Started) (H : Type) (enc : TypeId × Value → H) :
    ReturnsInHanded {} Tryz.checked os 6 .any (Rows.peerNobodySpec.pre6 enc Tryz.prog Tryz.f6 Rows.peerNobodyRow.domain false) (Rows.peerNobodySpec.post enc Tryz.prog Tryz.f6 false true false false) := by
  refine returnsInHanded_of_change (C := Tryz.checked) ownK started (by kernel_rfl) Tryz.func6
    (ChangeSpec.witness6 (enc := enc) (C := Tryz.checked) false ⟨#[], #[.agg #[.int .i64 0, .int .i64 0, .int .u64 0, .int .i64 0, .int .i64 0, .int .u64 0, .int .i64 0, .int .u64 0, .int .i64 0, .int .i64 0, .int .u64 0, .int .i64 0, .int .u64 0, .int .i64 0, .int .i64 0], .agg #[.int .i64 0, .int .u64 0]], []⟩ 20 (by kernel_rfl) (by kernel_rfl) (by kernel_rfl) (by kernel_rfl)) ?_
  intro W base args ds gs before hval0 hW _ _
  have hval : ∀ (j : Nat) t v, Tryz.f6.params[j]? = some t → args[j]? = some v → Value.okWide Tryz.prog W .any base t v := hval0
  have hW' := hW
  obtain ⟨p, q, hA0, hV, rfl, hfz, hnd⟩ := hW
  have hA : DataW.TrodAll enc Tryz.prog W 0 (fun _ => true) true Tryz.f6.params.toList args.toList ds p := hA0
  rw [Tryz.params6] at hA hval
  obtain ⟨v0, u0, d0, e0, p0, q0, l0, rfl, rfl, h0, r0⟩ := trodAll_cons hA
  obtain ⟨v1, u1, d1, e1, p1, q1, l1, rfl, rfl, h1, r1⟩ := trodAll_cons r0
  obtain ⟨l2, rfl, rfl⟩ := trodAll_nil r1
  subst l2 l1
  obtain rfl : args = #[v0, v1] := by rw [← Array.toList_inj]; exact l0
  clear l0
  obtain ⟨rfl, rfl⟩ := trodVars_none hV
  obtain ⟨cs0, rfl, hc0⟩ := open_flat (n := 9) Tryz.underlying47 (by kernel_rfl) (hval 0 47 v0 rfl rfl) h0
  obtain ⟨x0, rfl, hP0⟩ := askCOk cs0 hc0
  obtain ⟨cs1, rfl, hc1⟩ := open_flat (n := 9) Tryz.underlying27 (by kernel_rfl) (hval 1 27 v1 rfl rfl) h1
  obtain ⟨x1, rfl, hP1⟩ := vecCOk cs1 hc1
  exact law_post laidK (by kernel_rfl) rfl rfl rfl Tryz.underlying4 hW' (Imp.refl _) Has.here (PeerNobody_fn x0 x1 [old W.heap])

theorem PeerNobody_proved : Rows.PeerNobodySaid :=
  OpenClaim.holds_of_wide 6 Tryz.f6 rfl rfl rfl rfl rfl rfl rfl ⟨rfl, rfl, rfl, rfl, rfl⟩ rfl rfl rfl rfl rfl (by kernel_rfl) Tryz.func6 (by kernel_rfl)
    (of_decide_eq_true (by kernel_rfl)) (by unfold Func.isWrapper; first | (rw [if_pos (by decide +kernel)]; kernel_rfl) | (rw [if_neg (by decide +kernel)]; exact ⟨rfl, rfl⟩))
    (fun os started H enc _ => PeerNobody_lifted os started H enc)
#print axioms PeerNobody_proved
end Go.Proofs.YtmeajliiloaegaaGreat
