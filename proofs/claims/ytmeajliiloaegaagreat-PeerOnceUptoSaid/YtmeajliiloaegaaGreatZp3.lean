/- The law PeerOnce' statement (arguments of bounded bulk), proved. -/
import Derived.Test.YtmeajliiloaegaaGreatPu
import Derived.Test.YtmeajliiloaegaaGreatPz
set_option linter.unusedVariables false
namespace Go.Proofs.YtmeajliiloaegaaGreat
open Go.ChangeShapes Go.WideShapes Go.ChangeAt Go.RowKit Go.SL
set_option maxRecDepth 100000 in
theorem PeerOnce_lifted (os : Os) (started : os.Started) (H : Type) (enc : TypeId × Value → H) (I : Stop.Interp) :
    ReturnsInHanded {} Tryz.checked os 4 .any ((Rows.OpenSpec.upto Rows.peerOnceSpec).pre6 enc Tryz.prog Tryz.f4 Rows.peerOnceUptoRow.domain false) (((Rows.OpenSpec.upto Rows.peerOnceSpec).at I).post enc Tryz.prog Tryz.f4 false true false false) := by
  refine returnsInHanded_of_cond (C := Tryz.checked) (s := Rows.OpenSpec.upto Rows.peerOnceSpec) (k := Rows.uptoSmall) rfl ownK started (by kernel_rfl) Tryz.func4
    (OpenSpec.witness (enc := enc) (C := Tryz.checked) (s := Rows.OpenSpec.upto Rows.peerOnceSpec) (k := Rows.uptoSmall) rfl false ⟨#[], #[.agg #[.int .i64 0, .int .i64 0, .int .i64 0, .int .i64 0, .int .u64 0, .int .i64 0, .int .u64 0, .slice none 0 0], .slice none 0 0], []⟩ 20 (by kernel_rfl) (by kernel_rfl) (by kernel_rfl)
      (x := ([.agg [.lit (.int .i64 0), .lit (.int .i64 0), .agg [.lit (.int .i64 0), .agg [.lit (.int .i64 0), .lit (.int .u64 0)], .agg [.lit (.int .i64 0), .lit (.int .u64 0)]], .nil], .nil], [], [])) (by kernel_rfl) rfl (by kernel_rfl)) ?_
  intro W base args ds gs before hval0 hW _ hk _
  have hval : ∀ (j : Nat) t v, Tryz.f4.params[j]? = some t → args[j]? = some v → Value.okWide Tryz.prog W .any base t v := hval0
  have hW' := hW
  obtain ⟨p, q, hA0, hV, rfl, hfz, hnd⟩ := hW
  have hA : DataW.TrodAll enc Tryz.prog W 0 (fun _ => true) true Tryz.f4.params.toList args.toList ds p := hA0
  rw [Tryz.params4] at hA hval
  obtain ⟨v0, u0, d0, e0, p0, q0, l0, rfl, rfl, h0, r0⟩ := trodAll_cons hA
  obtain ⟨v1, u1, d1, e1, p1, q1, l1, rfl, rfl, h1, r1⟩ := trodAll_cons r0
  obtain ⟨l2, rfl, rfl⟩ := trodAll_nil r1
  subst l2 l1
  obtain rfl : args = #[v0, v1] := by rw [← Array.toList_inj]; exact l0
  clear l0
  obtain ⟨rfl, rfl⟩ := trodVars_none hV
  obtain ⟨cs0, rfl, k0⟩ := open_ok (n := 9) (B := 1048576) Tryz.underlying32 (by kernel_rfl) (hval 0 32 v0 rfl rfl) h0 (bulk_le hk (by simp))
  obtain ⟨x0, rfl, hP0⟩ := setupOk k0
  obtain ⟨a1, c1, xs1, rfl, hP1, hd1, hi1⟩ := open_row (n := 9) (ec := askC) (sz := 15) Tryz.underlying33 (by kernel_rfl) (by kernel_rfl) (by decide) askCOk (hval 1 33 v1 rfl rfl) h1
  have hL1 := bulk_slice (d := d1) (n := xs1.length) hk (by simp) (by simpa using hd1)
  exact law_post (cs := [byO x0.a x0.c x0.v, SlT false askC 15 (.slice a1 xs1.length c1) c1 xs1, old W.heap]) laidK (by kernel_rfl) rfl rfl rfl Tryz.underlying4 hW' (Imp.trans (hi1 (by omega) []) (Imp.trans Imp.swap (Imp.trans (Imp.oldSl hP0.1) (Imp.trans (Imp.cons Imp.swap) (Imp.refl _))))) (Has.there (Has.there Has.here)) (PeerOnce_fn x0 (fun x hx => hP1 x hx) hP0.2 [old W.heap])

theorem PeerOnce_proved : Rows.PeerOnceUptoSaid :=
  OpenClaim.holds_of_cond 4 Tryz.f4 rfl rfl rfl rfl rfl rfl rfl ⟨rfl, rfl, rfl, rfl, rfl⟩ rfl rfl rfl rfl rfl (by kernel_rfl) Tryz.func4 (by kernel_rfl)
    (of_decide_eq_true (by kernel_rfl)) (by unfold Func.isWrapper; first | (rw [if_pos (by decide +kernel)]; kernel_rfl) | (rw [if_neg (by decide +kernel)]; exact ⟨rfl, rfl⟩))
    (fun os started H enc _ I => PeerOnce_lifted os started H enc I)
#print axioms PeerOnce_proved
end Go.Proofs.YtmeajliiloaegaaGreat
