/- The law GraphNear' statement (arguments of bounded bulk), proved. -/
import Derived.Test.YtgcmglieciaifaaGu
import Derived.Test.YtgcmglieciaifaaGz
set_option linter.unusedVariables false
namespace Go.Proofs.Ytgcmglieciaifaa
open Go.ChangeShapes Go.WideShapes Go.ChangeAt Go.RowKit Go.SL
set_option maxRecDepth 100000 in
theorem GraphNear_lifted (os : Os) (started : os.Started) (H : Type) (enc : TypeId × Value → H) (I : Stop.Interp) :
    ReturnsInHanded {} Try.checked os 9 .any ((Rows.OpenSpec.upto Rows.graphNearSpec).pre6 enc Try.prog Try.f9 Rows.graphNearUptoRow.domain false) (((Rows.OpenSpec.upto Rows.graphNearSpec).at I).post enc Try.prog Try.f9 false true false false) := by
  refine returnsInHanded_of_cond (C := Try.checked) (s := Rows.OpenSpec.upto Rows.graphNearSpec) (k := Rows.uptoSmall) rfl ownK started (by kernel_rfl) Try.func9
    (OpenSpec.witness (enc := enc) (C := Try.checked) (s := Rows.OpenSpec.upto Rows.graphNearSpec) (k := Rows.uptoSmall) rfl false ⟨#[], #[.int .i64 0, .slice none 0 0, .agg #[.int .i64 0, .int .i64 0, .int .u64 0, .int .i64 0, .int .u64 0]], []⟩ 20 (by kernel_rfl) (by kernel_rfl) (by kernel_rfl)
      (x := ([.lit (.int .i64 0), .nil, .agg [.lit (.int .i64 0), .agg [.lit (.int .i64 0), .lit (.int .u64 0)], .agg [.lit (.int .i64 0), .lit (.int .u64 0)]]], [], [])) (by kernel_rfl) rfl (by kernel_rfl)) ?_
  intro W base args ds gs before hval0 hW _ hk _
  have hval : ∀ (j : Nat) t v, Try.f9.params[j]? = some t → args[j]? = some v → Value.okWide Try.prog W .any base t v := hval0
  have hW' := hW
  obtain ⟨p, q, hA0, hV, rfl, hfz, hnd⟩ := hW
  have hA : DataW.TrodAll enc Try.prog W 0 (fun _ => true) true Try.f9.params.toList args.toList ds p := hA0
  rw [Try.params9] at hA hval
  obtain ⟨v0, u0, d0, e0, p0, q0, l0, rfl, rfl, h0, r0⟩ := trodAll_cons hA
  obtain ⟨v1, u1, d1, e1, p1, q1, l1, rfl, rfl, h1, r1⟩ := trodAll_cons r0
  obtain ⟨v2, u2, d2, e2, p2, q2, l2, rfl, rfl, h2, r2⟩ := trodAll_cons r1
  obtain ⟨l3, rfl, rfl⟩ := trodAll_nil r2
  subst l3 l2 l1
  obtain rfl : args = #[v0, v1, v2] := by rw [← Array.toList_inj]; exact l0
  clear l0
  obtain ⟨rfl, rfl⟩ := trodVars_none hV
  obtain ⟨x0, rfl, rfl, hp0, wn0⟩ := open_int Try.underlying3 (hval 0 3 v0 rfl rfl) h0
  obtain ⟨a1, c1, xs1, rfl, hP1, hd1, hi1⟩ := open_row (n := 9) (ec := refC) (sz := 5) Try.underlying26 (by kernel_rfl) (by kernel_rfl) (by decide) refCOk (hval 1 26 v1 rfl rfl) h1
  have hL1 := bulk_slice (d := d1) (n := xs1.length) hk (by simp) (by simpa using hd1)
  obtain ⟨cs2, rfl, hc2⟩ := open_flat (n := 9) Try.underlying32 (by kernel_rfl) (hval 2 32 v2 rfl rfl) h2
  obtain ⟨x2, rfl, hP2⟩ := refCOk cs2 hc2
  exact law_post (cs := [SlT false refC 5 (.slice a1 xs1.length c1) c1 xs1, old W.heap]) laidK (by kernel_rfl) rfl rfl rfl Try.underlying4 hW' (hi1 (by omega) []) (Has.there Has.here) (GraphNear_fn x0 x2 (fun x hx => hP1 x hx) hP2 [old W.heap])

theorem GraphNear_proved : Rows.GraphNearUptoSaid :=
  OpenClaim.holds_of_cond 9 Try.f9 rfl rfl rfl rfl rfl rfl rfl ⟨rfl, rfl, rfl, rfl, rfl⟩ rfl rfl rfl rfl rfl (by kernel_rfl) Try.func9 (by kernel_rfl)
    (of_decide_eq_true (by kernel_rfl)) (by unfold Func.isWrapper; first | (rw [if_pos (by decide +kernel)]; kernel_rfl) | (rw [if_neg (by decide +kernel)]; exact ⟨rfl, rfl⟩))
    (fun os started H enc _ I => GraphNear_lifted os started H enc I)
#print axioms GraphNear_proved
end Go.Proofs.Ytgcmglieciaifaa
