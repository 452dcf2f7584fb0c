/- The law RpcMany' statement (arguments of bounded bulk), proved. -/
import Derived.Test.YtienlpaehgdpaaaTr
import Derived.Test.YtienlpaehgdpaaaTz
set_option linter.unusedVariables false
namespace Go.Proofs.Ytienlpaehgdpaaa
open Go.ChangeShapes Go.WideShapes Go.ChangeAt Go.RowKit Go.SL
set_option maxRecDepth 100000 in
theorem RpcMany_lifted (os : Os) (started : os.Started) (H : Type) (enc : TypeId × Value → H) (I : Stop.Interp) :
    ReturnsInHanded {} Try.checked os 5 .any ((Rows.OpenSpec.upto Rows.rpcManySpec).pre6 enc Try.prog Try.f5 Rows.rpcManyUptoRow.domain false) (((Rows.OpenSpec.upto Rows.rpcManySpec).at I).post enc Try.prog Try.f5 false true false false) := by
  refine returnsInHanded_of_cond (C := Try.checked) (s := Rows.OpenSpec.upto Rows.rpcManySpec) (k := Rows.uptoSmall) rfl ownK started (by kernel_rfl) Try.func5
    (OpenSpec.witness (enc := enc) (C := Try.checked) (s := Rows.OpenSpec.upto Rows.rpcManySpec) (k := Rows.uptoSmall) rfl false ⟨#[], #[.int .u16 0, .slice none 0 0], []⟩ 20 (by kernel_rfl) (by kernel_rfl) (by kernel_rfl)
      (x := ([.lit (.int .u16 0), .nil], [], [])) (by kernel_rfl) rfl (by kernel_rfl)) ?_
  intro W base args ds gs before hval0 hW _ hk _
  have hval : ∀ (j : Nat) t v, Try.f5.params[j]? = some t → args[j]? = some v → Value.okWide Try.prog W .any base t v := hval0
  have hW' := hW
  obtain ⟨p, q, hA0, hV, rfl, hfz, hnd⟩ := hW
  have hA : DataW.TrodAll enc Try.prog W 0 (fun _ => true) true Try.f5.params.toList args.toList ds p := hA0
  rw [Try.params5] at hA hval
  obtain ⟨v0, u0, d0, e0, p0, q0, l0, rfl, rfl, h0, r0⟩ := trodAll_cons hA
  obtain ⟨v1, u1, d1, e1, p1, q1, l1, rfl, rfl, h1, r1⟩ := trodAll_cons r0
  obtain ⟨l2, rfl, rfl⟩ := trodAll_nil r1
  subst l2 l1
  obtain rfl : args = #[v0, v1] := by rw [← Array.toList_inj]; exact l0
  clear l0
  obtain ⟨rfl, rfl⟩ := trodVars_none hV
  obtain ⟨x0, rfl, rfl, hp0, wn0⟩ := open_int Try.underlying71 (hval 0 71 v0 rfl rfl) h0
  obtain ⟨a1, c1, xs1, rfl, hP1, hd1, hi1⟩ := open_row (n := 9) (ec := byteC) (sz := 1) Try.underlying30 (by kernel_rfl) (by kernel_rfl) (by decide) byteCOk (hval 1 30 v1 rfl rfl) h1
  have hL1 := bulk_slice (d := d1) (n := xs1.length) hk (by simp) (by simpa using hd1)
  have hw0 : 0 ≤ x0 ∧ x0 ≤ 65535 := by simpa [Lit.wf, IntKind.min, IntKind.max, IntKind.signed, IntKind.bits] using wn0
  exact law_post (cs := [SlT false byteC 1 (.slice a1 xs1.length c1) c1 xs1, old W.heap]) laidK (by kernel_rfl) rfl rfl rfl Try.underlying4 hW' (hi1 (by omega) []) (Has.there Has.here) (RpcMany_fn x0 hw0.1 (by omega))

theorem RpcMany_proved : Rows.RpcManyUptoSaid :=
  OpenClaim.holds_of_cond 5 Try.f5 rfl rfl rfl rfl rfl rfl rfl ⟨rfl, rfl, rfl, rfl, rfl⟩ rfl rfl rfl rfl rfl (by kernel_rfl) Try.func5 (by kernel_rfl)
    (of_decide_eq_true (by kernel_rfl)) (by unfold Func.isWrapper; first | (rw [if_pos (by decide +kernel)]; kernel_rfl) | (rw [if_neg (by decide +kernel)]; exact ⟨rfl, rfl⟩))
    (fun os started H enc _ I => RpcMany_lifted os started H enc I)
#print axioms RpcMany_proved
end Go.Proofs.Ytienlpaehgdpaaa
