/- The law RpcCalls' statement (arguments of bounded bulk), proved. -/
import Derived.Test.YtienlpaehgdpaaaTz
set_option linter.unusedVariables false
namespace Go.Proofs.Ytienlpaehgdpaaa
open Go.ChangeShapes Go.WideShapes Go.ChangeAt Go.RowKit Go.SL
set_option maxRecDepth 100000 in
theorem RpcCalls_lifted (os : Os) (started : os.Started) (H : Type) (enc : TypeId × Value → H) (I : Stop.Interp) :
    ReturnsInHanded {} Try.checked os 4 .any ((Rows.OpenSpec.upto Rows.rpcCallsSpec).pre6 enc Try.prog Try.f4 Rows.rpcCallsUptoRow.domain false) (((Rows.OpenSpec.upto Rows.rpcCallsSpec).at I).post enc Try.prog Try.f4 false true false false) := by
  refine returnsInHanded_of_cond (C := Try.checked) (s := Rows.OpenSpec.upto Rows.rpcCallsSpec) (k := Rows.uptoSmall) rfl ownK started (by kernel_rfl) Try.func4
    (OpenSpec.witness (enc := enc) (C := Try.checked) (s := Rows.OpenSpec.upto Rows.rpcCallsSpec) (k := Rows.uptoSmall) rfl false ⟨#[], #[.agg #[.bool false, .int .i64 0], .int .i64 0, .slice none 0 0], []⟩ 20 (by kernel_rfl) (by kernel_rfl) (by kernel_rfl)
      (x := ([.agg [.lit (.bool false), .lit (.int .i64 0)], .lit (.int .i64 0), .nil], [], [])) (by kernel_rfl) rfl (by kernel_rfl)) ?_
  intro W base args ds gs before hval0 hW _ hk _
  have hval : ∀ (j : Nat) t v, Try.f4.params[j]? = some t → args[j]? = some v → Value.okWide Try.prog W .any base t v := hval0
  have hW' := hW
  obtain ⟨p, q, hA0, hV, rfl, hfz, hnd⟩ := hW
  have hA : DataW.TrodAll enc Try.prog W 0 (fun _ => true) true Try.f4.params.toList args.toList ds p := hA0
  rw [Try.params4] at hA hval
  obtain ⟨v0, u0, d0, e0, p0, q0, l0, rfl, rfl, h0, r0⟩ := trodAll_cons hA
  obtain ⟨v1, u1, d1, e1, p1, q1, l1, rfl, rfl, h1, r1⟩ := trodAll_cons r0
  obtain ⟨v2, u2, d2, e2, p2, q2, l2, rfl, rfl, h2, r2⟩ := trodAll_cons r1
  obtain ⟨l3, rfl, rfl⟩ := trodAll_nil r2
  subst l3 l2 l1
  obtain rfl : args = #[v0, v1, v2] := by rw [← Array.toList_inj]; exact l0
  clear l0
  obtain ⟨rfl, rfl⟩ := trodVars_none hV
  obtain ⟨cs0, rfl, hc0⟩ := open_flat (n := 9) Try.underlying45 (by kernel_rfl) (hval 0 45 v0 rfl rfl) h0
  obtain ⟨x0, rfl, hP0⟩ := adCOk cs0 hc0
  obtain ⟨x1, rfl, rfl, hp1, wn1⟩ := open_int Try.underlying3 (hval 1 3 v1 rfl rfl) h1
  have k2 := open_okS (n := 9) (B := 1048576) Try.underlying46 (by kernel_rfl) (hval 2 46 v2 rfl rfl) h2 (bulk_le hk (by simp))
  obtain ⟨a2, c2, xs2, e2', hP2, hl2, hw2⟩ := k2.rowI (ec := opEC) (sz := 66) (ok := fun y => byH (fun b => W.heap[b]?) y.p.a y.p.c y.p.p.ans.value ∧ byH (fun b => W.heap[b]?) y.x.a y.x.c y.x.x.value) Try.underlying46 (by kernel_rfl) (by decide) (by decide) (fun a => (opEC_one a).2) (fun x hx => opOk hx)
  obtain rfl : v2 = .slice a2 xs2.length c2 := by simpa using e2'
  exact law_post (cs := [PksA (xs2.map fun z : OpE => z.p), SlT false opEC 66 (.slice a2 xs2.length c2) c2 xs2, old W.heap]) laidK (by kernel_rfl) rfl rfl rfl Try.underlying4 hW' (Imp.trans (Imp.oldSl hw2) (Imp.trans Imp.swap (Imp.trans (PksA.old (ys := xs2.map fun z : OpE => z.p) (fun y hy => by obtain ⟨z, hz, rfl⟩ := List.mem_map.1 hy; exact (hP2 z hz).1)) (Imp.trans (Imp.cons Imp.swap) (Imp.refl _))))) (Has.there (Has.there Has.here)) (RpcCalls_fn x0 x1)

theorem RpcCalls_proved : Rows.RpcCallsUptoSaid :=
  OpenClaim.holds_of_cond 4 Try.f4 rfl rfl rfl rfl rfl rfl rfl ⟨rfl, rfl, rfl, rfl, rfl⟩ rfl rfl rfl rfl rfl (by kernel_rfl) Try.func4 (by kernel_rfl)
    (of_decide_eq_true (by kernel_rfl)) (by unfold Func.isWrapper; first | (rw [if_pos (by decide +kernel)]; kernel_rfl) | (rw [if_neg (by decide +kernel)]; exact ⟨rfl, rfl⟩))
    (fun os started H enc _ I => RpcCalls_lifted os started H enc I)
#print axioms RpcCalls_proved
end Go.Proofs.Ytienlpaehgdpaaa
