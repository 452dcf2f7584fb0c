/- The law RpcComes' statement (arguments of bounded bulk), proved. -/
import Derived.Test.YtienlpaehgdpaaaTw
import Derived.Test.YtienlpaehgdpaaaTza
set_option linter.unusedVariables false
namespace Go.Proofs.Ytienlpaehgdpaaa
open Go.ChangeShapes Go.WideShapes Go.ChangeAt Go.RowKit Go.SL
set_option maxRecDepth 100000 in
theorem RpcComes_lifted (os : Os) (started : os.Started) (H : Type) (enc : TypeId × Value → H) (I : Stop.Interp) :
    ReturnsInHanded {} Try.checked os 7 .any ((Rows.OpenSpec.upto Rows.rpcComesSpec).pre6 enc Try.prog Try.f7 Rows.rpcComesUptoRow.domain false) (((Rows.OpenSpec.upto Rows.rpcComesSpec).at I).post enc Try.prog Try.f7 false true false false) := by
  refine returnsInHanded_of_cond (C := Try.checked) (s := Rows.OpenSpec.upto Rows.rpcComesSpec) (k := Rows.uptoSmall) rfl ownK started (by kernel_rfl) Try.func7
    (OpenSpec.witness (enc := enc) (C := Try.checked) (s := Rows.OpenSpec.upto Rows.rpcComesSpec) (k := Rows.uptoSmall) rfl false ⟨#[], #[.int .u8 0, .slice none 0 0], []⟩ 20 (by kernel_rfl) (by kernel_rfl) (by kernel_rfl)
      (x := ([.lit (.int .u8 0), .nil], [], [])) (by kernel_rfl) rfl (by kernel_rfl)) ?_
  intro W base args ds gs before hval0 hW _ hk _
  have hval : ∀ (j : Nat) t v, Try.f7.params[j]? = some t → args[j]? = some v → Value.okWide Try.prog W .any base t v := hval0
  have hW' := hW
  obtain ⟨p, q, hA0, hV, rfl, hfz, hnd⟩ := hW
  have hA : DataW.TrodAll enc Try.prog W 0 (fun _ => true) true Try.f7.params.toList args.toList ds p := hA0
  rw [Try.params7] at hA hval
  obtain ⟨v0, u0, d0, e0, p0, q0, l0, rfl, rfl, h0, r0⟩ := trodAll_cons hA
  obtain ⟨v1, u1, d1, e1, p1, q1, l1, rfl, rfl, h1, r1⟩ := trodAll_cons r0
  obtain ⟨l2, rfl, rfl⟩ := trodAll_nil r1
  subst l2 l1
  obtain rfl : args = #[v0, v1] := by rw [← Array.toList_inj]; exact l0
  clear l0
  obtain ⟨rfl, rfl⟩ := trodVars_none hV
  obtain ⟨x0, rfl, rfl, hp0, wn0⟩ := open_int Try.underlying5 (hval 0 5 v0 rfl rfl) h0
  have k1 := open_okS (n := 9) (B := 1048576) Try.underlying78 (by kernel_rfl) (hval 1 78 v1 rfl rfl) h1 (bulk_le hk (by simp))
  obtain ⟨a1, c1, xs1, e1', hP1, hl1, hw1⟩ := k1.rowI (ec := evEC) (sz := 30) (ok := fun y => byH (fun b => W.heap[b]?) y.x.a y.x.c y.x.x.value) Try.underlying78 (by kernel_rfl) (by decide) (by decide) (fun a => (evEC_one a).2) (fun x hx => evOk hx)
  obtain rfl : v1 = .slice a1 xs1.length c1 := by simpa using e1'
  have hw0 : 0 ≤ x0 ∧ x0 ≤ 255 := by simpa [Lit.wf, IntKind.min, IntKind.max, IntKind.signed, IntKind.bits] using wn0
  exact law_post (cs := [AnsA (xs1.map fun z : EvE => z.x), SlT false evEC 30 (.slice a1 xs1.length c1) c1 xs1, old W.heap]) laidK (by kernel_rfl) rfl rfl rfl Try.underlying4 hW' (Imp.trans (Imp.oldSl hw1) (Imp.trans Imp.swap (Imp.trans (AnsA.old (ys := xs1.map fun z : EvE => z.x) (fun y hy => by obtain ⟨z, hz, rfl⟩ := List.mem_map.1 hy; exact hP1 z hz)) (Imp.cons Imp.swap)))) (Has.there (Has.there Has.here)) (RpcComes_fn x0 hw0.1 (by omega))

theorem RpcComes_proved : Rows.RpcComesUptoSaid :=
  OpenClaim.holds_of_cond 7 Try.f7 rfl rfl rfl rfl rfl rfl rfl ⟨rfl, rfl, rfl, rfl, rfl⟩ rfl rfl rfl rfl rfl (by kernel_rfl) Try.func7 (by kernel_rfl)
    (of_decide_eq_true (by kernel_rfl)) (by unfold Func.isWrapper; first | (rw [if_pos (by decide +kernel)]; kernel_rfl) | (rw [if_neg (by decide +kernel)]; exact ⟨rfl, rfl⟩))
    (fun os started H enc _ I => RpcComes_lifted os started H enc I)
#print axioms RpcComes_proved
end Go.Proofs.Ytienlpaehgdpaaa
