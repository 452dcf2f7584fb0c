/- Layer 4: answers and packets that may be: the functions. Conditions: none. -/
import Derived.Test.YtienlpaehgdpaaaTb
import Derived.Test.YtienlpaehgdpaaaTe
set_option linter.unusedSimpArgs false
set_option linter.unusedVariables false
set_option maxRecDepth 100000
set_option maxHeartbeats 2000000
namespace Go.SL
open Go
theorem Ans.dec (a b : Ans) : decide (a = b) = (decide (a.kind = b.kind) && ((a.marked == b.marked) && (decide (a.left = b.left) && (decide (a.right = b.right) && decide (a.value = b.value))))) := by
  cases a; cases b; rw [Bool.eq_iff_iff]; simp
theorem Pkt.dec (a b : Pkt) : decide (a = b) = ((a.reply == b.reply) && (decide (a.src = b.src) && (decide (a.dst = b.dst) && (decide (a.id = b.id) && (decide (a.ask = b.ask) && decide (a.ans = b.ans)))))) := by
  cases a; cases b; rw [Bool.eq_iff_iff]; simp
instance {a : SL.Ask} : BP (decide (askE a = 0)) a.ok (¬ a.ok) := .mk' (by simp [askE]) .rfl
instance {a : SL.Ask} : BP (decide (askE a ≠ 0)) (¬ a.ok) a.ok := .mk' (by simp [askE]) (by simp)
instance {a : Ans} : BP (decide (ansE a = 0)) a.ok (¬ a.ok) := .mk' (by simp [ansE]) .rfl
instance {a : Pkt} : BP (decide (pktE a = 0)) a.ok (¬ a.ok) := .mk' (by simp [pktE]) .rfl
instance {a : Ans} : BP (!decide (ansE a = 0)) (¬ a.ok) a.ok := .mk' (by simp [ansE]) (by simp)
instance {a : Pkt} : BP (!decide (pktE a = 0)) (¬ a.ok) a.ok := .mk' (by simp [pktE]) (by simp)
theorem Ans.ok1 {a : Ans} (h : a.kind = 1) : a.ok ↔ sideOk a.left ∧ sideOk a.right ∧ a.value.length ≤ 1024 := by unfold Ans.ok; simp [h]
theorem Ans.ok3 {a : Ans} (h : a.kind = 3) : a.ok ↔ sideOk a.left ∧ sideOk a.right ∧ a.value = [] := by unfold Ans.ok; simp [h]
theorem Ans.ok24 {a : Ans} (h : a.kind = 2 ∨ a.kind = 4) : a.ok ↔ a = { zAns with kind := a.kind } := by
  unfold Ans.ok
  rcases h with h | h <;> simp [h]
theorem Ans.okN {a : Ans} (h : ¬ a.kind = 1) (h2 : ¬ a.kind = 2) (h3 : ¬ a.kind = 3) (h4 : ¬ a.kind = 4) : ¬ a.ok := by unfold Ans.ok; simp [h, h2, h3, h4]
theorem zAsk_cells (x : SL.Ask) : x = zAsk ↔ x.kind = 0 ∧ x.w.len = 0 ∧ x.w.bits = 0 ∧ x.ref.id = 0 ∧ x.ref.key.rank = 0 ∧ x.ref.key.n = 0 ∧ x.ref.vec.len = 0 ∧ x.ref.vec.bits = 0 ∧ x.ref2.id = 0 ∧ x.ref2.key.rank = 0 ∧ x.ref2.key.n = 0 ∧ x.ref2.vec.len = 0 ∧ x.ref2.vec.bits = 0 ∧ x.o.agent = 0 ∧ x.o.op = 0 := by
  obtain ⟨k, ⟨v1, v2⟩, ⟨i, ⟨k1, n1⟩, ⟨l1, m1⟩⟩, ⟨i2, ⟨k2, n2⟩, ⟨l2, m2⟩⟩, ⟨o1, o2⟩⟩ := x
  simp only [zAsk, zR, zK, zV, zO, Ask.mk.injEq, Ref.mk.injEq, Key.mk.injEq, Vec.mk.injEq, Owner.mk.injEq, and_assoc]
theorem not_and_or2 {p q : Prop} [Decidable p] (h : ¬ p ∨ ¬ q) : ¬ (p ∧ q) := fun ⟨a, b⟩ => h.elim (fun f => f a) (fun f => f b)
theorem Pkt.ok_rep {p : Pkt} (h : p.reply = true) : p.ok ↔ 1 ≤ p.id ∧ p.id ≤ 4611686018427387904 ∧ p.ask = zAsk ∧ p.ans.ok := by unfold Pkt.ok; simp [h]
theorem Pkt.ok_req {p : Pkt} (h : p.reply = false) : p.ok ↔ 1 ≤ p.id ∧ p.id ≤ 4611686018427387904 ∧ p.ans = zAns ∧ p.ask.ok := by unfold Pkt.ok; simp [h]
end Go.SL
namespace Go.Proofs.Ytienlpaehgdpaaa
open Go Go.SL
attribute [local irreducible] pc rc SlT Me Mt It pt ro pur ex sep old Meets
theorem mgCheckAsk_fn (a : SL.Ask) (F : List Assn) : Meets Try.prog 54 [askv a] F (Det (i64 (askE a)) F) := by
  refine Meets.intro b54 k54 (by simp) ?_
  by_cases h : 1 ≤ a.kind ∧ a.kind ≤ 10
  · by_cases ho : a.ok
    · focus
       refine zs <| yB rfl fun b1 => zc rfl <| zw rfl rfl <| yE rfl rfl (.of .rf) (mgask_ok _ _ (by assumption)) fun x7 _ => zc rfl <| zc rfl <| zc rfl <| zd <| zq <| zi rfl (fun h1 => ?_) (fun h1 => ?_)
       contradiction
       refine zk <| zs <| zc rfl <| zd <| zr <| yR (.t rfl .nil) ?_ (.of (.d .rf))
      all_goals (simp only [mkRet, askE]; (repeat (first | rw [if_pos (by (first | assumption | omega | grind))] | rw [if_neg (by (first | assumption | omega | grind))])))
    · focus
       refine zs <| yB rfl fun b1 => zc rfl <| zw rfl rfl <| yE rfl rfl (.of .rf) (mgask_ok _ _ (by assumption)) fun x7 _ => zc rfl <| zc rfl <| zc rfl <| zd <| zq <| zi rfl (fun h1 => ?_) (fun h1 => ?_)
       refine zs <| zc rfl <| zd <| zr <| yR (.t rfl .nil) ?_ (.of (.d .rf))
       rotate_left
       contradiction
      all_goals (simp only [mkRet, askE]; (repeat (first | rw [if_pos (by (first | assumption | omega | grind))] | rw [if_neg (by (first | assumption | omega | grind))])))
  · have hP : ∀ F, Meets Try.prog 84 [askv a] F (Some' (fun _ : Value => True) (fun s => .tuple #[s, .bool false]) (fun _ => F)) := by
      intro F
      refine Meets.intro b84 k84 (by simp) ?_
      focus
       refine zs <| yB rfl fun b1 => zc rfl <| zc rfl <| zfl rfl rfl rfl <| yD rfl rfl (.of .rf) (mgneeds_no _ _ (by assumption)) <| zc rfl <| zc rfl <| zc rfl <| zc rfl <| zd <| zq ?_
       refine zt rfl <| zs <| zc rfl <| zc rfl <| zd <| zr <| yQ _ (.t rfl (.t rfl .nil)) trivial rfl (.of (.d .rf))
    have ho : ¬ a.ok := fun h' => h ⟨h'.1, h'.2.1⟩
    focus
     refine zs <| yB rfl fun b1 => zc rfl <| zw rfl rfl <| yE rfl rfl (.of .rf) (hP _) fun x7 _ => zc rfl <| zc rfl <| zc rfl <| zd <| zq <| zt rfl <| zs ?_
     refine zc rfl <| zd <| zr <| yR (.t rfl .nil) ?_ (.of (.d .rf))
    all_goals (simp only [mkRet, askE]; (repeat (first | rw [if_pos (by (first | assumption | omega | grind))] | rw [if_neg (by (first | assumption | omega | grind))])))
theorem mgside_fn (r : SL.Ref) (F : List Assn) : Meets Try.prog 125 [rv r] F (Det (.bool (decide (sideOk r))) F) := by
  refine Meets.intro b125 k125 (by simp) ?_
  by_cases h : r = zR
  · focus
     refine zs <| yB rfl fun b1 => zc rfl <| zw rfl rfl <| zg rfl ?_
     refine zy (.eqTt rfl rfl (by assumption)) <| zv rfl rfl <| zv rfl rfl <| zv rfl rfl <| zv rfl rfl <| zy (.pickT rfl rfl) <| zd <| zr <| yR (.t rfl .nil) ?_ (.of (.d .rf))
    simp only [mkRet]; rw [decide_eq_true (show sideOk r from .inl h)]
  · by_cases h2 : refOk r
    · have hP := fun F => pkCheck_R r F
      rw [if_pos h2] at hP
      focus
       refine zs <| yB rfl fun b1 => zc rfl <| zw rfl rfl <| zg rfl ?_
       refine zy (.eqTf rfl rfl (by assumption)) <| yG rfl <| zw rfl rfl <| yG rfl <| zg rfl <| yG rfl <| yD rfl rfl (.of .rf) (hP _) <| yG rfl <| zy (.ceqT rfl rfl (by decide)) <| zy (.pickF rfl rfl) <| zd <| zr ?_
       refine yR (.t rfl .nil) ?_ (.of (.d .rf))
      simp only [mkRet]; rw [decide_eq_true (show sideOk r from .inr h2)]
    · have hP := fun F => pkCheck_R r F
      rw [if_neg h2] at hP
      focus
       refine zs <| yB rfl fun b1 => zc rfl <| zw rfl rfl <| zg rfl ?_
       refine zy (.eqTf rfl rfl (by assumption)) <| yG rfl <| zw rfl rfl <| yG rfl <| zg rfl <| yG rfl <| yD rfl rfl (.of .rf) (hP _) <| yG rfl <| zy (.ceqF rfl rfl (by decide)) <| zy (.pickF rfl rfl) <| zd <| zr ?_
       refine yR (.t rfl .nil) ?_ (.of (.d .rf))
      simp only [mkRet]; rw [decide_eq_false (show ¬ sideOk r from fun e => e.elim h h2)]
theorem mgSameAnswer_fn (x y : AnsE) {F : List Assn} [H1 : HS F (.slice x.a x.x.value.length x.c) UInt8 byteC 1 x.c x.x.value] [H2 : HS F (.slice y.a y.x.value.length y.c) UInt8 byteC 1 y.c y.x.value] :
    Meets Try.prog 87 [anv x, anv y] F (Det (.bool (decide (x.x = y.x))) F) := by
  refine Meets.intro b87 k87 (by simp) ?_
  focus
   refine zs <| yB rfl fun b2 => yB rfl fun b3 => zc rfl <| zfl rfl rfl rfl <| zfl rfl rfl rfl <| zj rfl rfl rfl <| zp rfl (fun h1 => ?_) (fun h1 => ?_)
   refine zf 1 rfl rfl <| yT rfl (by assumption) <| zl rfl rfl <| yT rfl (by assumption) <| zf 1 rfl rfl <| yT rfl (by assumption) <| zl rfl rfl <| yT rfl (by assumption) <| zc rfl <| zy (.pickTp rfl (by assumption) rfl) <| zp rfl (fun h2 => ?_) (fun h2 => ?_)
   refine zf 2 rfl rfl <| yT rfl (by assumption) <| zy (.Lf rfl (Nat.le_of_ble_eq_true rfl)) <| yT rfl (by assumption) <| zf 2 rfl rfl <| yT rfl (by assumption) <| zy (.Lf rfl (Nat.le_of_ble_eq_true rfl)) <| yT rfl (by assumption) <| zy (.eqT rfl rfl) <| zy (.pickTp rfl (by assumption) rfl) <| zp rfl (fun h3 => ?_) (fun h3 => ?_)
   refine zf 7 rfl rfl <| yT rfl (by assumption) <| zy (.Lf rfl (Nat.le_of_ble_eq_true rfl)) <| yT rfl (by assumption) <| zf 7 rfl rfl <| yT rfl (by assumption) <| zy (.Lf rfl (Nat.le_of_ble_eq_true rfl)) <| yT rfl (by assumption) <| zy (.eqT rfl rfl) <| zy (.pickTp rfl (by assumption) rfl) <| zp rfl (fun h4 => ?_) (fun h4 => ?_)
   refine zf 12 rfl rfl <| yT rfl (by assumption) <| zl rfl rfl <| yT rfl (by assumption) <| zf 12 rfl rfl <| yT rfl (by assumption) <| zl rfl rfl <| yT rfl (by assumption) <| yD rfl rfl (.of .rf) byEqual_fn <| zy (.pickTp rfl (by assumption) rfl) <| zd <| zr ?_
   refine yR (.t rfl .nil) ?_ (.of (.d (.d .rf)))
   rotate_left
   refine yTs rfl (by assumption) <| yTs rfl (by assumption) <| yTs rfl (by assumption) <| yTs rfl (by assumption) <| zy (.pickFp rfl (by assumption) rfl) <| zd <| zr <| yR (.t rfl .nil) ?_ (.of (.d (.d .rf)))
   rotate_left
   refine yTs rfl (by assumption) <| yTs rfl (by assumption) <| yTs rfl (by assumption) <| yTs rfl (by assumption) <| zy (.pickFp rfl (by assumption) rfl) <| zv rfl rfl <| zv rfl rfl <| zv rfl rfl <| zv rfl rfl <| zv rfl rfl <| zy (.pickF rfl rfl) <| zd ?_
   refine zr <| yR (.t rfl .nil) ?_ (.of (.d (.d .rf)))
   rotate_left
   refine yTs rfl (by assumption) <| yTs rfl (by assumption) <| yTs rfl (by assumption) <| yTs rfl (by assumption) <| zy (.pickFp rfl (by assumption) rfl) <| zv rfl rfl <| zv rfl rfl <| zv rfl rfl <| zv rfl rfl <| zv rfl rfl <| zy (.pickF rfl rfl) <| zv rfl rfl ?_
   refine zv rfl rfl <| zv rfl rfl <| zv rfl rfl <| zv rfl rfl <| zy (.pickF rfl rfl) <| zd <| zr <| yR (.t rfl .nil) ?_ (.of (.d (.d .rf)))
   rotate_left
   refine yTs rfl (by assumption) <| yTs rfl (by assumption) <| yTs rfl (by assumption) <| yTs rfl (by assumption) <| zy (.pickFp rfl (by assumption) rfl) <| zv rfl rfl <| zv rfl rfl <| zv rfl rfl <| zv rfl rfl <| zv rfl rfl <| zy (.pickF rfl rfl) <| zv rfl rfl ?_
   refine zv rfl rfl <| zv rfl rfl <| zv rfl rfl <| zv rfl rfl <| zy (.pickF rfl rfl) <| zv rfl rfl <| zv rfl rfl <| zv rfl rfl <| zv rfl rfl <| zv rfl rfl <| zy (.pickF rfl rfl) <| zd ?_
   refine zr <| yR (.t rfl .nil) ?_ (.of (.d (.d .rf)))
   rotate_left
  all_goals (simp only [mkRet]; rw [Ans.dec])
  · have e : (x.x.marked == y.x.marked) = true := by rcases h2 with ⟨h, h'⟩ | ⟨h, h'⟩ <;> rw [h, h'] <;> rfl
    rw [decide_eq_true h1, e, decide_eq_true h3, decide_eq_true h4]; rfl
  · rw [decide_eq_false h4]; simp
  · rw [decide_eq_false h3]; simp
  · have e : (x.x.marked == y.x.marked) = false := by rcases h2 with ⟨h, h'⟩ | ⟨h, h'⟩ <;> rw [h, h'] <;> rfl
    rw [e]; simp
  · rw [decide_eq_false h1]; simp
theorem mgSameAnswer_z (x : AnsE) (k : Int) {F : List Assn} [H1 : HS F (.slice x.a x.x.value.length x.c) UInt8 byteC 1 x.c x.x.value] :
    Meets Try.prog 87 [anv x, anv ⟨⟨k, false, zR, zR, []⟩, none, 0⟩] F (Det (.bool (decide (x.x = ⟨k, false, zR, zR, []⟩))) F) := by
  refine Meets.post (Meets.up (Up.nilS (enc := byteC) (sz := 1) false (by decide) (Up.refl _)) (mgSameAnswer_fn x ⟨⟨k, false, zR, zR, []⟩, none, 0⟩)) ?_
  rintro v c ⟨rfl, rfl⟩
  exact ⟨F, Up.of Imp.drop, rfl, rfl⟩
theorem mgCheckAnswer_fn (x : AnsE) {F : List Assn} [H1 : HS F (.slice x.a x.x.value.length x.c) UInt8 byteC 1 x.c x.x.value] :
    Meets Try.prog 86 [anv x] F (Det (i64 (ansE x.x)) F) := by
  refine Meets.intro b86 k86 (by simp) ?_
  by_cases hk1 : x.x.kind = 1
  · have ho := Ans.ok1 hk1
    focus
     refine zs <| yB rfl fun b1 => zc rfl <| zc rfl <| zfl rfl rfl rfl <| zd <| zq <| zb <| zs <| zy (.ceqT rfl rfl (by omega)) <| zd <| zt rfl ?_
     refine zo <| zfw [_, _, _, _, _] rfl rfl rfl rfl <| yD rfl rfl (.of .rf) (mgside_fn _ _) <| zp rfl (fun h1 => ?_) (fun h1 => ?_)
     refine zf 7 rfl rfl <| yT rfl (by assumption) <| zy (.Lf rfl (Nat.le_of_ble_eq_true rfl)) <| yT rfl (by assumption) <| yD rfl rfl (.of .rf) (mgside_fn _ _) <| zy (.pickTp rfl (by assumption) rfl) <| zp rfl (fun h2 => ?_) (fun h2 => ?_)
     refine zf 12 rfl rfl <| yT rfl (by assumption) <| zl rfl rfl <| yT rfl (by assumption) <| zc rfl <| yT rfl (by assumption) <| zj rfl rfl rfl <| zy (.pickTp rfl (by assumption) rfl) <| zd <| zs <| zc rfl <| zd ?_
     refine zq <| zi rfl (fun h3 => ?_) (fun h3 => ?_)
     refine zs <| zc rfl <| zd <| zr <| yR (.t rfl .nil) ?_ (.of (.d .rf))
     rotate_left
     refine zk <| zs <| zc rfl <| zd <| zr <| yR (.t rfl .nil) ?_ (.of (.d .rf))
     rotate_left
     refine yTs rfl (by assumption) <| yTs rfl (by assumption) <| yTs rfl (by assumption) <| zy (.pickFp rfl (by assumption) rfl) <| zd <| zs <| zc rfl <| zd <| zq <| zt rfl <| zs <| zc rfl ?_
     refine zd <| zr <| yR (.t rfl .nil) ?_ (.of (.d .rf))
     rotate_left
     refine yTs rfl (by assumption) <| yTs rfl (by assumption) <| zy (.pickFp rfl (by assumption) rfl) <| zv rfl rfl <| zv rfl rfl <| zv rfl rfl <| zv rfl rfl <| zy (.pickF rfl rfl) <| zd <| zs <| zc rfl <| zd ?_
     refine zq <| zt rfl <| zs <| zc rfl <| zd <| zr <| yR (.t rfl .nil) ?_ (.of (.d .rf))
     rotate_left
    all_goals (simp only [mkRet]; unfold ansE)
    · rw [if_neg (fun h => h3 (by have := (ho.1 h).2.2; omega))]
    · rw [if_pos (ho.2 ⟨h1, h2, by omega⟩)]
    · rw [if_neg (fun h => h2 (ho.1 h).2.1)]
    · rw [if_neg (fun h => h1 (ho.1 h).1)]
  by_cases hk3 : x.x.kind = 3
  · have ho := Ans.ok3 hk3
    focus
     refine zs <| yB rfl fun b1 => zc rfl <| zc rfl <| zfl rfl rfl rfl <| zd <| zq <| zb <| zs <| zy (.ceqF rfl rfl (by omega)) <| zd <| zu rfl ?_
     refine zs <| zy (.ceqT rfl rfl (by omega)) <| zd <| zt rfl <| zo <| zfw [_, _, _, _, _] rfl rfl rfl rfl <| yD rfl rfl (.of .rf) (mgside_fn _ _) <| zp rfl (fun h1 => ?_) (fun h1 => ?_)
     refine zf 7 rfl rfl <| yT rfl (by assumption) <| zy (.Lf rfl (Nat.le_of_ble_eq_true rfl)) <| yT rfl (by assumption) <| yD rfl rfl (.of .rf) (mgside_fn _ _) <| zy (.pickTp rfl (by assumption) rfl) <| zp rfl (fun h2 => ?_) (fun h2 => ?_)
     refine zf 12 rfl rfl <| yT rfl (by assumption) <| zl rfl rfl <| yT rfl (by assumption) <| zc rfl <| yT rfl (by assumption) <| zj rfl rfl rfl <| zy (.pickTp rfl (by assumption) rfl) <| zd <| zs <| zc rfl <| zd ?_
     refine zq <| zi rfl (fun h3 => ?_) (fun h3 => ?_)
     refine zs <| zc rfl <| zd <| zr <| yR (.t rfl .nil) ?_ (.of (.d .rf))
     rotate_left
     refine zk <| zs <| zc rfl <| zd <| zr <| yR (.t rfl .nil) ?_ (.of (.d .rf))
     rotate_left
     refine yTs rfl (by assumption) <| yTs rfl (by assumption) <| yTs rfl (by assumption) <| zy (.pickFp rfl (by assumption) rfl) <| zd <| zs <| zc rfl <| zd <| zq <| zt rfl <| zs <| zc rfl ?_
     refine zd <| zr <| yR (.t rfl .nil) ?_ (.of (.d .rf))
     rotate_left
     refine yTs rfl (by assumption) <| yTs rfl (by assumption) <| zy (.pickFp rfl (by assumption) rfl) <| zv rfl rfl <| zv rfl rfl <| zv rfl rfl <| zv rfl rfl <| zy (.pickF rfl rfl) <| zd <| zs <| zc rfl <| zd ?_
     refine zq <| zt rfl <| zs <| zc rfl <| zd <| zr <| yR (.t rfl .nil) ?_ (.of (.d .rf))
     rotate_left
    all_goals (simp only [mkRet]; unfold ansE)
    · rw [if_neg (fun h => h3 (by rw [(ho.1 h).2.2]; rfl))]
    · rw [if_pos (ho.2 ⟨h1, h2, List.length_eq_zero_iff.1 (by omega)⟩)]
    · rw [if_neg (fun h => h2 (ho.1 h).2.1)]
    · rw [if_neg (fun h => h1 (ho.1 h).1)]
  by_cases hk24 : x.x.kind = 2 ∨ x.x.kind = 4
  · have ho := Ans.ok24 hk24
    focus
     refine zs <| yB rfl fun b1 => zc rfl <| zc rfl <| zfl rfl rfl rfl <| zd <| zq <| zb <| zs <| zy (.ceqF rfl rfl (by omega)) <| zd <| zu rfl ?_
     refine zs <| zy (.ceqF rfl rfl (by omega)) <| zd <| zu rfl <| zs <| zj rfl rfl rfl <| zd <| zq <| zi rfl (fun h1 => ?_) (fun h1 => ?_)
     refine zk <| zi rfl (fun h2 => ?_) (fun h2 => ?_)
     refine zo <| zw rfl rfl <| zfl rfl rfl rfl <| zg rfl <| yD rfl rfl (.of .rf) (mgSameAnswer_z _ _) <| zd <| zs <| zc rfl <| zd <| zq <| zi rfl (fun h3 => ?_) (fun h3 => ?_)
     refine zs <| zc rfl <| zd <| zr <| yR (.t rfl .nil) ?_ (.of (.d .rf))
     rotate_left
     refine zk <| zs <| zc rfl <| zd <| zr <| yR (.t rfl .nil) ?_ (.of (.d .rf))
     rotate_left
     (exfalso; omega)
     refine zo <| zy (.ceqT rfl rfl (by omega)) <| zd <| zt rfl <| zo <| zw rfl rfl <| zfl rfl rfl rfl <| zg rfl <| yD rfl rfl (.of .rf) (mgSameAnswer_z _ _) <| zd <| zs <| zc rfl ?_
     refine zd <| zq <| zi rfl (fun h2 => ?_) (fun h2 => ?_)
     refine zs <| zc rfl <| zd <| zr <| yR (.t rfl .nil) ?_ (.of (.d .rf))
     rotate_left
     refine zk <| zs <| zc rfl <| zd <| zr <| yR (.t rfl .nil) ?_ (.of (.d .rf))
     rotate_left
    all_goals (simp only [mkRet]; unfold ansE)
    · rw [if_neg (fun h => h3 (ho.1 h))]
    · rw [if_pos (ho.2 h3)]
    · rw [if_neg (fun h => h2 (ho.1 h))]
    · rw [if_pos (ho.2 h2)]
  · have ho := Ans.okN hk1 (fun h => hk24 (.inl h)) hk3 (fun h => hk24 (.inr h))
    focus
     refine zs <| yB rfl fun b1 => zc rfl <| zc rfl <| zfl rfl rfl rfl <| zd <| zq <| zb <| zs <| zy (.ceqF rfl rfl (by omega)) <| zd <| zu rfl ?_
     refine zs <| zy (.ceqF rfl rfl (by omega)) <| zd <| zu rfl <| zs <| zy (.ceqF rfl rfl (by omega)) <| zd <| zq <| zu rfl <| zo <| zy (.ceqF rfl rfl (by omega)) <| zd ?_
     refine zu rfl <| zk <| zs <| zc rfl <| zd <| zq <| zt rfl <| zs <| zc rfl <| zd <| zr <| yR (.t rfl .nil) ?_ (.of (.d .rf))
    simp only [mkRet]; unfold ansE; rw [if_neg ho]
theorem mgCheck_fn (x : PktE) {F : List Assn} [H1 : HS F (.slice x.a x.p.ans.value.length x.c) UInt8 byteC 1 x.c x.p.ans.value] :
    Meets Try.prog 57 [pkv x] F (Det (i64 (pktE x.p)) F) := by
  refine Meets.intro b57 k57 (by simp) ?_
  focus
   refine zs <| yB rfl fun b1 => zc rfl <| zd <| zq <| zb <| zs <| zfl rfl rfl rfl <| zj rfl rfl rfl <| zn rfl (fun h1 => ?_) (fun h1 => ?_)
   refine zf 5 rfl rfl <| yF rfl (by assumption) <| zl rfl rfl <| yF rfl (by assumption) <| zj rfl rfl rfl <| zy (.pickFp rfl (by assumption) rfl) <| zd <| zi rfl (fun h2 => ?_) (fun h2 => ?_)
   refine zs <| zc rfl <| zd <| zr <| yR (.t rfl .nil) ?_ (.of (.d .rf))
   rotate_left
   refine zs <| zfl rfl rfl rfl <| zp rfl (fun h3 => ?_) (fun h3 => ?_)
   refine zf 6 rfl rfl <| yT rfl (by assumption) <| zy (.Lf rfl (Nat.le_of_ble_eq_true rfl)) <| yT rfl (by assumption) <| zg rfl <| yT rfl (by assumption) <| zy (.eqs rfl rfl (by repeat (first | exact EqC.nil | apply EqC.i | apply EqC.b | apply EqC.s))) ?_
   refine zy (.pickTp rfl (by assumption) rfl) <| zd <| zi rfl (fun h4 => ?_) (fun h4 => ?_)
   refine zs <| zfw [_, _, _, _, _, _, _, _, _, _, _, _, _] rfl rfl rfl rfl <| yD rfl rfl (.of .rf) (mgCheckAnswer_fn ⟨⟨_, _, ⟨_, ⟨_, _⟩, ⟨_, _⟩⟩, ⟨_, ⟨_, _⟩, ⟨_, _⟩⟩, _⟩, _, _⟩) <| zd <| zr <| yR (.t rfl .nil) ?_ (.of (.d .rf))
   rotate_left
   refine zs <| zfl rfl rfl rfl <| zc rfl <| yTs rfl (by assumption) <| yTs rfl (by assumption) <| yTs rfl (by assumption) <| yTs rfl (by assumption) <| zy (.pickFp rfl (by assumption) rfl) <| zd <| zu rfl <| zk <| zs ?_
   refine zc rfl <| zd <| zr <| yR (.t rfl .nil) ?_ (.of (.d .rf))
   rotate_left
   refine yTs rfl (by assumption) <| yTs rfl (by assumption) <| yTs rfl (by assumption) <| zy (.pickFp rfl (by assumption) rfl) <| zd <| zu rfl <| zs <| zfl rfl rfl rfl <| zc rfl <| yT rfl (by assumption) <| zf 21 rfl rfl <| yT rfl (by assumption) ?_
   refine zy (.Lf rfl (Nat.le_of_ble_eq_true rfl)) <| yT rfl (by assumption) <| zg rfl <| yT rfl (by assumption) <| yD rfl rfl (.of .rf) (mgSameAnswer_z ⟨_, _, _⟩ _) <| zy (.pickTp rfl (by assumption) rfl) <| zd <| zi rfl (fun h4 => ?_) (fun h4 => ?_)
   refine zs <| zfw [_, _, _, _, _, _, _, _, _, _, _, _, _, _, _] rfl rfl rfl rfl <| yD rfl rfl (.of .rf) (mgCheckAsk_fn _ _) <| zd <| zr <| yR (.t rfl .nil) ?_ (.of (.d .rf))
   rotate_left
   refine zk <| zs <| zc rfl <| zd <| zr <| yR (.t rfl .nil) ?_ (.of (.d .rf))
   rotate_left
   refine yFs rfl (by assumption) <| yFs rfl (by assumption) <| zy (.pickTp rfl (by assumption) rfl) <| zd <| zt rfl <| zs <| zc rfl <| zd <| zr <| yR (.t rfl .nil) ?_ (.of (.d .rf))
   rotate_left
  all_goals (simp only [mkRet]; unfold pktE)
  · rw [if_neg (fun h => by have := h.2.1; omega)]
  · show i64 (ansE x.p.ans) = _
    unfold ansE; congr 1
    have hz := (zAsk_cells x.p.ask).2 h4
    by_cases ho : x.p.ans.ok
    · rw [if_pos ho, if_pos ((Pkt.ok_rep h3).2 ⟨by omega, by omega, hz, ho⟩)]
    · rw [if_neg ho, if_neg (fun h => ho ((Pkt.ok_rep h3).1 h).2.2.2)]
  · rw [if_neg (fun h => by have := (zAsk_cells x.p.ask).1 ((Pkt.ok_rep h3).1 h).2.2.1; omega)]
  · congr 1; unfold askE
    by_cases ho : x.p.ask.ok
    · rw [if_pos ho, if_pos ((Pkt.ok_req h3).2 ⟨by omega, by omega, h4, ho⟩)]
    · rw [if_neg ho, if_neg (fun h => ho ((Pkt.ok_req h3).1 h).2.2.2)]
  · rw [if_neg (fun h => h4 ((Pkt.ok_req h3).1 h).2.2.1)]
  · rw [if_neg (fun h => by have := h.1; omega)]
instance : TE 5 UInt8 byteC 1 := ⟨byteC_one, by decide⟩
theorem slCloneB_fn {a : Option Addr} {c : Nat} {xs : List UInt8} {F : List Assn} [Hs : HS F (.slice a xs.length c) UInt8 byteC 1 c xs] : Meets Try.prog 88 [.slice a xs.length c] F
    (Some' (fun _ : Option Addr × Nat => True) (fun x => .slice x.1 xs.length x.2) (fun x => SlT true byteC 1 (.slice x.1 xs.length x.2) x.2 xs :: F)) := by
  refine Meets.intro b88 k88 (by simp) ?_
  refine J.sl Hs (fun hC hL' hN => ?_)
  focus
   refine zs <| zc rfl <| zc rfl <| zd <| zq <| zi rfl (fun h1 => ?_) (fun h1 => ?_)
   refine zs <| zc rfl <| zd <| zr <| seqQ_r ?_
   rotate_left
   refine zk <| zs <| JT.b0 fun a5 => ?_
   (refine JT.A3 rfl rfl rfl (by decide) (by simp; omega) (fun a2 c2 hc2 => ?_))
   refine zd <| zr <| yQ ⟨_, _⟩ (.t rfl .nil) trivial rfl (.of (.t0 .rf))
  · obtain rfl : xs = [] := hN (by simpa using h1)
    exact retQS (none, 0) (.t rfl .nil) trivial rfl (Up.nilS true (by decide) (Up.refl _))
theorem mgReply_no (x : PktE) (y : AnsE) {F : List Assn} [H1 : HS F (.slice x.a x.p.ans.value.length x.c) UInt8 byteC 1 x.c x.p.ans.value] [H2 : HS F (.slice y.a y.x.value.length y.c) UInt8 byteC 1 y.c y.x.value] (h : ¬ (x.p.ok ∧ x.p.reply = false ∧ y.x.ok)) :
    Meets Try.prog 62 [pkv x, anv y] F (Det (.tuple #[pkv (p0 zPkt), i64 40]) F) := by
  refine Meets.intro b62 k62 (by simp) ?_
  focus
   refine zs <| yB rfl fun b2 => yB rfl fun b3 => yN fun b4 => zc rfl <| zw rfl rfl <| yD rfl rfl (.of .rf) (mgCheck_fn _) <| zj rfl rfl rfl <| zn rfl (fun h1 => ?_) (fun h1 => ?_)
   refine zf 0 rfl rfl <| yF rfl (by assumption) <| zl rfl rfl <| zy (.pickFp rfl (by assumption) rfl) <| zn rfl (fun h2 => ?_) (fun h2 => ?_)
   refine zw rfl rfl <| yF rfl (by assumption) <| yD rfl rfl (.of .rf) (mgCheckAnswer_fn _) <| yF rfl (by assumption) <| zj rfl rfl rfl <| zy (.pickFp rfl (by assumption) rfl) <| zd <| zq <| zi rfl (fun h3 => ?_) (fun h3 => ?_)
   refine zs <| zg rfl <| yW rfl rfl rfl rfl rfl <| zc rfl <| zd <| zr <| yR (.w rfl rfl (.t rfl .nil)) rfl (.of (.d (.d (.d .rf))))
   refine zk <| zs <| zfl rfl rfl rfl <| yE rfl rfl (.of .rf) slCloneB_fn fun ⟨a21, c21⟩ _ => zf 12 rfl rfl <| yS (us := [_]) rfl rfl rfl rfl rfl (Nat.le_of_ble_eq_true rfl) (by simp only [lput]; rfl) <| zfw [_, _] rfl rfl rfl rfl <| zfw [_, _] rfl rfl rfl rfl <| zfl rfl rfl rfl <| zw rfl rfl <| zg rfl <| yW rfl rfl rfl rfl rfl ?_
   refine zc rfl <| zd <| zr <| yR (.w rfl rfl (.t rfl .nil)) ?_ (.of (.d (.d (.d (.d .rf)))))
   rotate_left
   refine yFs rfl (by assumption) <| yFs rfl (by assumption) <| zy (.pickTp rfl (by assumption) rfl) <| zd <| zq <| zt rfl <| zs <| zg rfl <| yW rfl rfl rfl rfl rfl <| zc rfl <| zd <| zr ?_
   refine yR (.w rfl rfl (.t rfl .nil)) rfl (.of (.d (.d (.d .rf))))
   refine yFs rfl (by assumption) <| zy (.pickTp rfl (by assumption) rfl) <| zv rfl rfl <| zv rfl rfl <| zv rfl rfl <| zy (.pickT rfl rfl) <| zd <| zq <| zt rfl <| zs <| zg rfl <| yW rfl rfl rfl rfl rfl ?_
   refine zc rfl <| zd <| zr <| yR (.w rfl rfl (.t rfl .nil)) rfl (.of (.d (.d (.d .rf))))
  all_goals first | exact absurd ⟨h1, h2, h3⟩ h | skip
theorem mgReply_ok (x : PktE) (y : AnsE) {F : List Assn} [H1 : HS F (.slice x.a x.p.ans.value.length x.c) UInt8 byteC 1 x.c x.p.ans.value] [H2 : HS F (.slice y.a y.x.value.length y.c) UInt8 byteC 1 y.c y.x.value] (h1 : x.p.ok) (h2 : x.p.reply = false) (h3 : y.x.ok) :
    Meets Try.prog 62 [pkv x, anv y] F (Some' (fun _ : Option Addr × Nat => True) (fun z => .tuple #[pkv ⟨mkRep x.p y.x, z.1, z.2⟩, i64 0]) (fun z => byO z.1 z.2 y.x.value :: F)) := by
  refine Meets.intro b62 k62 (by simp) ?_
  focus
   refine zs <| yB rfl fun b2 => yB rfl fun b3 => yN fun b4 => zc rfl <| zw rfl rfl <| yD rfl rfl (.of .rf) (mgCheck_fn _) <| zj rfl rfl rfl <| yF rfl (by assumption) <| zf 0 rfl rfl <| yF rfl (by assumption) <| zl rfl rfl ?_
   refine zy (.pickFp rfl (by assumption) rfl) <| yF rfl (by assumption) <| zw rfl rfl <| yF rfl (by assumption) <| yD rfl rfl (.of .rf) (mgCheckAnswer_fn _) <| yF rfl (by assumption) <| zj rfl rfl rfl <| zy (.pickFp rfl (by assumption) rfl) <| zd <| zq <| zi rfl (fun h4 => ?_) (fun h4 => ?_)
   contradiction
   refine zk <| zs <| zfl rfl rfl rfl <| yE rfl rfl (.of .rf) slCloneB_fn fun ⟨a21, c21⟩ _ => zf 12 rfl rfl <| yS (us := [_]) rfl rfl rfl rfl rfl (Nat.le_of_ble_eq_true rfl) (by simp only [lput]; rfl) <| zfw [_, _] rfl rfl rfl rfl <| zfw [_, _] rfl rfl rfl rfl <| zfl rfl rfl rfl <| zw rfl rfl <| zg rfl <| yW rfl rfl rfl rfl rfl ?_
   refine zc rfl <| zd <| zr <| yQ ⟨_, _⟩ (.w rfl rfl (.t rfl .nil)) trivial rfl (.frz (.there (.there .here)) (.of (.t0 (.d (.d (.d .rf))))))
end Go.Proofs.Ytienlpaehgdpaaa
