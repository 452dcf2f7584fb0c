/- Layer 4, the reference: asks, answers and packets that may be. Conditions: none. -/
import Derived.Test.YtienlpaehgdpaaaTh
import Derived.Test.YtienlpaehgdpaaaVc
set_option linter.unusedSimpArgs false
set_option linter.unusedVariables false
set_option maxRecDepth 100000
set_option maxHeartbeats 2000000
namespace Go.SL
open Go
instance {a : SL.Ref} : BP (decide (refOk a)) (refOk a) (¬ refOk a) := .mk' (by simp) .rfl
end Go.SL
namespace Go.Proofs.Ytienlpaehgdpaaa
open Go Go.SL
attribute [local irreducible] pc rc SlT Me Mt It pt ro pur ex sep old Meets
theorem r3IsKey_fn (k : SL.Key) (F : List Assn) : Meets Try.prog 139 [kv k] F (Det (.bool (decide (keyOk k))) F) := by
  refine Meets.intro b139 k139 (by simp) ?_
  focus
   refine zs <| yB rfl fun b1 => zc rfl <| zfl rfl rfl rfl <| zj rfl rfl rfl <| zn rfl (fun h1 => ?_) (fun h1 => ?_)
   refine zf 1 rfl rfl <| yF rfl (by assumption) <| zl rfl rfl <| yF rfl (by assumption) <| zj rfl rfl rfl <| yF rfl (by assumption) <| zc rfl <| zp rfl (fun h2 => ?_) (fun h2 => ?_)
   refine zf 0 rfl rfl <| yT rfl (by assumption) <| zl rfl rfl <| yT rfl (by assumption) <| zj rfl rfl rfl <| yT rfl (by assumption) <| zc rfl <| zn rfl (fun h3 => ?_) (fun h3 => ?_)
   refine zf 0 rfl rfl <| yF rfl (by assumption) <| zl rfl rfl <| yF rfl (by assumption) <| zj rfl rfl rfl <| yT rfl (by assumption) <| zy (.pickFp rfl (by assumption) rfl) <| yF rfl (by assumption) <| zy (.pickTp rfl (by assumption) rfl) <| zy (.pickFp rfl (by assumption) rfl) <| zd <| zr ?_
   refine yR (.t rfl .nil) ?_ (.of (.d .rf))
   rotate_left
   refine yFs rfl (by assumption) <| yFs rfl (by assumption) <| yT rfl (by assumption) <| zy (.pickTp rfl (by assumption) rfl) <| yF rfl (by assumption) <| zy (.pickTp rfl (by assumption) rfl) <| zy (.pickFp rfl (by assumption) rfl) <| zd <| zr <| yR (.t rfl .nil) ?_ (.of (.d .rf))
   rotate_left
   refine yTs rfl (by assumption) <| yTs rfl (by assumption) <| yTs rfl (by assumption) <| JT.skipU rfl <| JT.skipU rfl <| JT.skipU rfl <| yTs rfl (by assumption) <| yF rfl (by assumption) <| zy (.pickFp rfl (by assumption) rfl) <| zy (.pickFp rfl (by assumption) rfl) <| zd <| zr ?_
   refine yR (.t rfl .nil) ?_ (.of (.d .rf))
   rotate_left
   refine yFs rfl (by assumption) <| yFs rfl (by assumption) <| yFs rfl (by assumption) <| JT.skipU rfl <| JT.skipU rfl <| JT.skipU rfl <| JT.skipU rfl <| JT.skipU rfl <| JT.skipU rfl <| JT.skipU rfl <| JT.skipU rfl <| yFs rfl (by assumption) ?_
   refine zy (.pickTp rfl (by assumption) rfl) <| zd <| zr <| yR (.t rfl .nil) ?_ (.of (.d .rf))
   rotate_left
  all_goals (simp only [mkRet]; congr 1; first | rw [decide_eq_true (show keyOk k by unfold keyOk; omega)] | rw [decide_eq_false (show ¬ keyOk k by unfold keyOk; omega)] | (rw [Bool.eq_iff_iff]; simp only [decide_eq_true_eq]; unfold keyOk; omega))
theorem r4isRef_fn (r : SL.Ref) (F : List Assn) : Meets Try.prog 119 [rv r] F (Det (.bool (decide (refOk r))) F) := by
  refine Meets.intro b119 k119 (by simp) ?_
  by_cases h1 : keyOk r.key
  · focus
     refine zs <| yB rfl fun b1 => zc rfl <| zfw [_, _] rfl rfl rfl rfl <| yD rfl rfl (.of .rf) (r3IsKey_fn _ _) <| yT rfl (by assumption) <| zf 3 rfl rfl <| yT rfl (by assumption) <| zy (.Lf rfl (Nat.le_of_ble_eq_true rfl)) <| yT rfl (by assumption) <| yD rfl rfl (.of .rf) (r1Right_fn _ _) <| zy (.pickTp rfl (by assumption) rfl) ?_
     refine zd <| zr <| yR (.t rfl .nil) ?_ (.of (.d .rf))
    simp only [mkRet]; congr 1; unfold refOk; rw [Bool.eq_iff_iff]; simp [h1]
  · focus
     refine zs <| yB rfl fun b1 => zc rfl <| zfw [_, _] rfl rfl rfl rfl <| yD rfl rfl (.of .rf) (r3IsKey_fn _ _) <| yTs rfl (by assumption) <| yTs rfl (by assumption) <| yTs rfl (by assumption) <| zy (.pickFp rfl (by assumption) rfl) <| zd <| zr <| yR (.t rfl .nil) ?_ (.of (.d .rf))
    simp only [mkRet]; congr 1; unfold refOk; rw [Bool.eq_iff_iff]; simp [h1]
theorem r4side_fn (r : SL.Ref) (F : List Assn) : Meets Try.prog 127 [rv r] F (Det (.bool (decide (sideOk r))) F) := by
  refine Meets.intro b127 k127 (by simp) ?_
  by_cases h : r = zR
  · focus
     refine zs <| yB rfl fun b1 => zc rfl <| zw rfl rfl <| zg rfl ?_
     refine zy (.eqTt rfl rfl (by assumption)) <| zv rfl rfl <| zv rfl rfl <| zy (.pickT rfl rfl) <| zd <| zr <| yR (.t rfl .nil) ?_ (.of (.d .rf))
    simp only [mkRet]; rw [decide_eq_true (show sideOk r from .inl h)]
  · focus
     refine zs <| yB rfl fun b1 => zc rfl <| zw rfl rfl <| zg rfl ?_
     refine zy (.eqTf rfl rfl (by assumption)) <| yG rfl <| zw rfl rfl <| yG rfl <| yD rfl rfl (.of .rf) (r4isRef_fn _ _) <| zy (.pickF rfl rfl) <| zd <| zr <| yR (.t rfl .nil) ?_ (.of (.d .rf))
    simp only [mkRet]; congr 1; unfold sideOk; rw [Bool.eq_iff_iff]; simp [h]
theorem r4has_fn (k : Int) (F : List Assn) : Meets Try.prog 117 [i64 k] F (Det (.tuple #[.bool (decide (Ask.hasW k)), .bool (decide (Ask.hasR k)), .bool (decide (k = 7)), .bool (decide (Ask.hasO k))]) F) := by
  refine Meets.intro b117 k117 (by simp) ?_
  by_cases h1 : k = 1
  · focus
     refine zs <| zc rfl <| zc rfl <| zc rfl <| zc rfl <| zy (.ceqF rfl rfl (by omega)) <| yG rfl <| zy (.ceqF rfl rfl (by omega)) <| zy (.pickF rfl rfl) <| yG rfl <| zy (.ceqF rfl rfl (by omega)) <| zy (.pickF rfl rfl) ?_
     refine zy (.ceqF rfl rfl (by omega)) <| yG rfl <| zy (.ceqF rfl rfl (by omega)) <| zy (.pickF rfl rfl) <| yG rfl <| zy (.ceqF rfl rfl (by omega)) <| zy (.pickF rfl rfl) <| yG rfl <| zy (.ceqF rfl rfl (by omega)) <| zy (.pickF rfl rfl) <| yG rfl <| zy (.ceqF rfl rfl (by omega)) ?_
     refine zy (.pickF rfl rfl) <| zy (.ceqT rfl rfl (by omega)) <| zv rfl rfl <| zy (.pickT rfl rfl) <| zv rfl rfl <| zy (.pickT rfl rfl) <| zy (.ceqF rfl rfl (by omega)) <| zc rfl <| zc rfl <| zc rfl <| zc rfl <| zd ?_
     refine zr <| yR (.t rfl (.t rfl (.t rfl (.t rfl .nil)))) ?_ (.of .rf)
    simp_all [mkRet, Ask.hasW, Ask.hasR, Ask.hasO]
  by_cases h3 : k = 3
  · focus
     refine zs <| zc rfl <| zc rfl <| zc rfl <| zc rfl <| zy (.ceqF rfl rfl (by omega)) <| yG rfl <| zy (.ceqF rfl rfl (by omega)) <| zy (.pickF rfl rfl) <| yG rfl <| zy (.ceqF rfl rfl (by omega)) <| zy (.pickF rfl rfl) ?_
     refine zy (.ceqT rfl rfl (by omega)) <| zv rfl rfl <| zy (.pickT rfl rfl) <| zv rfl rfl <| zy (.pickT rfl rfl) <| zv rfl rfl <| zy (.pickT rfl rfl) <| zv rfl rfl <| zy (.pickT rfl rfl) <| zy (.ceqF rfl rfl (by omega)) <| yG rfl <| zc rfl ?_
     refine zy (.pickF rfl rfl) <| yG rfl <| zc rfl <| zy (.pickF rfl rfl) <| zy (.ceqF rfl rfl (by omega)) <| zc rfl <| zc rfl <| zc rfl <| zc rfl <| zd <| zr <| yR (.t rfl (.t rfl (.t rfl (.t rfl .nil)))) ?_ (.of .rf)
    simp_all [mkRet, Ask.hasW, Ask.hasR, Ask.hasO]
  by_cases h4 : k = 4
  · focus
     refine zs <| zc rfl <| zc rfl <| zc rfl <| zc rfl <| zy (.ceqF rfl rfl (by omega)) <| yG rfl <| zy (.ceqF rfl rfl (by omega)) <| zy (.pickF rfl rfl) <| yG rfl <| zy (.ceqF rfl rfl (by omega)) <| zy (.pickF rfl rfl) ?_
     refine zy (.ceqF rfl rfl (by omega)) <| yG rfl <| zy (.ceqT rfl rfl (by omega)) <| zy (.pickF rfl rfl) <| zv rfl rfl <| zy (.pickT rfl rfl) <| zv rfl rfl <| zy (.pickT rfl rfl) <| zv rfl rfl <| zy (.pickT rfl rfl) <| zy (.ceqF rfl rfl (by omega)) <| yG rfl ?_
     refine zc rfl <| zy (.pickF rfl rfl) <| yG rfl <| zc rfl <| zy (.pickF rfl rfl) <| zy (.ceqF rfl rfl (by omega)) <| zc rfl <| zc rfl <| zc rfl <| zc rfl <| zd <| zr ?_
     refine yR (.t rfl (.t rfl (.t rfl (.t rfl .nil)))) ?_ (.of .rf)
    simp_all [mkRet, Ask.hasW, Ask.hasR, Ask.hasO]
  by_cases h5 : k = 5
  · focus
     refine zs <| zc rfl <| zc rfl <| zc rfl <| zc rfl <| zy (.ceqT rfl rfl (by omega)) <| zv rfl rfl <| zy (.pickT rfl rfl) <| zv rfl rfl <| zy (.pickT rfl rfl) <| zy (.ceqF rfl rfl (by omega)) <| yG rfl ?_
     refine zy (.ceqF rfl rfl (by omega)) <| zy (.pickF rfl rfl) <| yG rfl <| zy (.ceqF rfl rfl (by omega)) <| zy (.pickF rfl rfl) <| yG rfl <| zy (.ceqT rfl rfl (by omega)) <| zy (.pickF rfl rfl) <| zv rfl rfl <| zy (.pickT rfl rfl) <| zy (.ceqF rfl rfl (by omega)) <| yG rfl ?_
     refine zc rfl <| zy (.pickF rfl rfl) <| zv rfl rfl <| zy (.pickT rfl rfl) <| zy (.ceqF rfl rfl (by omega)) <| zc rfl <| zc rfl <| zc rfl <| zc rfl <| zd <| zr <| yR (.t rfl (.t rfl (.t rfl (.t rfl .nil)))) ?_ (.of .rf)
    simp_all [mkRet, Ask.hasW, Ask.hasR, Ask.hasO]
  by_cases h6 : k = 6
  · focus
     refine zs <| zc rfl <| zc rfl <| zc rfl <| zc rfl <| zy (.ceqF rfl rfl (by omega)) <| yG rfl <| zy (.ceqT rfl rfl (by omega)) <| zy (.pickF rfl rfl) <| zv rfl rfl <| zy (.pickT rfl rfl) <| zy (.ceqF rfl rfl (by omega)) ?_
     refine yG rfl <| zy (.ceqF rfl rfl (by omega)) <| zy (.pickF rfl rfl) <| yG rfl <| zy (.ceqF rfl rfl (by omega)) <| zy (.pickF rfl rfl) <| yG rfl <| zy (.ceqF rfl rfl (by omega)) <| zy (.pickF rfl rfl) <| yG rfl <| zy (.ceqF rfl rfl (by omega)) <| zy (.pickF rfl rfl) ?_
     refine zy (.ceqF rfl rfl (by omega)) <| yG rfl <| zc rfl <| zy (.pickF rfl rfl) <| zv rfl rfl <| zy (.pickT rfl rfl) <| zy (.ceqF rfl rfl (by omega)) <| zc rfl <| zc rfl <| zc rfl <| zc rfl <| zd ?_
     refine zr <| yR (.t rfl (.t rfl (.t rfl (.t rfl .nil)))) ?_ (.of .rf)
    simp_all [mkRet, Ask.hasW, Ask.hasR, Ask.hasO]
  by_cases h7 : k = 7
  · focus
     refine zs <| zc rfl <| zc rfl <| zc rfl <| zc rfl <| zy (.ceqF rfl rfl (by omega)) <| yG rfl <| zy (.ceqF rfl rfl (by omega)) <| zy (.pickF rfl rfl) <| yG rfl <| zy (.ceqT rfl rfl (by omega)) <| zy (.pickF rfl rfl) ?_
     refine zy (.ceqF rfl rfl (by omega)) <| yG rfl <| zy (.ceqF rfl rfl (by omega)) <| zy (.pickF rfl rfl) <| yG rfl <| zy (.ceqF rfl rfl (by omega)) <| zy (.pickF rfl rfl) <| yG rfl <| zy (.ceqF rfl rfl (by omega)) <| zy (.pickF rfl rfl) <| yG rfl <| zy (.ceqT rfl rfl (by omega)) ?_
     refine zy (.pickF rfl rfl) <| zy (.ceqF rfl rfl (by omega)) <| yG rfl <| zc rfl <| zy (.pickF rfl rfl) <| zv rfl rfl <| zy (.pickT rfl rfl) <| zy (.ceqT rfl rfl (by omega)) <| zc rfl <| zc rfl <| zc rfl <| zc rfl ?_
     refine zd <| zr <| yR (.t rfl (.t rfl (.t rfl (.t rfl .nil)))) ?_ (.of .rf)
    simp_all [mkRet, Ask.hasW, Ask.hasR, Ask.hasO]
  by_cases h8 : k = 8
  · focus
     refine zs <| zc rfl <| zc rfl <| zc rfl <| zc rfl <| zy (.ceqF rfl rfl (by omega)) <| yG rfl <| zy (.ceqF rfl rfl (by omega)) <| zy (.pickF rfl rfl) <| yG rfl <| zy (.ceqF rfl rfl (by omega)) <| zy (.pickF rfl rfl) ?_
     refine zy (.ceqF rfl rfl (by omega)) <| yG rfl <| zy (.ceqF rfl rfl (by omega)) <| zy (.pickF rfl rfl) <| yG rfl <| zy (.ceqT rfl rfl (by omega)) <| zy (.pickF rfl rfl) <| zv rfl rfl <| zy (.pickT rfl rfl) <| zv rfl rfl <| zy (.pickT rfl rfl) <| zy (.ceqF rfl rfl (by omega)) ?_
     refine yG rfl <| zc rfl <| zy (.pickF rfl rfl) <| yG rfl <| zc rfl <| zy (.pickF rfl rfl) <| zy (.ceqF rfl rfl (by omega)) <| zc rfl <| zc rfl <| zc rfl <| zc rfl <| zd ?_
     refine zr <| yR (.t rfl (.t rfl (.t rfl (.t rfl .nil)))) ?_ (.of .rf)
    simp_all [mkRet, Ask.hasW, Ask.hasR, Ask.hasO]
  · focus
     refine zs <| zc rfl <| zc rfl <| zc rfl <| zc rfl <| zy (.ceqF rfl rfl (by omega)) <| yG rfl <| zy (.ceqF rfl rfl (by omega)) <| zy (.pickF rfl rfl) <| yG rfl <| zy (.ceqF rfl rfl (by omega)) <| zy (.pickF rfl rfl) ?_
     refine zy (.ceqF rfl rfl (by omega)) <| yG rfl <| zy (.ceqF rfl rfl (by omega)) <| zy (.pickF rfl rfl) <| yG rfl <| zy (.ceqF rfl rfl (by omega)) <| zy (.pickF rfl rfl) <| yG rfl <| zy (.ceqF rfl rfl (by omega)) <| zy (.pickF rfl rfl) <| yG rfl <| zy (.ceqF rfl rfl (by omega)) ?_
     refine zy (.pickF rfl rfl) <| zy (.ceqF rfl rfl (by omega)) <| yG rfl <| zc rfl <| zy (.pickF rfl rfl) <| yG rfl <| zc rfl <| zy (.pickF rfl rfl) <| zy (.ceqF rfl rfl (by omega)) <| zc rfl <| zc rfl <| zc rfl ?_
     refine zc rfl <| zd <| zr <| yR (.t rfl (.t rfl (.t rfl (.t rfl .nil)))) ?_ (.of .rf)
    simp_all [mkRet, Ask.hasW, Ask.hasR, Ask.hasO]
theorem r4only_fn (a : SL.Ask) (F : List Assn) : Meets Try.prog 118 [askv a] F (Det (askv a.only) F) := by
  refine Meets.intro b118 k118 (by simp) ?_
  have hk : a.kind = 1 ∨ a.kind = 3 ∨ a.kind = 4 ∨ a.kind = 5 ∨ a.kind = 6 ∨ a.kind = 7 ∨ a.kind = 8 ∨ ¬ (a.kind = 1 ∨ a.kind = 3 ∨ a.kind = 4 ∨ a.kind = 5 ∨ a.kind = 6 ∨ a.kind = 7 ∨ a.kind = 8) := by omega
  rcases hk with h1 | h1 | h1 | h1 | h1 | h1 | h1 | h1
  focus
   refine zs <| yB rfl fun b1 => yN fun b2 => zfl rfl rfl rfl <| zg rfl <| yN fun b3 => yW rfl rfl rfl rfl rfl <| zfl rfl rfl rfl <| zd <| zq <| zb <| zs ?_
   refine zy (.ceqT rfl rfl (by omega)) <| zd <| zt rfl <| zo <| zfw [_, _] rfl rfl rfl rfl <| zf 1 rfl rfl <| yS (us := [_, _]) rfl rfl rfl rfl rfl (Nat.le_of_ble_eq_true rfl) (by simp only [lput]; rfl) <| zd <| zs <| zw rfl rfl <| yW rfl rfl rfl rfl rfl <| zd ?_
   refine zr <| yR (.w rfl rfl .nil) ?_ (.of (.d (.d (.d .rf))))
   rotate_left
  rotate_left 1
  focus
   refine zs <| yB rfl fun b1 => yN fun b2 => zfl rfl rfl rfl <| zg rfl <| yN fun b3 => yW rfl rfl rfl rfl rfl <| zfl rfl rfl rfl <| zd <| zq <| zb <| zs ?_
   refine zy (.ceqF rfl rfl (by omega)) <| zd <| zu rfl <| zs <| zy (.ceqT rfl rfl (by omega)) <| zd <| zq <| zt rfl <| zk <| zt rfl <| zo <| zfw [_, _] rfl rfl rfl rfl ?_
   refine zf 13 rfl rfl <| zy (.Lf rfl (Nat.le_of_ble_eq_true rfl)) <| zf 1 rfl rfl <| yS (us := [_, _]) rfl rfl rfl rfl rfl (Nat.le_of_ble_eq_true rfl) (by simp only [lput]; rfl) <| JT.yA rfl (Ev.Lf rfl (Nat.le_of_ble_eq_true rfl)) <| zf 13 rfl rfl <| yS (us := [_, _]) rfl rfl rfl rfl rfl (Nat.le_of_ble_eq_true rfl) (by simp only [lput]; rfl) <| zd <| zs <| zw rfl rfl <| yW rfl rfl rfl rfl rfl <| zd ?_
   refine zr <| yR (.w rfl rfl .nil) ?_ (.of (.d (.d (.d .rf))))
   rotate_left
  rotate_left 1
  focus
   refine zs <| yB rfl fun b1 => yN fun b2 => zfl rfl rfl rfl <| zg rfl <| yN fun b3 => yW rfl rfl rfl rfl rfl <| zfl rfl rfl rfl <| zd <| zq <| zb <| zs ?_
   refine zy (.ceqF rfl rfl (by omega)) <| zd <| zu rfl <| zs <| zy (.ceqF rfl rfl (by omega)) <| zd <| zq <| zu rfl <| zs <| zy (.ceqT rfl rfl (by omega)) <| zd <| zt rfl ?_
   refine zk <| zt rfl <| zo <| zfw [_, _] rfl rfl rfl rfl <| zf 13 rfl rfl <| zy (.Lf rfl (Nat.le_of_ble_eq_true rfl)) <| zf 1 rfl rfl <| yS (us := [_, _]) rfl rfl rfl rfl rfl (Nat.le_of_ble_eq_true rfl) (by simp only [lput]; rfl) <| JT.yA rfl (Ev.Lf rfl (Nat.le_of_ble_eq_true rfl)) <| zf 13 rfl rfl <| yS (us := [_, _]) rfl rfl rfl rfl rfl (Nat.le_of_ble_eq_true rfl) (by simp only [lput]; rfl) <| zd ?_
   refine zs <| zw rfl rfl <| yW rfl rfl rfl rfl rfl <| zd <| zr <| yR (.w rfl rfl .nil) ?_ (.of (.d (.d (.d .rf))))
   rotate_left
  rotate_left 1
  focus
   refine zs <| yB rfl fun b1 => yN fun b2 => zfl rfl rfl rfl <| zg rfl <| yN fun b3 => yW rfl rfl rfl rfl rfl <| zfl rfl rfl rfl <| zd <| zq <| zb <| zs ?_
   refine zy (.ceqF rfl rfl (by omega)) <| zd <| zu rfl <| zs <| zy (.ceqF rfl rfl (by omega)) <| zd <| zq <| zu rfl <| zs <| zy (.ceqF rfl rfl (by omega)) <| zd <| zu rfl ?_
   refine zo <| zy (.ceqF rfl rfl (by omega)) <| zd <| zu rfl <| zs <| zy (.ceqT rfl rfl (by omega)) <| zd <| zt rfl <| zo <| zfw [_, _] rfl rfl rfl rfl <| zf 3 rfl rfl <| zy (.Lf rfl (Nat.le_of_ble_eq_true rfl)) ?_
   refine zf 13 rfl rfl <| zy (.Lf rfl (Nat.le_of_ble_eq_true rfl)) <| zf 1 rfl rfl <| yS (us := [_, _]) rfl rfl rfl rfl rfl (Nat.le_of_ble_eq_true rfl) (by simp only [lput]; rfl) <| JT.yA rfl (Ev.Lf rfl (Nat.le_of_ble_eq_true rfl)) <| JT.yA rfl (Ev.Lf rfl (Nat.le_of_ble_eq_true rfl)) <| zf 3 rfl rfl <| yS (us := [_, _, _, _, _]) rfl rfl rfl rfl rfl (Nat.le_of_ble_eq_true rfl) (by simp only [lput]; rfl) <| JT.yA rfl (Ev.Lf rfl (Nat.le_of_ble_eq_true rfl)) <| zf 13 rfl rfl <| yS (us := [_, _]) rfl rfl rfl rfl rfl (Nat.le_of_ble_eq_true rfl) (by simp only [lput]; rfl) <| zd ?_
   refine zs <| zw rfl rfl <| yW rfl rfl rfl rfl rfl <| zd <| zr <| yR (.w rfl rfl .nil) ?_ (.of (.d (.d (.d .rf))))
   rotate_left
  rotate_left 1
  focus
   refine zs <| yB rfl fun b1 => yN fun b2 => zfl rfl rfl rfl <| zg rfl <| yN fun b3 => yW rfl rfl rfl rfl rfl <| zfl rfl rfl rfl <| zd <| zq <| zb <| zs ?_
   refine zy (.ceqF rfl rfl (by omega)) <| zd <| zu rfl <| zs <| zy (.ceqF rfl rfl (by omega)) <| zd <| zq <| zu rfl <| zs <| zy (.ceqF rfl rfl (by omega)) <| zd <| zu rfl ?_
   refine zo <| zy (.ceqF rfl rfl (by omega)) <| zd <| zu rfl <| zs <| zy (.ceqF rfl rfl (by omega)) <| zd <| zu rfl <| zs <| zy (.ceqT rfl rfl (by omega)) <| zd <| zt rfl ?_
   refine zo <| zfw [_, _] rfl rfl rfl rfl <| zf 3 rfl rfl <| zy (.Lf rfl (Nat.le_of_ble_eq_true rfl)) <| zf 1 rfl rfl <| yS (us := [_, _]) rfl rfl rfl rfl rfl (Nat.le_of_ble_eq_true rfl) (by simp only [lput]; rfl) <| JT.yA rfl (Ev.Lf rfl (Nat.le_of_ble_eq_true rfl)) <| zf 3 rfl rfl <| yS (us := [_, _, _, _, _]) rfl rfl rfl rfl rfl (Nat.le_of_ble_eq_true rfl) (by simp only [lput]; rfl) <| zd <| zs <| zw rfl rfl ?_
   refine yW rfl rfl rfl rfl rfl <| zd <| zr <| yR (.w rfl rfl .nil) ?_ (.of (.d (.d (.d .rf))))
   rotate_left
  rotate_left 1
  focus
   refine zs <| yB rfl fun b1 => yN fun b2 => zfl rfl rfl rfl <| zg rfl <| yN fun b3 => yW rfl rfl rfl rfl rfl <| zfl rfl rfl rfl <| zd <| zq <| zb <| zs ?_
   refine zy (.ceqF rfl rfl (by omega)) <| zd <| zu rfl <| zs <| zy (.ceqF rfl rfl (by omega)) <| zd <| zq <| zu rfl <| zs <| zy (.ceqF rfl rfl (by omega)) <| zd <| zu rfl ?_
   refine zo <| zy (.ceqF rfl rfl (by omega)) <| zd <| zu rfl <| zs <| zy (.ceqF rfl rfl (by omega)) <| zd <| zu rfl <| zs <| zy (.ceqF rfl rfl (by omega)) <| zd <| zu rfl ?_
   refine zs <| zy (.ceqT rfl rfl (by omega)) <| zd <| zt rfl <| zo <| zfw [_, _] rfl rfl rfl rfl <| zf 3 rfl rfl <| zy (.Lf rfl (Nat.le_of_ble_eq_true rfl)) <| zf 8 rfl rfl <| zy (.Lf rfl (Nat.le_of_ble_eq_true rfl)) <| zf 13 rfl rfl <| zy (.Lf rfl (Nat.le_of_ble_eq_true rfl)) ?_
   refine zf 1 rfl rfl <| yS (us := [_, _]) rfl rfl rfl rfl rfl (Nat.le_of_ble_eq_true rfl) (by simp only [lput]; rfl) <| JT.yA rfl (Ev.Lf rfl (Nat.le_of_ble_eq_true rfl)) <| JT.yA rfl (Ev.Lf rfl (Nat.le_of_ble_eq_true rfl)) <| JT.yA rfl (Ev.Lf rfl (Nat.le_of_ble_eq_true rfl)) <| zf 3 rfl rfl <| yS (us := [_, _, _, _, _]) rfl rfl rfl rfl rfl (Nat.le_of_ble_eq_true rfl) (by simp only [lput]; rfl) <| JT.yA rfl (Ev.Lf rfl (Nat.le_of_ble_eq_true rfl)) <| JT.yA rfl (Ev.Lf rfl (Nat.le_of_ble_eq_true rfl)) <| zf 8 rfl rfl <| yS (us := [_, _, _, _, _]) rfl rfl rfl rfl rfl (Nat.le_of_ble_eq_true rfl) (by simp only [lput]; rfl) <| JT.yA rfl (Ev.Lf rfl (Nat.le_of_ble_eq_true rfl)) ?_
   refine zf 13 rfl rfl <| yS (us := [_, _]) rfl rfl rfl rfl rfl (Nat.le_of_ble_eq_true rfl) (by simp only [lput]; rfl) <| zd <| zs <| zw rfl rfl <| yW rfl rfl rfl rfl rfl <| zd <| zr <| yR (.w rfl rfl .nil) ?_ (.of (.d (.d (.d .rf))))
   rotate_left
  rotate_left 1
  focus
   refine zs <| yB rfl fun b1 => yN fun b2 => zfl rfl rfl rfl <| zg rfl <| yN fun b3 => yW rfl rfl rfl rfl rfl <| zfl rfl rfl rfl <| zd <| zq <| zb <| zs ?_
   refine zy (.ceqF rfl rfl (by omega)) <| zd <| zu rfl <| zs <| zy (.ceqF rfl rfl (by omega)) <| zd <| zq <| zu rfl <| zs <| zy (.ceqF rfl rfl (by omega)) <| zd <| zu rfl ?_
   refine zo <| zy (.ceqT rfl rfl (by omega)) <| zd <| zt rfl <| zo <| zfw [_, _] rfl rfl rfl rfl <| zf 13 rfl rfl <| zy (.Lf rfl (Nat.le_of_ble_eq_true rfl)) <| zf 1 rfl rfl <| yS (us := [_, _]) rfl rfl rfl rfl rfl (Nat.le_of_ble_eq_true rfl) (by simp only [lput]; rfl) <| JT.yA rfl (Ev.Lf rfl (Nat.le_of_ble_eq_true rfl)) <| zf 13 rfl rfl ?_
   refine yS (us := [_, _]) rfl rfl rfl rfl rfl (Nat.le_of_ble_eq_true rfl) (by simp only [lput]; rfl) <| zd <| zs <| zw rfl rfl <| yW rfl rfl rfl rfl rfl <| zd <| zr <| yR (.w rfl rfl .nil) ?_ (.of (.d (.d (.d .rf))))
   rotate_left
  rotate_left 1
  focus
   refine zs <| yB rfl fun b1 => yN fun b2 => zfl rfl rfl rfl <| zg rfl <| yN fun b3 => yW rfl rfl rfl rfl rfl <| zfl rfl rfl rfl <| zd <| zq <| zb <| zs ?_
   refine zy (.ceqF rfl rfl (by omega)) <| zd <| zu rfl <| zs <| zy (.ceqF rfl rfl (by omega)) <| zd <| zq <| zu rfl <| zs <| zy (.ceqF rfl rfl (by omega)) <| zd <| zu rfl ?_
   refine zo <| zy (.ceqF rfl rfl (by omega)) <| zd <| zu rfl <| zs <| zy (.ceqF rfl rfl (by omega)) <| zd <| zu rfl <| zs <| zy (.ceqF rfl rfl (by omega)) <| zd <| zu rfl ?_
   refine zs <| zy (.ceqF rfl rfl (by omega)) <| zd <| zu rfl <| zs <| zw rfl rfl <| yW rfl rfl rfl rfl rfl <| zd <| zr <| yR (.w rfl rfl .nil) ?_ (.of (.d (.d (.d .rf))))
   rotate_left
  rotate_left 1
  all_goals (simp only [mkRet]; unfold Ask.only; first | (unfold Ask.hasW Ask.hasR Ask.hasO; simp only [h1]; rfl) | (rw [if_neg (show ¬ Ask.hasW a.kind from h1), if_neg (show ¬ Ask.hasR a.kind from by unfold Ask.hasR; omega), if_neg (show ¬ (a.kind = 7) by omega), if_neg (show ¬ Ask.hasO a.kind from by unfold Ask.hasO; omega)]; rfl))
theorem r4CheckAsk_fn (a : SL.Ask) (F : List Assn) : Meets Try.prog 81 [askv a] F (Det (i64 (askE a)) F) := by
  refine Meets.intro b81 k81 (by simp) ?_
  by_cases hk : 1 ≤ a.kind ∧ a.kind ≤ 10
  · by_cases ho : a = a.only
    · by_cases hw : Ask.hasW a.kind
      · by_cases hr : Ask.hasR a.kind
        · by_cases h7 : a.kind = 7
          · focus
             refine zs <| yB rfl fun b1 => zc rfl <| zfl rfl rfl rfl <| yD rfl rfl (.of .rf) (r4has_fn _ _) <| zc rfl <| zc rfl <| zc rfl <| zc rfl <| zfl rfl rfl rfl <| zy (.cltF rfl rfl (by omega)) <| yG rfl ?_
             refine zf 0 rfl rfl <| yG rfl <| zl rfl rfl <| yG rfl <| zy (.cgtF rfl rfl (by omega)) <| zy (.pickF rfl rfl) <| yG rfl <| zw rfl rfl <| yG rfl <| zw rfl rfl <| yG rfl <| yD rfl rfl (.of .rf) (r4only_fn _ _) ?_
             refine JT.yB rfl rfl (Ev.Lw rfl rfl) <| yG rfl ?_
             refine zy (.neTf rfl rfl (by assumption)) <| zy (.pickF rfl rfl) <| yG rfl <| zc rfl <| yT rfl (by assumption) <| zf 1 rfl rfl <| yT rfl (by assumption) <| zy (.Lf rfl (Nat.le_of_ble_eq_true rfl)) <| yT rfl (by assumption) <| yD rfl rfl (.of .rf) (r1Right_fn _ _) <| yT rfl (by assumption) <| zc rfl ?_
             refine yG rfl <| zy (.pickTp rfl (by assumption) rfl) <| zy (.pickF rfl rfl) <| zn rfl (fun h1 => ?_) (fun h1 => ?_)
             refine zc rfl <| yT rfl (by assumption) <| zf 3 rfl rfl <| yT rfl (by assumption) <| zy (.Lf rfl (Nat.le_of_ble_eq_true rfl)) <| yT rfl (by assumption) <| yD rfl rfl (.of .rf) (r4isRef_fn _ _) <| yT rfl (by assumption) <| zc rfl <| yF rfl (by assumption) <| zy (.pickTp rfl (by assumption) rfl) <| zy (.pickFp rfl (by assumption) rfl) ?_
             refine zn rfl (fun h2 => ?_) (fun h2 => ?_)
             refine zc rfl <| yT rfl (by assumption) <| zf 8 rfl rfl <| yT rfl (by assumption) <| zy (.Lf rfl (Nat.le_of_ble_eq_true rfl)) <| yT rfl (by assumption) <| yD rfl rfl (.of .rf) (r4isRef_fn _ _) <| yT rfl (by assumption) <| zc rfl <| yF rfl (by assumption) <| zy (.pickTp rfl (by assumption) rfl) <| zy (.pickFp rfl (by assumption) rfl) ?_
             refine zd <| zq <| zi rfl (fun h3 => ?_) (fun h3 => ?_)
             refine zs <| zc rfl <| zd <| zr <| yR (.t rfl .nil) ?_ (.of (.d .rf))
             rotate_left
             refine zk <| zs <| zc rfl <| zd <| zr <| yR (.t rfl .nil) ?_ (.of (.d .rf))
             rotate_left
             refine JT.skipU rfl <| JT.skipU rfl <| JT.skipU rfl <| JT.skipU rfl <| yFs rfl (by assumption) <| zy (.pickTp rfl (by assumption) rfl) <| zd <| zq <| zt rfl <| zs <| zc rfl <| zd ?_
             refine zr <| yR (.t rfl .nil) ?_ (.of (.d .rf))
             rotate_left
             refine JT.skipU rfl <| JT.skipU rfl <| JT.skipU rfl <| JT.skipU rfl <| yFs rfl (by assumption) <| zy (.pickTp rfl (by assumption) rfl) <| zv rfl rfl <| JT.skipU rfl <| JT.skipU rfl <| JT.skipU rfl <| JT.skipU rfl <| zv rfl rfl ?_
             refine zy (.pickT rfl rfl) <| zd <| zq <| zt rfl <| zs <| zc rfl <| zd <| zr <| yR (.t rfl .nil) ?_ (.of (.d .rf))
             rotate_left
            all_goals (simp only [mkRet]; unfold askE; first | rw [if_pos (show a.ok from ⟨hk.1, hk.2, ho, fun h => by first | assumption | contradiction, fun h => by first | assumption | contradiction, fun h => by first | assumption | contradiction⟩)] | rw [if_neg (show ¬ a.ok from fun ⟨g1, g2, g3, g4, g5, g6⟩ => by first | exact absurd (g4 (by assumption)) (by assumption) | exact absurd (g5 (by assumption)) (by assumption) | exact absurd (g6 (by assumption)) (by assumption) | exact absurd g3 (by assumption))])
          · focus
             refine zs <| yB rfl fun b1 => zc rfl <| zfl rfl rfl rfl <| yD rfl rfl (.of .rf) (r4has_fn _ _) <| zc rfl <| zc rfl <| zc rfl <| zc rfl <| zfl rfl rfl rfl <| zy (.cltF rfl rfl (by omega)) <| yG rfl ?_
             refine zf 0 rfl rfl <| yG rfl <| zl rfl rfl <| yG rfl <| zy (.cgtF rfl rfl (by omega)) <| zy (.pickF rfl rfl) <| yG rfl <| zw rfl rfl <| yG rfl <| zw rfl rfl <| yG rfl <| yD rfl rfl (.of .rf) (r4only_fn _ _) ?_
             refine JT.yB rfl rfl (Ev.Lw rfl rfl) <| yG rfl ?_
             refine zy (.neTf rfl rfl (by assumption)) <| zy (.pickF rfl rfl) <| yG rfl <| zc rfl <| yT rfl (by assumption) <| zf 1 rfl rfl <| yT rfl (by assumption) <| zy (.Lf rfl (Nat.le_of_ble_eq_true rfl)) <| yT rfl (by assumption) <| yD rfl rfl (.of .rf) (r1Right_fn _ _) <| yT rfl (by assumption) <| zc rfl ?_
             refine yG rfl <| zy (.pickTp rfl (by assumption) rfl) <| zy (.pickF rfl rfl) <| zn rfl (fun h1 => ?_) (fun h1 => ?_)
             refine zc rfl <| yT rfl (by assumption) <| zf 3 rfl rfl <| yT rfl (by assumption) <| zy (.Lf rfl (Nat.le_of_ble_eq_true rfl)) <| yT rfl (by assumption) <| yD rfl rfl (.of .rf) (r4isRef_fn _ _) <| yT rfl (by assumption) <| zc rfl <| yF rfl (by assumption) <| zy (.pickTp rfl (by assumption) rfl) <| zy (.pickFp rfl (by assumption) rfl) ?_
             refine zn rfl (fun h2 => ?_) (fun h2 => ?_)
             refine zc rfl <| yTs rfl (by assumption) <| yTs rfl (by assumption) <| yTs rfl (by assumption) <| yTs rfl (by assumption) <| yF rfl (by assumption) <| zy (.pickFp rfl (by assumption) rfl) <| zy (.pickFp rfl (by assumption) rfl) <| zd <| zq <| zu rfl <| zk ?_
             refine zs <| zc rfl <| zd <| zr <| yR (.t rfl .nil) ?_ (.of (.d .rf))
             rotate_left
             refine JT.skipU rfl <| JT.skipU rfl <| JT.skipU rfl <| JT.skipU rfl <| yFs rfl (by assumption) <| zy (.pickTp rfl (by assumption) rfl) <| zd <| zq <| zt rfl <| zs <| zc rfl <| zd ?_
             refine zr <| yR (.t rfl .nil) ?_ (.of (.d .rf))
             rotate_left
             refine JT.skipU rfl <| JT.skipU rfl <| JT.skipU rfl <| JT.skipU rfl <| yFs rfl (by assumption) <| zy (.pickTp rfl (by assumption) rfl) <| zv rfl rfl <| JT.skipU rfl <| JT.skipU rfl <| JT.skipU rfl <| JT.skipU rfl <| zv rfl rfl ?_
             refine zy (.pickT rfl rfl) <| zd <| zq <| zt rfl <| zs <| zc rfl <| zd <| zr <| yR (.t rfl .nil) ?_ (.of (.d .rf))
             rotate_left
            all_goals (simp only [mkRet]; unfold askE; first | rw [if_pos (show a.ok from ⟨hk.1, hk.2, ho, fun h => by first | assumption | contradiction, fun h => by first | assumption | contradiction, fun h => by first | assumption | contradiction⟩)] | rw [if_neg (show ¬ a.ok from fun ⟨g1, g2, g3, g4, g5, g6⟩ => by first | exact absurd (g4 (by assumption)) (by assumption) | exact absurd (g5 (by assumption)) (by assumption) | exact absurd (g6 (by assumption)) (by assumption) | exact absurd g3 (by assumption))])
        · have h7 : ¬ a.kind = 7 := fun h => hr (.inr (.inr h))
          focus
           refine zs <| yB rfl fun b1 => zc rfl <| zfl rfl rfl rfl <| yD rfl rfl (.of .rf) (r4has_fn _ _) <| zc rfl <| zc rfl <| zc rfl <| zc rfl <| zfl rfl rfl rfl <| zy (.cltF rfl rfl (by omega)) <| yG rfl ?_
           refine zf 0 rfl rfl <| yG rfl <| zl rfl rfl <| yG rfl <| zy (.cgtF rfl rfl (by omega)) <| zy (.pickF rfl rfl) <| yG rfl <| zw rfl rfl <| yG rfl <| zw rfl rfl <| yG rfl <| yD rfl rfl (.of .rf) (r4only_fn _ _) ?_
           refine JT.yB rfl rfl (Ev.Lw rfl rfl) <| yG rfl ?_
           refine zy (.neTf rfl rfl (by assumption)) <| zy (.pickF rfl rfl) <| yG rfl <| zc rfl <| yT rfl (by assumption) <| zf 1 rfl rfl <| yT rfl (by assumption) <| zy (.Lf rfl (Nat.le_of_ble_eq_true rfl)) <| yT rfl (by assumption) <| yD rfl rfl (.of .rf) (r1Right_fn _ _) <| yT rfl (by assumption) <| zc rfl ?_
           refine yG rfl <| zy (.pickTp rfl (by assumption) rfl) <| zy (.pickF rfl rfl) <| zn rfl (fun h1 => ?_) (fun h1 => ?_)
           refine zc rfl <| yTs rfl (by assumption) <| yTs rfl (by assumption) <| yTs rfl (by assumption) <| yTs rfl (by assumption) <| yF rfl (by assumption) <| zy (.pickFp rfl (by assumption) rfl) <| zy (.pickFp rfl (by assumption) rfl) <| yG rfl <| zc rfl <| yTs rfl (by assumption) <| yTs rfl (by assumption) ?_
           refine yTs rfl (by assumption) <| yTs rfl (by assumption) <| yG rfl <| zy (.pickFp rfl (by assumption) rfl) <| zy (.pickF rfl rfl) <| zd <| zq <| zu rfl <| zk <| zs <| zc rfl <| zd ?_
           refine zr <| yR (.t rfl .nil) ?_ (.of (.d .rf))
           rotate_left
           refine JT.skipU rfl <| JT.skipU rfl <| JT.skipU rfl <| JT.skipU rfl <| yFs rfl (by assumption) <| zy (.pickTp rfl (by assumption) rfl) <| zv rfl rfl <| JT.skipU rfl <| JT.skipU rfl <| JT.skipU rfl <| JT.skipU rfl <| zv rfl rfl ?_
           refine zy (.pickT rfl rfl) <| zd <| zq <| zt rfl <| zs <| zc rfl <| zd <| zr <| yR (.t rfl .nil) ?_ (.of (.d .rf))
           rotate_left
          all_goals (simp only [mkRet]; unfold askE; first | rw [if_pos (show a.ok from ⟨hk.1, hk.2, ho, fun h => by first | assumption | contradiction, fun h => by first | assumption | contradiction, fun h => by first | assumption | contradiction⟩)] | rw [if_neg (show ¬ a.ok from fun ⟨g1, g2, g3, g4, g5, g6⟩ => by first | exact absurd (g4 (by assumption)) (by assumption) | exact absurd (g5 (by assumption)) (by assumption) | exact absurd (g6 (by assumption)) (by assumption) | exact absurd g3 (by assumption))])
      · have hr : ¬ Ask.hasR a.kind := fun h => hw (by unfold Ask.hasR at h; unfold Ask.hasW; omega)
        have h7 : ¬ a.kind = 7 := fun h => hr (.inr (.inr h))
        focus
         refine zs <| yB rfl fun b1 => zc rfl <| zfl rfl rfl rfl <| yD rfl rfl (.of .rf) (r4has_fn _ _) <| zc rfl <| zc rfl <| zc rfl <| zc rfl <| zfl rfl rfl rfl <| zy (.cltF rfl rfl (by omega)) <| yG rfl ?_
         refine zf 0 rfl rfl <| yG rfl <| zl rfl rfl <| yG rfl <| zy (.cgtF rfl rfl (by omega)) <| zy (.pickF rfl rfl) <| yG rfl <| zw rfl rfl <| yG rfl <| zw rfl rfl <| yG rfl <| yD rfl rfl (.of .rf) (r4only_fn _ _) ?_
         refine JT.yB rfl rfl (Ev.Lw rfl rfl) <| yG rfl ?_
         refine zy (.neTf rfl rfl (by assumption)) <| zy (.pickF rfl rfl) <| yG rfl <| zc rfl <| yTs rfl (by assumption) <| yTs rfl (by assumption) <| yTs rfl (by assumption) <| yTs rfl (by assumption) <| yG rfl <| zy (.pickFp rfl (by assumption) rfl) <| zy (.pickF rfl rfl) <| yG rfl ?_
         refine zc rfl <| yTs rfl (by assumption) <| yTs rfl (by assumption) <| yTs rfl (by assumption) <| yTs rfl (by assumption) <| yG rfl <| zy (.pickFp rfl (by assumption) rfl) <| zy (.pickF rfl rfl) <| yG rfl <| zc rfl <| yTs rfl (by assumption) <| yTs rfl (by assumption) ?_
         refine yTs rfl (by assumption) <| yTs rfl (by assumption) <| yG rfl <| zy (.pickFp rfl (by assumption) rfl) <| zy (.pickF rfl rfl) <| zd <| zq <| zu rfl <| zk <| zs <| zc rfl <| zd ?_
         refine zr <| yR (.t rfl .nil) ?_ (.of (.d .rf))
        all_goals (simp only [mkRet]; unfold askE; first | rw [if_pos (show a.ok from ⟨hk.1, hk.2, ho, fun h => by first | assumption | contradiction, fun h => by first | assumption | contradiction, fun h => by first | assumption | contradiction⟩)] | rw [if_neg (show ¬ a.ok from fun ⟨g1, g2, g3, g4, g5, g6⟩ => by first | exact absurd (g4 (by assumption)) (by assumption) | exact absurd (g5 (by assumption)) (by assumption) | exact absurd (g6 (by assumption)) (by assumption) | exact absurd g3 (by assumption))])
    · focus
       refine zs <| yB rfl fun b1 => zc rfl <| zfl rfl rfl rfl <| yD rfl rfl (.of .rf) (r4has_fn _ _) <| zc rfl <| zc rfl <| zc rfl <| zc rfl <| zfl rfl rfl rfl <| zy (.cltF rfl rfl (by omega)) <| yG rfl ?_
       refine zf 0 rfl rfl <| yG rfl <| zl rfl rfl <| yG rfl <| zy (.cgtF rfl rfl (by omega)) <| zy (.pickF rfl rfl) <| yG rfl <| zw rfl rfl <| yG rfl <| zw rfl rfl <| yG rfl <| yD rfl rfl (.of .rf) (r4only_fn _ _) ?_
       refine JT.yB rfl rfl (Ev.Lw rfl rfl) <| yG rfl ?_
       refine zy (.neTt rfl rfl (by assumption)) <| zy (.pickF rfl rfl) <| zv rfl rfl <| JT.skipU rfl <| JT.skipU rfl <| JT.skipU rfl <| JT.skipU rfl <| zv rfl rfl <| zy (.pickT rfl rfl) <| zv rfl rfl <| JT.skipU rfl <| JT.skipU rfl ?_
       refine JT.skipU rfl <| JT.skipU rfl <| zv rfl rfl <| zy (.pickT rfl rfl) <| zv rfl rfl <| JT.skipU rfl <| JT.skipU rfl <| JT.skipU rfl <| JT.skipU rfl <| zv rfl rfl <| zy (.pickT rfl rfl) <| zd ?_
       refine zq <| zt rfl <| zs <| zc rfl <| zd <| zr <| yR (.t rfl .nil) ?_ (.of (.d .rf))
      all_goals (simp only [mkRet]; unfold askE; first | rw [if_pos (show a.ok from ⟨hk.1, hk.2, ho, fun h => by first | assumption | contradiction, fun h => by first | assumption | contradiction, fun h => by first | assumption | contradiction⟩)] | rw [if_neg (show ¬ a.ok from fun ⟨g1, g2, g3, g4, g5, g6⟩ => by first | exact absurd (g4 (by assumption)) (by assumption) | exact absurd (g5 (by assumption)) (by assumption) | exact absurd (g6 (by assumption)) (by assumption) | exact absurd g3 (by assumption))])
  · focus
     refine zs <| yB rfl fun b1 => zc rfl <| zfl rfl rfl rfl <| yD rfl rfl (.of .rf) (r4has_fn _ _) <| zc rfl <| zc rfl <| zc rfl <| zc rfl <| zfl rfl rfl rfl <| zj rfl rfl rfl <| zn rfl (fun h1 => ?_) (fun h1 => ?_)
     refine zf 0 rfl rfl <| yF rfl (by assumption) <| zl rfl rfl <| yF rfl (by assumption) <| zy (.cgtT rfl rfl (by omega)) <| zy (.pickFp rfl (by assumption) rfl) <| zv rfl rfl <| zv rfl rfl <| zv rfl rfl <| JT.agF rfl rfl rfl <| zv rfl rfl <| zy (.pickT rfl rfl) ?_
     refine zv rfl rfl <| JT.skipU rfl <| JT.skipU rfl <| JT.skipU rfl <| JT.skipU rfl <| zv rfl rfl <| zy (.pickT rfl rfl) <| zv rfl rfl <| JT.skipU rfl <| JT.skipU rfl <| JT.skipU rfl <| JT.skipU rfl ?_
     refine zv rfl rfl <| zy (.pickT rfl rfl) <| zv rfl rfl <| JT.skipU rfl <| JT.skipU rfl <| JT.skipU rfl <| JT.skipU rfl <| zv rfl rfl <| zy (.pickT rfl rfl) <| zd <| zq <| zt rfl ?_
     refine zs <| zc rfl <| zd <| zr <| yR (.t rfl .nil) ?_ (.of (.d .rf))
     rotate_left
     refine yFs rfl (by assumption) <| yFs rfl (by assumption) <| zy (.pickTp rfl (by assumption) rfl) <| zv rfl rfl <| zv rfl rfl <| zv rfl rfl <| JT.agF rfl rfl rfl <| zv rfl rfl <| zy (.pickT rfl rfl) <| zv rfl rfl <| JT.skipU rfl <| JT.skipU rfl ?_
     refine JT.skipU rfl <| JT.skipU rfl <| zv rfl rfl <| zy (.pickT rfl rfl) <| zv rfl rfl <| JT.skipU rfl <| JT.skipU rfl <| JT.skipU rfl <| JT.skipU rfl <| zv rfl rfl <| zy (.pickT rfl rfl) <| zv rfl rfl ?_
     refine JT.skipU rfl <| JT.skipU rfl <| JT.skipU rfl <| JT.skipU rfl <| zv rfl rfl <| zy (.pickT rfl rfl) <| zd <| zq <| zt rfl <| zs <| zc rfl <| zd ?_
     refine zr <| yR (.t rfl .nil) ?_ (.of (.d .rf))
     rotate_left
    all_goals (simp only [mkRet]; unfold askE; rw [if_neg (show ¬ a.ok from fun h => hk ⟨h.1, h.2.1⟩)])
theorem r4SameAnswer_fn (x y : AnsE) {F : List Assn} [H1 : HS F (.slice x.a x.x.value.length x.c) UInt8 byteC 1 x.c x.x.value] [H2 : HS F (.slice y.a y.x.value.length y.c) UInt8 byteC 1 y.c y.x.value] :
    Meets Try.prog 61 [anv x, anv y] F (Det (.bool (decide (x.x = y.x))) F) := by
  refine Meets.intro b61 k61 (by simp) ?_
  focus
   refine zs <| yB rfl fun b2 => yB rfl fun b3 => zc rfl <| zfl rfl rfl rfl <| zfl rfl rfl rfl <| zj rfl rfl rfl <| zc rfl <| zp rfl (fun h1 => ?_) (fun h1 => ?_)
   refine zf 1 rfl rfl <| yT rfl (by assumption) <| zl rfl rfl <| yT rfl (by assumption) <| zf 1 rfl rfl <| yT rfl (by assumption) <| zl rfl rfl <| yT rfl (by assumption) <| zc rfl <| zy (.pickTp rfl (by assumption) rfl) <| zc rfl <| zp rfl (fun h2 => ?_) (fun h2 => ?_)
   refine zf 2 rfl rfl <| yT rfl (by assumption) <| zy (.Lf rfl (Nat.le_of_ble_eq_true rfl)) <| yT rfl (by assumption) <| zf 2 rfl rfl <| yT rfl (by assumption) <| zy (.Lf rfl (Nat.le_of_ble_eq_true rfl)) <| yT rfl (by assumption) <| zy (.eqT rfl rfl) <| zy (.pickTp rfl (by assumption) rfl) <| zc rfl <| zp rfl (fun h3 => ?_) (fun h3 => ?_)
   refine zf 7 rfl rfl <| yT rfl (by assumption) <| zy (.Lf rfl (Nat.le_of_ble_eq_true rfl)) <| yT rfl (by assumption) <| zf 7 rfl rfl <| yT rfl (by assumption) <| zy (.Lf rfl (Nat.le_of_ble_eq_true rfl)) <| yT rfl (by assumption) <| zy (.eqT rfl rfl) <| zy (.pickTp rfl (by assumption) rfl) <| zc rfl <| zp rfl (fun h4 => ?_) (fun h4 => ?_)
   refine zf 12 rfl rfl <| yT rfl (by assumption) <| zl rfl rfl <| yT rfl (by assumption) ?_
   rotate_left
   refine yTs rfl (by assumption) <| yTs rfl (by assumption) <| yTs rfl (by assumption) <| yTs rfl (by assumption) <| yTs rfl (by assumption) <| yTs rfl (by assumption) <| zy (.pickFp rfl (by assumption) rfl) <| zc rfl <| zd <| zr <| yR (.t rfl .nil) ?_ (.of (.d (.d .rf)))
   rotate_left
   refine yTs rfl (by assumption) <| yTs rfl (by assumption) <| yTs rfl (by assumption) <| yTs rfl (by assumption) <| zy (.pickFp rfl (by assumption) rfl) <| zc rfl <| zv rfl rfl <| zv rfl rfl <| zv rfl rfl <| zv rfl rfl <| zv rfl rfl <| zv rfl rfl ?_
   refine zv rfl rfl <| zy (.pickF rfl rfl) <| zc rfl <| zd <| zr <| yR (.t rfl .nil) ?_ (.of (.d (.d .rf)))
   rotate_left
   refine yTs rfl (by assumption) <| yTs rfl (by assumption) <| yTs rfl (by assumption) <| yTs rfl (by assumption) <| zy (.pickFp rfl (by assumption) rfl) <| zc rfl <| zv rfl rfl <| zv rfl rfl <| zv rfl rfl <| zv rfl rfl <| zv rfl rfl <| zy (.pickF rfl rfl) ?_
   refine zc rfl <| zv rfl rfl <| zv rfl rfl <| zv rfl rfl <| zv rfl rfl <| zv rfl rfl <| zv rfl rfl <| zv rfl rfl <| zy (.pickF rfl rfl) <| zc rfl <| zd <| zr ?_
   refine yR (.t rfl .nil) ?_ (.of (.d (.d .rf)))
   rotate_left
   refine yTs rfl (by assumption) <| yTs rfl (by assumption) <| yTs rfl (by assumption) <| yTs rfl (by assumption) <| zy (.pickFp rfl (by assumption) rfl) <| zc rfl <| zv rfl rfl <| zv rfl rfl <| zv rfl rfl <| zv rfl rfl <| zv rfl rfl <| zy (.pickF rfl rfl) ?_
   refine zc rfl <| zv rfl rfl <| zv rfl rfl <| zv rfl rfl <| zv rfl rfl <| zv rfl rfl <| zy (.pickF rfl rfl) <| zc rfl <| zv rfl rfl <| zv rfl rfl <| zv rfl rfl <| zv rfl rfl ?_
   refine zv rfl rfl <| zv rfl rfl <| zv rfl rfl <| zy (.pickF rfl rfl) <| zc rfl <| zd <| zr <| yR (.t rfl .nil) ?_ (.of (.d (.d .rf)))
   rotate_left
  focus
    refine JT.bst (e := 5) (xs := x.x.value) (c := x.c) rfl (by kernel_rfl) (by kernel_rfl) (by kernel_rfl) rfl ?_
    focus
     refine yT rfl (by assumption) <| zf 12 rfl rfl <| yT rfl (by assumption) <| zl rfl rfl <| yT rfl (by assumption) ?_
    refine JT.bst (e := 5) (xs := y.x.value) (c := y.c) rfl (by kernel_rfl) (by kernel_rfl) (by kernel_rfl) rfl ?_
    focus
     refine yT rfl (by assumption) <| zc rfl <| zy (.pickTp rfl (by assumption) rfl) <| zc rfl <| zd <| zr <| yR (.t rfl .nil) ?_ (.of (.d (.d .rf)))
    simp only [mkRet]; rw [strOf_list, strOf_list]; rw [Ans.dec]
    have e : (x.x.marked == y.x.marked) = true := by rcases h2 with ⟨h, h'⟩ | ⟨h, h'⟩ <;> rw [h, h'] <;> rfl
    rw [decide_eq_true h1, e, decide_eq_true h3, decide_eq_true h4]; congr 1
    rw [Bool.eq_iff_iff]; simp
  all_goals (simp only [mkRet]; rw [Ans.dec])
  · rw [decide_eq_false h4]; simp
  · rw [decide_eq_false h3]; simp
  · have e : (x.x.marked == y.x.marked) = false := by rcases h2 with ⟨h, h'⟩ | ⟨h, h'⟩ <;> rw [h, h'] <;> rfl
    rw [e]; simp
  · rw [decide_eq_false h1]; simp
theorem r4SameAnswer_z (x : AnsE) (k : Int) {F : List Assn} [H1 : HS F (.slice x.a x.x.value.length x.c) UInt8 byteC 1 x.c x.x.value] :
    Meets Try.prog 61 [anv x, anv ⟨⟨k, false, zR, zR, []⟩, none, 0⟩] F (Det (.bool (decide (x.x = ⟨k, false, zR, zR, []⟩))) F) := by
  refine Meets.post (Meets.up (Up.nilS (enc := byteC) (sz := 1) false (by decide) (Up.refl _)) (r4SameAnswer_fn x ⟨⟨k, false, zR, zR, []⟩, none, 0⟩)) ?_
  rintro v c ⟨rfl, rfl⟩
  exact ⟨F, Up.of Imp.drop, rfl, rfl⟩
theorem r4CheckAnswer_fn (x : AnsE) {F : List Assn} [H1 : HS F (.slice x.a x.x.value.length x.c) UInt8 byteC 1 x.c x.x.value] :
    Meets Try.prog 89 [anv x] F (Det (i64 (ansE x.x)) F) := by
  refine Meets.intro b89 k89 (by simp) ?_
  by_cases hk1 : x.x.kind = 1
  · have ho := Ans.ok1 hk1
    focus
     refine zs <| yB rfl fun b1 => zc rfl <| zc rfl <| zfl rfl rfl rfl <| zd <| zq <| zb <| zs <| zy (.ceqT rfl rfl (by omega)) <| zd <| zt rfl ?_
     refine zo <| zfw [_, _, _, _, _] rfl rfl rfl rfl <| yD rfl rfl (.of .rf) (r4side_fn _ _) <| zp rfl (fun h1 => ?_) (fun h1 => ?_)
     refine zf 7 rfl rfl <| yT rfl (by assumption) <| zy (.Lf rfl (Nat.le_of_ble_eq_true rfl)) <| yT rfl (by assumption) <| yD rfl rfl (.of .rf) (r4side_fn _ _) <| zy (.pickTp rfl (by assumption) rfl) <| zp rfl (fun h2 => ?_) (fun h2 => ?_)
     refine zf 12 rfl rfl <| yT rfl (by assumption) <| zl rfl rfl <| yT rfl (by assumption) <| zc rfl <| yT rfl (by assumption) <| zj rfl rfl rfl <| zy (.pickTp rfl (by assumption) rfl) <| zd <| zs <| zc rfl <| zd ?_
     refine zq <| zi rfl (fun h3 => ?_) (fun h3 => ?_)
     refine zs <| zc rfl <| zd <| zr <| yR (.t rfl .nil) ?_ (.of (.d .rf))
     rotate_left
     refine zk <| zs <| zc rfl <| zd <| zr <| yR (.t rfl .nil) ?_ (.of (.d .rf))
     rotate_left
     refine yTs rfl (by assumption) <| yTs rfl (by assumption) <| yTs rfl (by assumption) <| zy (.pickFp rfl (by assumption) rfl) <| zd <| zs <| zc rfl <| zd <| zq <| zt rfl <| zs <| zc rfl ?_
     refine zd <| zr <| yR (.t rfl .nil) ?_ (.of (.d .rf))
     rotate_left
     refine yTs rfl (by assumption) <| yTs rfl (by assumption) <| zy (.pickFp rfl (by assumption) rfl) <| zv rfl rfl <| zv rfl rfl <| zv rfl rfl <| zv rfl rfl <| zy (.pickF rfl rfl) <| zd <| zs <| zc rfl <| zd ?_
     refine zq <| zt rfl <| zs <| zc rfl <| zd <| zr <| yR (.t rfl .nil) ?_ (.of (.d .rf))
     rotate_left
    all_goals (simp only [mkRet]; unfold ansE)
    · rw [if_neg (fun h => h3 (by have := (ho.1 h).2.2; omega))]
    · rw [if_pos (ho.2 ⟨h1, h2, by omega⟩)]
    · rw [if_neg (fun h => h2 (ho.1 h).2.1)]
    · rw [if_neg (fun h => h1 (ho.1 h).1)]
  by_cases hk3 : x.x.kind = 3
  · have ho := Ans.ok3 hk3
    focus
     refine zs <| yB rfl fun b1 => zc rfl <| zc rfl <| zfl rfl rfl rfl <| zd <| zq <| zb <| zs <| zy (.ceqF rfl rfl (by omega)) <| zd <| zu rfl ?_
     refine zs <| zy (.ceqT rfl rfl (by omega)) <| zd <| zt rfl <| zo <| zfw [_, _, _, _, _] rfl rfl rfl rfl <| yD rfl rfl (.of .rf) (r4side_fn _ _) <| zp rfl (fun h1 => ?_) (fun h1 => ?_)
     refine zf 7 rfl rfl <| yT rfl (by assumption) <| zy (.Lf rfl (Nat.le_of_ble_eq_true rfl)) <| yT rfl (by assumption) <| yD rfl rfl (.of .rf) (r4side_fn _ _) <| zy (.pickTp rfl (by assumption) rfl) <| zp rfl (fun h2 => ?_) (fun h2 => ?_)
     refine zf 12 rfl rfl <| yT rfl (by assumption) <| zl rfl rfl <| yT rfl (by assumption) <| zc rfl <| yT rfl (by assumption) <| zj rfl rfl rfl <| zy (.pickTp rfl (by assumption) rfl) <| zd <| zs <| zc rfl <| zd ?_
     refine zq <| zi rfl (fun h3 => ?_) (fun h3 => ?_)
     refine zs <| zc rfl <| zd <| zr <| yR (.t rfl .nil) ?_ (.of (.d .rf))
     rotate_left
     refine zk <| zs <| zc rfl <| zd <| zr <| yR (.t rfl .nil) ?_ (.of (.d .rf))
     rotate_left
     refine yTs rfl (by assumption) <| yTs rfl (by assumption) <| yTs rfl (by assumption) <| zy (.pickFp rfl (by assumption) rfl) <| zd <| zs <| zc rfl <| zd <| zq <| zt rfl <| zs <| zc rfl ?_
     refine zd <| zr <| yR (.t rfl .nil) ?_ (.of (.d .rf))
     rotate_left
     refine yTs rfl (by assumption) <| yTs rfl (by assumption) <| zy (.pickFp rfl (by assumption) rfl) <| zv rfl rfl <| zv rfl rfl <| zv rfl rfl <| zv rfl rfl <| zy (.pickF rfl rfl) <| zd <| zs <| zc rfl <| zd ?_
     refine zq <| zt rfl <| zs <| zc rfl <| zd <| zr <| yR (.t rfl .nil) ?_ (.of (.d .rf))
     rotate_left
    all_goals (simp only [mkRet]; unfold ansE)
    · rw [if_neg (fun h => h3 (by rw [(ho.1 h).2.2]; rfl))]
    · rw [if_pos (ho.2 ⟨h1, h2, List.length_eq_zero_iff.1 (by omega)⟩)]
    · rw [if_neg (fun h => h2 (ho.1 h).2.1)]
    · rw [if_neg (fun h => h1 (ho.1 h).1)]
  by_cases hk24 : x.x.kind = 2 ∨ x.x.kind = 4
  · have ho := Ans.ok24 hk24
    focus
     refine zs <| yB rfl fun b1 => zc rfl <| zc rfl <| zfl rfl rfl rfl <| zd <| zq <| zb <| zs <| zy (.ceqF rfl rfl (by omega)) <| zd <| zu rfl ?_
     refine zs <| zy (.ceqF rfl rfl (by omega)) <| zd <| zu rfl <| zs <| zj rfl rfl rfl <| zd <| zq <| zi rfl (fun h1 => ?_) (fun h1 => ?_)
     refine zk <| zi rfl (fun h2 => ?_) (fun h2 => ?_)
     refine zo <| zw rfl rfl <| zfl rfl rfl rfl <| zg rfl <| yD rfl rfl (.of .rf) (r4SameAnswer_z _ _) <| zd <| zs <| zc rfl <| zd <| zq <| zi rfl (fun h3 => ?_) (fun h3 => ?_)
     refine zs <| zc rfl <| zd <| zr <| yR (.t rfl .nil) ?_ (.of (.d .rf))
     rotate_left
     refine zk <| zs <| zc rfl <| zd <| zr <| yR (.t rfl .nil) ?_ (.of (.d .rf))
     rotate_left
     (exfalso; omega)
     refine zo <| zy (.ceqT rfl rfl (by omega)) <| zd <| zt rfl <| zo <| zw rfl rfl <| zfl rfl rfl rfl <| zg rfl <| yD rfl rfl (.of .rf) (r4SameAnswer_z _ _) <| zd <| zs <| zc rfl ?_
     refine zd <| zq <| zi rfl (fun h2 => ?_) (fun h2 => ?_)
     refine zs <| zc rfl <| zd <| zr <| yR (.t rfl .nil) ?_ (.of (.d .rf))
     rotate_left
     refine zk <| zs <| zc rfl <| zd <| zr <| yR (.t rfl .nil) ?_ (.of (.d .rf))
     rotate_left
    all_goals (simp only [mkRet]; unfold ansE)
    · rw [if_neg (fun h => h3 (ho.1 h))]
    · rw [if_pos (ho.2 h3)]
    · rw [if_neg (fun h => h2 (ho.1 h))]
    · rw [if_pos (ho.2 h2)]
  · have ho := Ans.okN hk1 (fun h => hk24 (.inl h)) hk3 (fun h => hk24 (.inr h))
    focus
     refine zs <| yB rfl fun b1 => zc rfl <| zc rfl <| zfl rfl rfl rfl <| zd <| zq <| zb <| zs <| zy (.ceqF rfl rfl (by omega)) <| zd <| zu rfl ?_
     refine zs <| zy (.ceqF rfl rfl (by omega)) <| zd <| zu rfl <| zs <| zy (.ceqF rfl rfl (by omega)) <| zd <| zq <| zu rfl <| zo <| zy (.ceqF rfl rfl (by omega)) <| zd ?_
     refine zu rfl <| zo <| zc rfl <| zd <| zs <| zc rfl <| zd <| zq <| zt rfl <| zs <| zc rfl <| zd ?_
     refine zr <| yR (.t rfl .nil) ?_ (.of (.d .rf))
    simp only [mkRet]; unfold ansE; rw [if_neg ho]
theorem r4Check_fn (x : PktE) {F : List Assn} [H1 : HS F (.slice x.a x.p.ans.value.length x.c) UInt8 byteC 1 x.c x.p.ans.value] :
    Meets Try.prog 59 [pkv x] F (Det (i64 (pktE x.p)) F) := by
  refine Meets.intro b59 k59 (by simp) ?_
  focus
   refine zs <| yB rfl fun b1 => zc rfl <| zfl rfl rfl rfl <| zj rfl rfl rfl <| zn rfl (fun h1 => ?_) (fun h1 => ?_)
   refine zf 5 rfl rfl <| yF rfl (by assumption) <| zl rfl rfl <| yF rfl (by assumption) <| zj rfl rfl rfl <| zy (.pickFp rfl (by assumption) rfl) <| zd <| zq <| zi rfl (fun h2 => ?_) (fun h2 => ?_)
   refine zs <| zc rfl <| zd <| zr <| yR (.t rfl .nil) ?_ (.of (.d .rf))
   rotate_left
   refine zk <| zs <| zfl rfl rfl rfl <| zd <| zq <| zi rfl (fun h3 => ?_) (fun h3 => ?_)
   refine zs <| zfw [_, _, _, _, _, _, _, _, _, _, _, _, _, _, _] rfl rfl rfl rfl <| zg rfl <| zy (.eqs rfl rfl (by repeat (first | exact EqC.nil | apply EqC.i | apply EqC.b | apply EqC.s))) ?_
   refine zd <| zq <| zi rfl (fun h4 => ?_) (fun h4 => ?_)
   refine zs <| zc rfl <| zd <| zr <| yR (.t rfl .nil) ?_ (.of (.d .rf))
   rotate_left
   refine zk <| zs <| zfw [_, _, _, _, _, _, _, _, _, _, _, _, _] rfl rfl rfl rfl <| yD rfl rfl (.of .rf) (r4CheckAnswer_fn ⟨⟨_, _, ⟨_, ⟨_, _⟩, ⟨_, _⟩⟩, ⟨_, ⟨_, _⟩, ⟨_, _⟩⟩, _⟩, _, _⟩) <| zd <| zr <| yR (.t rfl .nil) ?_ (.of (.d .rf))
   rotate_left
   refine zk <| zs <| zfw [_, _, _, _, _, _, _, _, _, _, _, _, _] rfl rfl rfl rfl <| zg rfl <| yD rfl rfl (.of .rf) (r4SameAnswer_z ⟨⟨_, _, ⟨_, ⟨_, _⟩, ⟨_, _⟩⟩, ⟨_, ⟨_, _⟩, ⟨_, _⟩⟩, _⟩, _, _⟩ _) <| zc rfl <| zd <| zq <| zi rfl (fun h4 => ?_) (fun h4 => ?_)
   refine zs <| zc rfl <| zd <| zr <| yR (.t rfl .nil) ?_ (.of (.d .rf))
   rotate_left
   refine zk <| zs <| zfw [_, _, _, _, _, _, _, _, _, _, _, _, _, _, _] rfl rfl rfl rfl <| yD rfl rfl (.of .rf) (r4CheckAsk_fn _ _) <| zd <| zr <| yR (.t rfl .nil) ?_ (.of (.d .rf))
   rotate_left
   refine yFs rfl (by assumption) <| yFs rfl (by assumption) <| zy (.pickTp rfl (by assumption) rfl) <| zd <| zq <| zt rfl <| zs <| zc rfl <| zd <| zr <| yR (.t rfl .nil) ?_ (.of (.d .rf))
   rotate_left
  all_goals (simp only [mkRet]; unfold pktE)
  · rw [if_neg (fun h => by have := h.2.1; omega)]
  · rw [if_neg (fun h => by have := (zAsk_cells x.p.ask).1 ((Pkt.ok_rep h3).1 h).2.2.1; omega)]
  · show i64 (ansE x.p.ans) = _
    unfold ansE; congr 1
    have hz := (zAsk_cells x.p.ask).2 h4
    by_cases ho : x.p.ans.ok
    · rw [if_pos ho, if_pos ((Pkt.ok_rep h3).2 ⟨by omega, by omega, hz, ho⟩)]
    · rw [if_neg ho, if_neg (fun h => ho ((Pkt.ok_rep h3).1 h).2.2.2)]
  · rw [if_neg (fun h => h4 ((Pkt.ok_req h3).1 h).2.2.1)]
  · congr 1; unfold askE
    by_cases ho : x.p.ask.ok
    · rw [if_pos ho, if_pos ((Pkt.ok_req h3).2 ⟨by omega, by omega, h4, ho⟩)]
    · rw [if_neg ho, if_neg (fun h => ho ((Pkt.ok_req h3).1 h).2.2.2)]
  · rw [if_neg (fun h => by have := h.1; omega)]
theorem r4Same_fn (x y : PktE) {F : List Assn} [H1 : HS F (.slice x.a x.p.ans.value.length x.c) UInt8 byteC 1 x.c x.p.ans.value] [H2 : HS F (.slice y.a y.p.ans.value.length y.c) UInt8 byteC 1 y.c y.p.ans.value] :
    Meets Try.prog 35 [pkv x, pkv y] F (Det (.bool (decide (x.p = y.p))) F) := by
  refine Meets.intro b35 k35 (by simp) ?_
  focus
   refine zs <| yB rfl fun b2 => yB rfl fun b3 => zc rfl <| zfl rfl rfl rfl <| zfl rfl rfl rfl <| zc rfl <| zp rfl (fun h1 => ?_) (fun h1 => ?_)
   refine zf 1 rfl rfl <| yT rfl (by assumption) <| zy (.Lf rfl (Nat.le_of_ble_eq_true rfl)) <| yT rfl (by assumption) <| zf 1 rfl rfl <| yT rfl (by assumption) <| zy (.Lf rfl (Nat.le_of_ble_eq_true rfl)) <| yT rfl (by assumption) <| zy (.eqT rfl rfl) <| zy (.pickTp rfl (by assumption) rfl) <| zp rfl (fun h2 => ?_) (fun h2 => ?_)
   refine zf 3 rfl rfl <| yT rfl (by assumption) <| zy (.Lf rfl (Nat.le_of_ble_eq_true rfl)) <| yT rfl (by assumption) <| zf 3 rfl rfl <| yT rfl (by assumption) <| zy (.Lf rfl (Nat.le_of_ble_eq_true rfl)) <| yT rfl (by assumption) <| zy (.eqT rfl rfl) <| zy (.pickTp rfl (by assumption) rfl) <| zp rfl (fun h3 => ?_) (fun h3 => ?_)
   refine zf 5 rfl rfl <| yT rfl (by assumption) <| zl rfl rfl <| yT rfl (by assumption) <| zf 5 rfl rfl <| yT rfl (by assumption) <| zl rfl rfl <| yT rfl (by assumption) <| zj rfl rfl rfl <| zy (.pickTp rfl (by assumption) rfl) <| zp rfl (fun h4 => ?_) (fun h4 => ?_)
   refine zf 6 rfl rfl <| yT rfl (by assumption) <| zy (.Lf rfl (Nat.le_of_ble_eq_true rfl)) <| yT rfl (by assumption) <| zf 6 rfl rfl <| yT rfl (by assumption) <| zy (.Lf rfl (Nat.le_of_ble_eq_true rfl)) <| yT rfl (by assumption) <| zy (.eqT rfl rfl) <| zy (.pickTp rfl (by assumption) rfl) <| zp rfl (fun h5 => ?_) (fun h5 => ?_)
   refine zf 21 rfl rfl <| yT rfl (by assumption) <| zy (.Lf rfl (Nat.le_of_ble_eq_true rfl)) <| yT rfl (by assumption) <| zf 21 rfl rfl <| yT rfl (by assumption) <| zy (.Lf rfl (Nat.le_of_ble_eq_true rfl)) <| yT rfl (by assumption) <| yD rfl rfl (.of .rf) (r4SameAnswer_fn ⟨_, _, _⟩ ⟨_, _, _⟩) <| zy (.pickTp rfl (by assumption) rfl) <| zd <| zr ?_
   refine yR (.t rfl .nil) ?_ (.of (.d (.d .rf)))
   rotate_left
   refine yTs rfl (by assumption) <| yTs rfl (by assumption) <| yTs rfl (by assumption) <| yTs rfl (by assumption) <| zy (.pickFp rfl (by assumption) rfl) <| zd <| zr <| yR (.t rfl .nil) ?_ (.of (.d (.d .rf)))
   rotate_left
   refine yTs rfl (by assumption) <| yTs rfl (by assumption) <| yTs rfl (by assumption) <| yTs rfl (by assumption) <| zy (.pickFp rfl (by assumption) rfl) <| zv rfl rfl <| zv rfl rfl <| zv rfl rfl <| zv rfl rfl <| zv rfl rfl <| zy (.pickF rfl rfl) <| zd ?_
   refine zr <| yR (.t rfl .nil) ?_ (.of (.d (.d .rf)))
   rotate_left
   refine yTs rfl (by assumption) <| yTs rfl (by assumption) <| yTs rfl (by assumption) <| yTs rfl (by assumption) <| zy (.pickFp rfl (by assumption) rfl) <| zv rfl rfl <| zv rfl rfl <| zv rfl rfl <| zv rfl rfl <| zv rfl rfl <| zy (.pickF rfl rfl) <| zv rfl rfl ?_
   refine zv rfl rfl <| zv rfl rfl <| zv rfl rfl <| zv rfl rfl <| zy (.pickF rfl rfl) <| zd <| zr <| yR (.t rfl .nil) ?_ (.of (.d (.d .rf)))
   rotate_left
   refine yTs rfl (by assumption) <| yTs rfl (by assumption) <| yTs rfl (by assumption) <| yTs rfl (by assumption) <| zy (.pickFp rfl (by assumption) rfl) <| zv rfl rfl <| zv rfl rfl <| zv rfl rfl <| zv rfl rfl <| zv rfl rfl <| zy (.pickF rfl rfl) <| zv rfl rfl ?_
   refine zv rfl rfl <| zv rfl rfl <| zv rfl rfl <| zv rfl rfl <| zy (.pickF rfl rfl) <| zv rfl rfl <| zv rfl rfl <| zv rfl rfl <| zv rfl rfl <| zv rfl rfl <| zy (.pickF rfl rfl) <| zd ?_
   refine zr <| yR (.t rfl .nil) ?_ (.of (.d (.d .rf)))
   rotate_left
   refine yTs rfl (by assumption) <| yTs rfl (by assumption) <| yTs rfl (by assumption) <| yTs rfl (by assumption) <| zy (.pickFp rfl (by assumption) rfl) <| zv rfl rfl <| zv rfl rfl <| zv rfl rfl <| zv rfl rfl <| zv rfl rfl <| zy (.pickF rfl rfl) <| zv rfl rfl ?_
   refine zv rfl rfl <| zv rfl rfl <| zv rfl rfl <| zv rfl rfl <| zy (.pickF rfl rfl) <| zv rfl rfl <| zv rfl rfl <| zv rfl rfl <| zv rfl rfl <| zv rfl rfl <| zy (.pickF rfl rfl) <| zv rfl rfl ?_
   refine zv rfl rfl <| zv rfl rfl <| zv rfl rfl <| zv rfl rfl <| zy (.pickF rfl rfl) <| zd <| zr <| yR (.t rfl .nil) ?_ (.of (.d (.d .rf)))
   rotate_left
  all_goals (simp only [mkRet]; rw [Pkt.dec])
  focus
    have e : (x.p.reply == y.p.reply) = true := by rcases h1 with ⟨h, h'⟩ | ⟨h, h'⟩ <;> rw [h, h'] <;> rfl
    rw [decide_eq_true h2, e, decide_eq_true h3, decide_eq_true h4, decide_eq_true h5]; rfl
  all_goals first
    | rw [decide_eq_false h5]; simp; done
    | rw [decide_eq_false h4]; simp; done
    | rw [decide_eq_false h3]; simp; done
    | rw [decide_eq_false h2]; simp; done
    | (have e : (x.p.reply == y.p.reply) = false := by rcases h1 with ⟨h, h'⟩ | ⟨h, h'⟩ <;> rw [h, h'] <;> rfl
       rw [e]; simp; done)
theorem r4Reply_no (x : PktE) (y : AnsE) {F : List Assn} [H1 : HS F (.slice x.a x.p.ans.value.length x.c) UInt8 byteC 1 x.c x.p.ans.value] [H2 : HS F (.slice y.a y.x.value.length y.c) UInt8 byteC 1 y.c y.x.value] (h : ¬ (x.p.ok ∧ x.p.reply = false ∧ y.x.ok)) :
    Meets Try.prog 63 [pkv x, anv y] F (Det (.tuple #[pkv (p0 zPkt), i64 40]) F) := by
  refine Meets.intro b63 k63 (by simp) ?_
  focus
   refine zs <| yB rfl fun b2 => yB rfl fun b3 => yN fun b4 => zc rfl <| zw rfl rfl <| yD rfl rfl (.of .rf) (r4Check_fn _) <| zj rfl rfl rfl <| zn rfl (fun h1 => ?_) (fun h1 => ?_)
   refine zf 0 rfl rfl <| yF rfl (by assumption) <| zl rfl rfl <| zy (.pickFp rfl (by assumption) rfl) <| zn rfl (fun h2 => ?_) (fun h2 => ?_)
   refine zw rfl rfl <| yF rfl (by assumption) <| yD rfl rfl (.of .rf) (r4CheckAnswer_fn _) <| yF rfl (by assumption) <| zj rfl rfl rfl <| zy (.pickFp rfl (by assumption) rfl) <| zd <| zq <| zi rfl (fun h3 => ?_) (fun h3 => ?_)
   refine zs <| zg rfl <| yW rfl rfl rfl rfl rfl <| zc rfl <| zd <| zr <| yR (.w rfl rfl (.t rfl .nil)) rfl (.of (.d (.d (.d .rf))))
   refine zk <| zs <| zfw [_, _] rfl rfl rfl rfl <| zfw [_, _] rfl rfl rfl rfl <| zfl rfl rfl rfl <| zw rfl rfl <| zg rfl <| yW rfl rfl rfl rfl rfl <| zc rfl <| zd <| zr <| yR (.w rfl rfl (.t rfl .nil)) ?_ (.of (.d (.d (.d .rf))))
   rotate_left
   refine yFs rfl (by assumption) <| yFs rfl (by assumption) <| zy (.pickTp rfl (by assumption) rfl) <| zd <| zq <| zt rfl <| zs <| zg rfl <| yW rfl rfl rfl rfl rfl <| zc rfl <| zd <| zr ?_
   refine yR (.w rfl rfl (.t rfl .nil)) rfl (.of (.d (.d (.d .rf))))
   refine yFs rfl (by assumption) <| zy (.pickTp rfl (by assumption) rfl) <| zv rfl rfl <| zv rfl rfl <| zv rfl rfl <| zy (.pickT rfl rfl) <| zd <| zq <| zt rfl <| zs <| zg rfl <| yW rfl rfl rfl rfl rfl ?_
   refine zc rfl <| zd <| zr <| yR (.w rfl rfl (.t rfl .nil)) rfl (.of (.d (.d (.d .rf))))
  all_goals first | exact absurd ⟨h1, h2, h3⟩ h | skip
theorem r4Reply_ok (x : PktE) (y : AnsE) {F : List Assn} [H1 : HS F (.slice x.a x.p.ans.value.length x.c) UInt8 byteC 1 x.c x.p.ans.value] [H2 : HS F (.slice y.a y.x.value.length y.c) UInt8 byteC 1 y.c y.x.value] (h1 : x.p.ok) (h2 : x.p.reply = false) (h3 : y.x.ok) :
    Meets Try.prog 63 [pkv x, anv y] F (Det (.tuple #[pkv ⟨mkRep x.p y.x, y.a, y.c⟩, i64 0]) F) := by
  refine Meets.intro b63 k63 (by simp) ?_
  focus
   refine zs <| yB rfl fun b2 => yB rfl fun b3 => yN fun b4 => zc rfl <| zw rfl rfl <| yD rfl rfl (.of .rf) (r4Check_fn _) <| zj rfl rfl rfl <| yF rfl (by assumption) <| zf 0 rfl rfl <| yF rfl (by assumption) <| zl rfl rfl ?_
   refine zy (.pickFp rfl (by assumption) rfl) <| yF rfl (by assumption) <| zw rfl rfl <| yF rfl (by assumption) <| yD rfl rfl (.of .rf) (r4CheckAnswer_fn _) <| yF rfl (by assumption) <| zj rfl rfl rfl <| zy (.pickFp rfl (by assumption) rfl) <| zd <| zq <| zi rfl (fun h4 => ?_) (fun h4 => ?_)
   contradiction
   refine zk <| zs <| zfw [_, _] rfl rfl rfl rfl <| zfw [_, _] rfl rfl rfl rfl <| zfl rfl rfl rfl <| zw rfl rfl <| zg rfl <| yW rfl rfl rfl rfl rfl <| zc rfl <| zd <| zr <| yR (.w rfl rfl (.t rfl .nil)) rfl (.of (.d (.d (.d .rf))))
end Go.Proofs.Ytienlpaehgdpaaa
