/- Layer 8: which records are alike; a run that is known. Conditions: none. -/
import Derived.Test.YtmeajliiloaegaaGreatKc
set_option linter.unusedSimpArgs false
set_option linter.unusedVariables false
set_option maxRecDepth 100000
set_option maxHeartbeats 2000000
namespace Go.Proofs.YtmeajliiloaegaaGreat
open Go Go.SL
attribute [local irreducible] pc rc SlT Me Mt It pt ro pur ex sep old Meets
attribute [local irreducible] LockP RecP RecsA LinksP LinksH

theorem slEqO_fn {a1 a2 : Option Addr} {c1 c2 : Nat} {xs ys : List Owner} {F : List Assn} [H1 : HS F (.slice a1 xs.length c1) Owner ownerC 2 c1 xs] [H2 : HS F (.slice a2 ys.length c2) Owner ownerC 2 c2 ys] :
    Meets Tryz.prog 96 [.slice a1 xs.length c1, .slice a2 ys.length c2] F (Det (.bool (decide (xs = ys))) F) := by
  refine Meets.intro b96 k96 (by simp) ?_
  refine J.sl H1 (fun hC hL _ => ?_)
  focus
   refine zs <| zc rfl <| zc rfl <| zc rfl <| zj rfl rfl rfl <| zd <| zq <| zi rfl (fun h1 => ?_) (fun h1 => ?_)
   refine zs <| zc rfl <| zd <| zr <| yR (.t rfl .nil) ?_ (.of .rf)
   rotate_left
   refine zk <| zs <| zc rfl <| zc rfl <| zd <| zq <| zb ?_
   rotate_left
  · simp only [mkRet]; rw [decide_eq_false (ne_of_len (by omega))]
  refine J.lp (ι := Nat) (fun k => k ≤ xs.length ∧ ∀ j, j < k → nth xs j = nth ys j) (fun k => [(13, i64 k)]) (fun _ => F) (fun k => xs.length - k) 0 ⟨by omega, fun j hj => by omega⟩ (by exact subxR rfl) (Up.refl _) (fun k hk => ?_)
  obtain ⟨hk, hn⟩ := hk
  focus
   refine zs <| zj rfl rfl rfl <| zd <| zq <| zi rfl (fun h2 => ?_) (fun h2 => ?_)
   refine zk <| zq <| zb <| zs <| zy (.iC rfl rfl (by omega)) <| zy (.LE rfl (by omega)) <| zy (.iC rfl rfl (by omega)) <| zy (.LE rfl (by omega)) <| zy (.neT rfl rfl) <| zd <| zi rfl (fun h3 => ?_) (fun h3 => ?_)
   refine zs <| zc rfl <| zd <| zr <| yR (.t rfl .nil) ?_ (.of .rf)
   rotate_left
   refine zk <| zo <| zy (.addN rfl rfl (by omega)) <| zd <| ⟨_, ?_, (by omega), (subxR rfl), (.of .rf)⟩
   rotate_left
   refine zx <| zs <| zc rfl <| zd <| zr <| yR (.t rfl .nil) ?_ (.of .rf)
   rotate_left
  · simp only [mkRet]; rw [decide_eq_false (ne_of_nth (by assumption))]
  · exact ⟨by omega, all_lt_succ hn (by assumption)⟩
  · simp only [mkRet]; rw [decide_eq_true (eq_of_nth (by omega) fun j hj => hn j (by omega))]

theorem lnSame_fn {a1 a2 : Option Addr} {c1 c2 : Nat} {s t : RecS} {F : List Assn} [H1 : HS F (.slice a1 s.waits.length c1) Owner ownerC 2 c1 s.waits] [H2 : HS F (.slice a2 t.waits.length c2) Owner ownerC 2 c2 t.waits] :
    Meets Tryz.prog 75 [rsv s a1 c1, rsv t a2 c2] F (Det (.bool (decide (s = t))) F) := by
  refine Meets.intro b75 k75 (by simp) ?_
  focus
   refine zs <| yB rfl fun b2 => yB rfl fun b3 => zc rfl <| zfw [_, _] rfl rfl rfl rfl <| zfw [_, _] rfl rfl rfl rfl <| zy (.eqs rfl rfl (by repeat (first | exact EqC.nil | apply EqC.i | apply EqC.b | apply EqC.s))) ?_
   refine zp rfl (fun h1 => ?_) (fun h1 => ?_)
   refine zf 2 rfl rfl <| yT rfl (by assumption) <| zy (.Lp (us := [_, _, _, _, _]) rfl (Nat.le_of_ble_eq_true rfl) rfl) <| yT rfl (by assumption) <| zf 2 rfl rfl <| yT rfl (by assumption) <| zy (.Lp (us := [_, _, _, _, _]) rfl (Nat.le_of_ble_eq_true rfl) rfl) <| yT rfl (by assumption) <| zy (.eqs rfl rfl (by repeat (first | exact EqC.nil | apply EqC.i | apply EqC.b | apply EqC.s))) ?_
   refine zy (.pickTp rfl (by assumption) rfl) <| zp rfl (fun h2 => ?_) (fun h2 => ?_)
   refine zf 7 rfl rfl <| yT rfl (by assumption) <| zy (.Lp (us := [_, _, _, _, _]) rfl (Nat.le_of_ble_eq_true rfl) rfl) <| yT rfl (by assumption) <| zf 7 rfl rfl <| yT rfl (by assumption) <| zy (.Lp (us := [_, _, _, _, _]) rfl (Nat.le_of_ble_eq_true rfl) rfl) <| yT rfl (by assumption) <| zy (.eqs rfl rfl (by repeat (first | exact EqC.nil | apply EqC.i | apply EqC.b | apply EqC.s))) ?_
   refine zy (.pickTp rfl (by assumption) rfl) <| zp rfl (fun h3 => ?_) (fun h3 => ?_)
   refine zf 12 rfl rfl <| yT rfl (by assumption) <| zl rfl rfl <| yT rfl (by assumption) <| zf 12 rfl rfl <| yT rfl (by assumption) <| zl rfl rfl <| yT rfl (by assumption) <| zc rfl <| zy (.pickTp rfl (by assumption) rfl) <| zp rfl (fun h4 => ?_) (fun h4 => ?_)
   refine zf 13 rfl rfl <| yT rfl (by assumption) <| zy (.Lp (us := [_, _]) rfl (Nat.le_of_ble_eq_true rfl) rfl) <| yT rfl (by assumption) <| zf 13 rfl rfl <| yT rfl (by assumption) <| zy (.Lp (us := [_, _]) rfl (Nat.le_of_ble_eq_true rfl) rfl) <| yT rfl (by assumption) <| zy (.eqs rfl rfl (by repeat (first | exact EqC.nil | apply EqC.i | apply EqC.b | apply EqC.s))) ?_
   refine zy (.pickTp rfl (by assumption) rfl) <| zp rfl (fun h5 => ?_) (fun h5 => ?_)
   refine zf 15 rfl rfl <| yT rfl (by assumption) <| zl rfl rfl <| yT rfl (by assumption) <| zf 15 rfl rfl <| yT rfl (by assumption) <| zl rfl rfl <| yT rfl (by assumption) <| yD rfl rfl (.of .rf) slEqO_fn <| zy (.pickTp rfl (by assumption) rfl) <| zd <| zr ?_
   refine yR (.t rfl .nil) ?_ (.of (.d (.d .rf)))
   rotate_left
   refine yTs rfl (by assumption) <| yTs rfl (by assumption) <| yTs rfl (by assumption) <| yTs rfl (by assumption) <| zy (.pickFp rfl (by assumption) rfl) <| zd <| zr <| yR (.t rfl .nil) ?_ (.of (.d (.d .rf)))
   rotate_left
   refine yTs rfl (by assumption) <| yTs rfl (by assumption) <| yTs rfl (by assumption) <| yTs rfl (by assumption) <| zy (.pickFp rfl (by assumption) rfl) <| zv rfl rfl <| zv rfl rfl <| zv rfl rfl <| zv rfl rfl <| zv rfl rfl <| zy (.pickF rfl rfl) <| zd ?_
   refine zr <| yR (.t rfl .nil) ?_ (.of (.d (.d .rf)))
   rotate_left
   refine yTs rfl (by assumption) <| yTs rfl (by assumption) <| yTs rfl (by assumption) <| yTs rfl (by assumption) <| zy (.pickFp rfl (by assumption) rfl) <| zv rfl rfl <| zv rfl rfl <| zv rfl rfl <| zv rfl rfl <| zv rfl rfl <| zy (.pickF rfl rfl) <| zv rfl rfl ?_
   refine zv rfl rfl <| zv rfl rfl <| zv rfl rfl <| zv rfl rfl <| zy (.pickF rfl rfl) <| zd <| zr <| yR (.t rfl .nil) ?_ (.of (.d (.d .rf)))
   rotate_left
   refine yTs rfl (by assumption) <| yTs rfl (by assumption) <| yTs rfl (by assumption) <| yTs rfl (by assumption) <| zy (.pickFp rfl (by assumption) rfl) <| zv rfl rfl <| zv rfl rfl <| zv rfl rfl <| zv rfl rfl <| zv rfl rfl <| zy (.pickF rfl rfl) <| zv rfl rfl ?_
   refine zv rfl rfl <| zv rfl rfl <| zv rfl rfl <| zv rfl rfl <| zy (.pickF rfl rfl) <| zv rfl rfl <| zv rfl rfl <| zv rfl rfl <| zv rfl rfl <| zv rfl rfl <| zy (.pickF rfl rfl) <| zd ?_
   refine zr <| yR (.t rfl .nil) ?_ (.of (.d (.d .rf)))
   rotate_left
   refine yTs rfl (by assumption) <| yTs rfl (by assumption) <| yTs rfl (by assumption) <| yTs rfl (by assumption) <| zy (.pickFp rfl (by assumption) rfl) <| zv rfl rfl <| zv rfl rfl <| zv rfl rfl <| zv rfl rfl <| zv rfl rfl <| zy (.pickF rfl rfl) <| zv rfl rfl ?_
   refine zv rfl rfl <| zv rfl rfl <| zv rfl rfl <| zv rfl rfl <| zy (.pickF rfl rfl) <| zv rfl rfl <| zv rfl rfl <| zv rfl rfl <| zv rfl rfl <| zv rfl rfl <| zy (.pickF rfl rfl) <| zv rfl rfl ?_
   refine zv rfl rfl <| zv rfl rfl <| zv rfl rfl <| zv rfl rfl <| zy (.pickF rfl rfl) <| zd <| zr <| yR (.t rfl .nil) ?_ (.of (.d (.d .rf)))
   rotate_left
  · have hh : s.held = t.held := by rcases h4 with ⟨h, h'⟩ | ⟨h, h'⟩ <;> rw [h, h']
    have e : (s = t) ↔ (s.waits = t.waits) := ⟨fun e => by rw [e], fun e => by
      cases s; cases t; simp only at h1 h2 h3 h5 hh e; subst h1 h2 h3 h5 hh e; rfl⟩
    simp only [mkRet, e]
  · simp only [mkRet]; rw [decide_eq_false (fun e => h5 (by rw [e]))]
  · simp only [mkRet]; rw [decide_eq_false (fun e => by rw [e] at h4; rcases h4 with ⟨h, h'⟩ | ⟨h, h'⟩ <;> rw [h] at h' <;> cases h')]
  · simp only [mkRet]; rw [decide_eq_false (fun e => h3 (by rw [e]))]
  · simp only [mkRet]; rw [decide_eq_false (fun e => h2 (by rw [e]))]
  · simp only [mkRet]; rw [decide_eq_false (fun e => h1 (by rw [e]))]










end Go.Proofs.YtmeajliiloaegaaGreat
