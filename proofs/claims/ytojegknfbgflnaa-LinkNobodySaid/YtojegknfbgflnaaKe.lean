/- Layer 8: which records are alike; a run that is known. Conditions: none. -/
import Derived.Test.YtojegknfbgflnaaKd
set_option linter.unusedSimpArgs false
set_option linter.unusedVariables false
set_option maxRecDepth 100000
set_option maxHeartbeats 2000000
namespace Go.Proofs.Ytojegknfbgflnaa
open Go Go.SL
attribute [local irreducible] pc rc SlT Me Mt It pt ro pur ex sep old Meets
attribute [local irreducible] LockP RecP RecsA LinksP LinksH

theorem slEqO_fn {a1 a2 : Option Addr} {c1 c2 : Nat} {xs ys : List Owner} {F : List Assn} [H1 : HS F (.slice a1 xs.length c1) Owner ownerC 2 c1 xs] [H2 : HS F (.slice a2 ys.length c2) Owner ownerC 2 c2 ys] :
    Meets Try.prog 57 [.slice a1 xs.length c1, .slice a2 ys.length c2] F (Det (.bool (decide (xs = ys))) F) := by
  refine Meets.intro b57 k57 (by simp) ?_
  refine J.sl H1 (fun hC hL _ => ?_)
  focus
    refine J.so ?_
    refine JT.c rfl ?_
    refine JT.done ?_
    refine J.seq ?_
    refine J.so ?_
    iterate 4 refine JT.c rfl ?_
    refine JT.y rfl (Ev.int rfl rfl rfl) ?_
    refine JT.done ?_
    refine J.c rfl (fun h1 => ?_) (fun h1 => ?_)
    refine J.so ?_
    refine JT.c rfl ?_
    refine JT.done ?_
    refine J.ret ?_
    refine seqQ_r ?_
    refine retQD (.t rfl .nil) ?_ (Up.of (Imp.refl _))
    rotate_left
    refine J.skip ?_
    refine seqQ_n ?_
    refine J.seq ?_
    refine J.so ?_
    iterate 3 refine JT.c rfl ?_
    refine JT.done ?_
    refine J.block ?_
    rotate_left
  · simp only [mkRet]; rw [decide_eq_false (ne_of_len (by omega))]
  refine J.lp (ι := Nat) (fun k => k ≤ xs.length ∧ ∀ j, j < k → nth xs j = nth ys j) (fun k => [(13, i64 k)]) (fun _ => F) (fun k => xs.length - k) 0 ⟨by omega, fun j hj => by omega⟩ (by (repeat (first | exact subx_nil | apply subx_dup rfl | apply subx_cons rfl))) (Up.refl _) (fun k hk => ?_)
  obtain ⟨hk, hn⟩ := hk
  focus
    refine J.so ?_
    refine JT.y rfl (Ev.int rfl rfl rfl) ?_
    refine JT.done ?_
    refine J.seq ?_
    refine J.c rfl (fun h2 => ?_) (fun h2 => ?_)
    refine J.skip ?_
    refine seqQ_n ?_
    refine J.seq ?_
    refine J.block ?_
    refine J.so ?_
    iterate 2 refine JT.c rfl ?_
    refine JT.done ?_
    refine J.so ?_
    iterate 2 refine JT.c rfl ?_
    refine JT.y rfl (Ev.iC rfl rfl (by omega)) ?_
    refine JT.y rfl (Ev.LE rfl (by omega)) ?_
    iterate 2 refine JT.c rfl ?_
    refine JT.y rfl (Ev.iC rfl rfl (by omega)) ?_
    refine JT.y rfl (Ev.LE rfl (by omega)) ?_
    refine JT.y rfl (Ev.neT rfl rfl) ?_
    refine JT.done ?_
    refine J.c rfl (fun h3 => ?_) (fun h3 => ?_)
    refine J.so ?_
    refine JT.c rfl ?_
    refine JT.done ?_
    refine J.ret ?_
    refine blockQ_r ?_
    iterate 2 refine seqQ_r ?_
    refine blockQ_r ?_
    refine seqQ_r ?_
    refine retQD (.t rfl .nil) ?_ (Up.of (Imp.refl _))
    rotate_left
    refine J.skip ?_
    refine blockQ_n ?_
    refine seqQ_n ?_
    refine J.ops ?_
    refine JT.y rfl (Ev.addN rfl rfl (by omega)) ?_
    refine JT.c rfl ?_
    refine JT.done ?_
    refine seqQ_n ?_
    refine ⟨_, ?_, (by omega), (subx_cons rfl (subx_dup rfl (subx_cons rfl (subx_cons rfl (subx_cons rfl (subx_cons rfl (subx_cons rfl (subx_cons rfl (subx_cons rfl (subx_cons rfl (subx_cons rfl (subx_cons rfl subx_nil)))))))))))), (Up.of (Imp.refl _))⟩
    rotate_left
    refine J.exit ?_
    iterate 2 refine seqQ_x ?_
    refine blockQ_hit ?_
    refine seqQ_n ?_
    refine J.so ?_
    refine JT.c rfl ?_
    refine JT.done ?_
    refine J.ret ?_
    refine retQD (.t rfl .nil) ?_ (Up.of (Imp.refl _))
    rotate_left
  · simp only [mkRet]; rw [decide_eq_false (ne_of_nth (by assumption))]
  · exact ⟨by omega, all_lt_succ hn (by assumption)⟩
  · simp only [mkRet]; rw [decide_eq_true (eq_of_nth (by omega) fun j hj => hn j (by omega))]

theorem lnSame_fn {a1 a2 : Option Addr} {c1 c2 : Nat} {s t : RecS} {F : List Assn} [H1 : HS F (.slice a1 s.waits.length c1) Owner ownerC 2 c1 s.waits] [H2 : HS F (.slice a2 t.waits.length c2) Owner ownerC 2 c2 t.waits] :
    Meets Try.prog 27 [rsv s a1 c1, rsv t a2 c2] F (Det (.bool (decide (s = t))) F) := by
  refine Meets.intro b27 k27 (by simp) ?_
  focus
    refine J.so ?_
    refine JT.box rfl (fun b2 => ?_)
    refine JT.box rfl (fun b3 => ?_)
    refine JT.c rfl ?_
    refine JT.done ?_
    refine J.so ?_
    refine JT.y rfl (Ev.fa' 0 rfl rfl) ?_
    refine JT.y rfl (Ev.Lp (us := [_, _]) rfl (Nat.le_of_ble_eq_true rfl) rfl) ?_
    refine JT.y rfl (Ev.fa' 0 rfl rfl) ?_
    refine JT.y rfl (Ev.Lp (us := [_, _]) rfl (Nat.le_of_ble_eq_true rfl) rfl) ?_
    refine JT.y rfl (Ev.eqs rfl rfl (by repeat (first | exact EqC.nil | apply EqC.i | apply EqC.b | apply EqC.s))) ?_
    refine JT.c rfl ?_
    refine JT.gp rfl (fun h1 => ?_) (fun h1 => ?_)
    refine JT.y rfl (Ev.fa' 2 rfl rfl) ?_
    refine JT.gT rfl (by first | assumption | omega) ?_
    refine JT.y rfl (Ev.Lp (us := [_, _, _, _, _]) rfl (Nat.le_of_ble_eq_true rfl) rfl) ?_
    refine JT.gT rfl (by first | assumption | omega) ?_
    refine JT.y rfl (Ev.fa' 2 rfl rfl) ?_
    refine JT.gT rfl (by first | assumption | omega) ?_
    refine JT.y rfl (Ev.Lp (us := [_, _, _, _, _]) rfl (Nat.le_of_ble_eq_true rfl) rfl) ?_
    refine JT.gT rfl (by first | assumption | omega) ?_
    refine JT.y rfl (Ev.eqs rfl rfl (by repeat (first | exact EqC.nil | apply EqC.i | apply EqC.b | apply EqC.s))) ?_
    refine JT.y rfl (Ev.pickTp rfl (by first | assumption | omega) rfl) ?_
    refine JT.c rfl ?_
    refine JT.gp rfl (fun h2 => ?_) (fun h2 => ?_)
    refine JT.y rfl (Ev.fa' 7 rfl rfl) ?_
    refine JT.gT rfl (by first | assumption | omega) ?_
    refine JT.y rfl (Ev.Lp (us := [_, _, _, _, _]) rfl (Nat.le_of_ble_eq_true rfl) rfl) ?_
    refine JT.gT rfl (by first | assumption | omega) ?_
    refine JT.y rfl (Ev.fa' 7 rfl rfl) ?_
    refine JT.gT rfl (by first | assumption | omega) ?_
    refine JT.y rfl (Ev.Lp (us := [_, _, _, _, _]) rfl (Nat.le_of_ble_eq_true rfl) rfl) ?_
    refine JT.gT rfl (by first | assumption | omega) ?_
    refine JT.y rfl (Ev.eqs rfl rfl (by repeat (first | exact EqC.nil | apply EqC.i | apply EqC.b | apply EqC.s))) ?_
    refine JT.y rfl (Ev.pickTp rfl (by first | assumption | omega) rfl) ?_
    refine JT.c rfl ?_
    refine JT.gp rfl (fun h3 => ?_) (fun h3 => ?_)
    refine JT.y rfl (Ev.fa' 12 rfl rfl) ?_
    refine JT.gT rfl (by first | assumption | omega) ?_
    refine JT.y rfl (Ev.L rfl rfl) ?_
    refine JT.gT rfl (by first | assumption | omega) ?_
    refine JT.y rfl (Ev.fa' 12 rfl rfl) ?_
    refine JT.gT rfl (by first | assumption | omega) ?_
    refine JT.y rfl (Ev.L rfl rfl) ?_
    refine JT.gT rfl (by first | assumption | omega) ?_
    refine JT.c rfl ?_
    refine JT.y rfl (Ev.pickTp rfl (by first | assumption | omega) rfl) ?_
    refine JT.c rfl ?_
    refine JT.gp rfl (fun h4 => ?_) (fun h4 => ?_)
    refine JT.y rfl (Ev.fa' 13 rfl rfl) ?_
    refine JT.gT rfl (by first | assumption | omega) ?_
    refine JT.y rfl (Ev.Lp (us := [_, _]) rfl (Nat.le_of_ble_eq_true rfl) rfl) ?_
    refine JT.gT rfl (by first | assumption | omega) ?_
    refine JT.y rfl (Ev.fa' 13 rfl rfl) ?_
    refine JT.gT rfl (by first | assumption | omega) ?_
    refine JT.y rfl (Ev.Lp (us := [_, _]) rfl (Nat.le_of_ble_eq_true rfl) rfl) ?_
    refine JT.gT rfl (by first | assumption | omega) ?_
    refine JT.y rfl (Ev.eqs rfl rfl (by repeat (first | exact EqC.nil | apply EqC.i | apply EqC.b | apply EqC.s))) ?_
    refine JT.y rfl (Ev.pickTp rfl (by first | assumption | omega) rfl) ?_
    refine JT.c rfl ?_
    refine JT.gp rfl (fun h5 => ?_) (fun h5 => ?_)
    refine JT.y rfl (Ev.fa' 15 rfl rfl) ?_
    refine JT.gT rfl (by first | assumption | omega) ?_
    refine JT.y rfl (Ev.L rfl rfl) ?_
    refine JT.gT rfl (by first | assumption | omega) ?_
    refine JT.y rfl (Ev.fa' 15 rfl rfl) ?_
    refine JT.gT rfl (by first | assumption | omega) ?_
    refine JT.y rfl (Ev.L rfl rfl) ?_
    refine JT.gT rfl (by first | assumption | omega) ?_
    refine JT.callD rfl rfl (Up.of (Imp.refl _)) slEqO_fn ?_
    refine JT.y rfl (Ev.pickTp rfl (by first | assumption | omega) rfl) ?_
    refine JT.c rfl ?_
    refine JT.done ?_
    refine J.ret ?_
    refine retQD (.t rfl .nil) ?_ (Up.of (.dropT (.dropT (Imp.refl _))))
    rotate_left
    iterate 4 refine JT.gTs rfl (by first | assumption | omega) ?_
    refine JT.y rfl (Ev.pickFp rfl (by first | assumption | omega) rfl) ?_
    refine JT.c rfl ?_
    refine JT.done ?_
    refine J.ret ?_
    refine retQD (.t rfl .nil) ?_ (Up.of (.dropT (.dropT (Imp.refl _))))
    rotate_left
    iterate 4 refine JT.gTs rfl (by first | assumption | omega) ?_
    refine JT.y rfl (Ev.pickFp rfl (by first | assumption | omega) rfl) ?_
    refine JT.c rfl ?_
    iterate 5 refine JT.skip rfl rfl ?_
    refine JT.y rfl (Ev.pickF rfl rfl) ?_
    refine JT.c rfl ?_
    refine JT.done ?_
    refine J.ret ?_
    refine retQD (.t rfl .nil) ?_ (Up.of (.dropT (.dropT (Imp.refl _))))
    rotate_left
    iterate 4 refine JT.gTs rfl (by first | assumption | omega) ?_
    refine JT.y rfl (Ev.pickFp rfl (by first | assumption | omega) rfl) ?_
    refine JT.c rfl ?_
    iterate 5 refine JT.skip rfl rfl ?_
    refine JT.y rfl (Ev.pickF rfl rfl) ?_
    refine JT.c rfl ?_
    iterate 5 refine JT.skip rfl rfl ?_
    refine JT.y rfl (Ev.pickF rfl rfl) ?_
    refine JT.c rfl ?_
    refine JT.done ?_
    refine J.ret ?_
    refine retQD (.t rfl .nil) ?_ (Up.of (.dropT (.dropT (Imp.refl _))))
    rotate_left
    iterate 4 refine JT.gTs rfl (by first | assumption | omega) ?_
    refine JT.y rfl (Ev.pickFp rfl (by first | assumption | omega) rfl) ?_
    refine JT.c rfl ?_
    iterate 5 refine JT.skip rfl rfl ?_
    refine JT.y rfl (Ev.pickF rfl rfl) ?_
    refine JT.c rfl ?_
    iterate 5 refine JT.skip rfl rfl ?_
    refine JT.y rfl (Ev.pickF rfl rfl) ?_
    refine JT.c rfl ?_
    iterate 5 refine JT.skip rfl rfl ?_
    refine JT.y rfl (Ev.pickF rfl rfl) ?_
    refine JT.c rfl ?_
    refine JT.done ?_
    refine J.ret ?_
    refine retQD (.t rfl .nil) ?_ (Up.of (.dropT (.dropT (Imp.refl _))))
    rotate_left
    iterate 4 refine JT.gTs rfl (by first | assumption | omega) ?_
    refine JT.y rfl (Ev.pickFp rfl (by first | assumption | omega) rfl) ?_
    refine JT.c rfl ?_
    iterate 5 refine JT.skip rfl rfl ?_
    refine JT.y rfl (Ev.pickF rfl rfl) ?_
    refine JT.c rfl ?_
    iterate 5 refine JT.skip rfl rfl ?_
    refine JT.y rfl (Ev.pickF rfl rfl) ?_
    refine JT.c rfl ?_
    iterate 5 refine JT.skip rfl rfl ?_
    refine JT.y rfl (Ev.pickF rfl rfl) ?_
    refine JT.c rfl ?_
    iterate 5 refine JT.skip rfl rfl ?_
    refine JT.y rfl (Ev.pickF rfl rfl) ?_
    refine JT.c rfl ?_
    refine JT.done ?_
    refine J.ret ?_
    refine retQD (.t rfl .nil) ?_ (Up.of (.dropT (.dropT (Imp.refl _))))
    rotate_left
  · have hh : s.held = t.held := by rcases h4 with ⟨h, h'⟩ | ⟨h, h'⟩ <;> rw [h, h']
    have e : (s = t) ↔ (s.waits = t.waits) := ⟨fun e => by rw [e], fun e => by
      cases s; cases t; simp only at h1 h2 h3 h5 hh e; subst h1 h2 h3 h5 hh e; rfl⟩
    simp only [mkRet, e]
  · simp only [mkRet]; rw [decide_eq_false (fun e => h5 (by rw [e]))]
  · simp only [mkRet]; rw [decide_eq_false (fun e => by rw [e] at h4; rcases h4 with ⟨h, h'⟩ | ⟨h, h'⟩ <;> rw [h] at h' <;> cases h')]
  · simp only [mkRet]; rw [decide_eq_false (fun e => h3 (by rw [e]))]
  · simp only [mkRet]; rw [decide_eq_false (fun e => h2 (by rw [e]))]
  · simp only [mkRet]; rw [decide_eq_false (fun e => h1 (by rw [e]))]

theorem l08head_fn (h : Int) (F : List Assn) : Meets Try.prog 55 [i64 h] F (Det (rv ⟨0, ⟨1, 0⟩, ⟨h, 0⟩⟩) F) := by
  refine Meets.intro b55 k55 (by simp) ?_
  focus
    refine J.so ?_
    refine JT.new (fun b2 => ?_)
    refine JT.done ?_
    refine J.so ?_
    refine JT.y rfl (Ev.agg (by repeat (first | exact Cells.nil | apply Cells.z | (apply Cells.cl; rfl; rfl; rfl)))) ?_
    refine JT.c rfl ?_
    iterate 2 refine JT.y rfl (Ev.agg (by repeat (first | exact Cells.nil | apply Cells.z | (apply Cells.cl; rfl; rfl; rfl)))) ?_
    refine JT.w rfl rfl rfl rfl rfl ?_
    refine JT.done ?_
    refine J.ret ?_
    refine retQD (.w rfl rfl .nil) rfl (Up.of (.dropT (Imp.refl _)))
theorem l08tail_fn (h : Int) (F : List Assn) : Meets Try.prog 56 [i64 h] F (Det (rv ⟨1, ⟨3, 0⟩, ⟨h, 0⟩⟩) F) := by
  refine Meets.intro b56 k56 (by simp) ?_
  focus
    refine J.so ?_
    refine JT.new (fun b2 => ?_)
    refine JT.done ?_
    refine J.so ?_
    refine JT.y rfl (Ev.agg (by repeat (first | exact Cells.nil | apply Cells.z | (apply Cells.cl; rfl; rfl; rfl)))) ?_
    refine JT.c rfl ?_
    iterate 2 refine JT.y rfl (Ev.agg (by repeat (first | exact Cells.nil | apply Cells.z | (apply Cells.cl; rfl; rfl; rfl)))) ?_
    refine JT.w rfl rfl rfl rfl rfl ?_
    refine JT.done ?_
    refine J.ret ?_
    refine retQD (.w rfl rfl .nil) rfl (Up.of (.dropT (Imp.refl _)))
theorem l08awake_fn (F : List Assn) : Meets Try.prog 26 [] F (Det (.bool true) F) := by
  refine Meets.intro b26 k26 (by simp) ?_
  focus
    refine J.so ?_
    refine JT.c rfl ?_
    refine JT.done ?_
    refine J.so ?_
    iterate 2 refine JT.y rfl (Ev.agg (by repeat (first | exact Cells.nil | apply Cells.z | (apply Cells.cl; rfl; rfl; rfl)))) ?_
    refine JT.new (fun b1 => ?_)
    refine JT.new (fun b2 => ?_)
    iterate 2 refine JT.w rfl rfl rfl rfl rfl ?_
    refine JT.done ?_
    refine J.so ?_
    refine JT.y rfl (Ev.agg (by repeat (first | exact Cells.nil | apply Cells.z | (apply Cells.cl; rfl; rfl; rfl)))) ?_
    refine JT.new (fun b3 => ?_)
    refine JT.w rfl rfl rfl rfl rfl ?_
    refine JT.done ?_
    refine J.so ?_
    refine JT.callD rfl rfl (Up.of (Imp.refl _)) (r2At_fn _ _) ?_
    iterate 2 refine JT.y rfl (Ev.agg (by repeat (first | exact Cells.nil | apply Cells.z | (apply Cells.cl; rfl; rfl; rfl)))) ?_
    refine JT.callS rfl rfl (Up.of (Imp.refl _)) (lnNew_ok ⟨_, ⟨_, _⟩, ⟨_, _⟩⟩ _ (by first | assumption | omega | decide | exact rfl) (by first | assumption | omega | decide | exact rfl)) (fun x25 _ => ?_)
    iterate 5 refine JT.c rfl ?_
    refine JT.done ?_
    refine J.seq ?_
    refine J.so ?_
    refine JT.c rfl ?_
    refine JT.y rfl (Ev.cneF rfl rfl (by decide)) ?_
    refine JT.c rfl ?_
    refine JT.gk rfl ?_
    refine JT.c rfl ?_
    refine JT.gk rfl ?_
    refine JT.c rfl ?_
    refine JT.y rfl (Ev.pickF rfl rfl) ?_
    refine JT.done ?_
    refine J.condF rfl ?_
    refine J.skip ?_
    refine seqQ_n ?_
    refine J.so ?_
    refine JT.c rfl ?_
    iterate 2 refine JT.y rfl (Ev.Lw rfl rfl) ?_
    refine JT.callD rfl rfl (Up.of (Imp.refl _)) (l08head_fn _ _) ?_
    iterate 2 refine JT.yA rfl (Ev.Lw rfl rfl) ?_
    refine JT.callD rfl rfl (Up.of (Imp.refl _)) (l08tail_fn _ _) ?_
    iterate 2 refine JT.yA rfl (Ev.Lw rfl rfl) ?_
    refine JT.callD rfl rfl (Up.of (.take .here (Imp.refl _))) (lnPut_fn _ ⟨⟨_, ⟨_, _⟩, ⟨_, _⟩⟩, _⟩ ⟨_, _⟩ ⟨_, ⟨_, _⟩, ⟨_, _⟩⟩ ⟨_, ⟨_, _⟩, ⟨_, _⟩⟩ ⟨_, _⟩ _) ?_
    refine JT.c rfl ?_
    refine JT.done ?_
    refine J.so ?_
    refine JT.callD rfl rfl (Up.of (Imp.refl _)) (r2At_fn _ _) ?_
    iterate 2 refine JT.y rfl (Ev.agg (by repeat (first | exact Cells.nil | apply Cells.z | (apply Cells.cl; rfl; rfl; rfl)))) ?_
    refine JT.new (fun b7 => ?_)
    refine JT.w rfl rfl rfl rfl rfl ?_
    refine JT.done ?_
    refine J.so ?_
    refine JT.c rfl ?_
    iterate 3 refine JT.y rfl (Ev.Lw rfl rfl) ?_
    refine JT.c rfl ?_
    iterate 3 refine JT.y rfl (Ev.Lw rfl rfl) ?_
    refine JT.callD rfl rfl (Up.of (.take (.there .here) (Imp.refl _))) (lnRight_fn _ _ ⟨_, _⟩ ⟨_, ⟨_, _⟩, ⟨_, _⟩⟩ ⟨_, _⟩ _) ?_
    iterate 3 refine JT.yA rfl (Ev.Lw rfl rfl) ?_
    refine JT.callD rfl rfl (Up.of (.take .here (Imp.refl _))) (lnRight_fn _ _ ⟨_, _⟩ ⟨_, ⟨_, _⟩, ⟨_, _⟩⟩ ⟨_, _⟩ _) ?_
    iterate 2 refine JT.c rfl ?_
    refine JT.done ?_
    refine J.so ?_
    refine JT.c rfl ?_
    refine JT.y rfl (Ev.Lw rfl rfl) ?_
    refine JT.callS rfl rfl (Up.of (.take .here (Imp.refl _))) (lnGet_fn _ _ ⟨_, _⟩ _ (by first | assumption | omega | decide | exact rfl)) (fun ⟨a56, c56⟩ _ => ?_)
    iterate 3 refine JT.c rfl ?_
    refine JT.new (fun b10 => ?_)
    refine JT.w rfl rfl rfl rfl rfl ?_
    refine JT.c rfl ?_
    refine JT.done ?_
    refine J.so ?_
    refine JT.c rfl ?_
    iterate 2 refine JT.y rfl (Ev.Lw rfl rfl) ?_
    refine JT.callD rfl rfl (Up.of (.take (.there (.there .here)) (Imp.refl _))) (lnLock_fn _ _ ⟨_, _⟩ ⟨_, _⟩ _) ?_
    iterate 5 refine JT.c rfl ?_
    refine JT.done ?_
    refine J.so ?_
    refine JT.c rfl ?_
    iterate 2 refine JT.y rfl (Ev.Lw rfl rfl) ?_
    refine JT.callS rfl rfl (Up.of (.take .here (Imp.refl _))) (lnOut_ok _ _ ⟨_, _⟩ ⟨_, _⟩ _ _ (by first | assumption | omega | decide | exact rfl) (by first | assumption | omega | decide | exact rfl) (by first | assumption | omega | decide | exact rfl)) (fun ⟨a70, c70⟩ _ => ?_)
    iterate 5 refine JT.c rfl ?_
    refine JT.done ?_
    refine J.so ?_
    refine JT.c rfl ?_
    refine JT.y rfl (Ev.Lw rfl rfl) ?_
    refine JT.callS rfl rfl (Up.of (.take (.there .here) (Imp.refl _))) (lnGet_fn _ _ ⟨_, _⟩ _ (by first | assumption | omega | decide | exact rfl)) (fun ⟨a76, c76⟩ _ => ?_)
    iterate 3 refine JT.c rfl ?_
    refine JT.new (fun b16 => ?_)
    refine JT.w rfl rfl rfl rfl rfl ?_
    refine JT.c rfl ?_
    refine JT.done ?_
    refine J.so ?_
    refine JT.c rfl ?_
    refine JT.y rfl (Ev.ceqT rfl rfl (by decide)) ?_
    refine JT.c rfl ?_
    refine JT.gk rfl ?_
    refine JT.c rfl ?_
    refine JT.gk rfl ?_
    refine JT.y rfl (Ev.ceqT rfl rfl (by decide)) ?_
    refine JT.y rfl (Ev.pickT rfl rfl) ?_
    refine JT.c rfl ?_
    refine JT.gk rfl ?_
    refine JT.c rfl ?_
    refine JT.gk rfl ?_
    refine JT.y rfl (Ev.ceqT rfl rfl (by decide)) ?_
    refine JT.y rfl (Ev.pickT rfl rfl) ?_
    refine JT.c rfl ?_
    refine JT.gk rfl ?_
    refine JT.c rfl ?_
    refine JT.y rfl (Ev.pickT rfl rfl) ?_
    refine JT.c rfl ?_
    refine JT.gk rfl ?_
    refine JT.y rfl (Ev.fa' 7 rfl rfl) ?_
    refine JT.gk rfl ?_
    refine JT.y rfl (Ev.Lp (us := [_, _, _, _, _]) rfl (Nat.le_of_ble_eq_true rfl) rfl) ?_
    refine JT.gk rfl ?_
    refine JT.y rfl (Ev.Lw rfl rfl) ?_
    refine JT.gk rfl ?_
    refine JT.y rfl (Ev.eqs rfl rfl (by repeat (first | exact EqC.nil | apply EqC.i | apply EqC.b | apply EqC.s))) ?_
    refine JT.y rfl (Ev.pickT rfl rfl) ?_
    refine JT.c rfl ?_
    refine JT.gk rfl ?_
    refine JT.c rfl ?_
    refine JT.gk rfl ?_
    refine JT.c rfl ?_
    refine JT.y rfl (Ev.pickT rfl rfl) ?_
    refine JT.c rfl ?_
    refine JT.gk rfl ?_
    refine JT.c rfl ?_
    refine JT.gk rfl ?_
    refine JT.y rfl (Ev.ceqT rfl rfl (by decide)) ?_
    refine JT.y rfl (Ev.pickT rfl rfl) ?_
    refine JT.c rfl ?_
    refine JT.gk rfl ?_
    refine JT.c rfl ?_
    refine JT.gk rfl ?_
    refine JT.c rfl ?_
    refine JT.gk rfl ?_
    refine JT.y rfl (Ev.ceqT rfl rfl (by decide)) ?_
    refine JT.y rfl (Ev.pickT rfl rfl) ?_
    refine JT.c rfl ?_
    refine JT.gk rfl ?_
    refine JT.c rfl ?_
    refine JT.gk rfl ?_
    refine JT.y rfl (Ev.iC rfl rfl (by decide)) ?_
    refine JT.gk rfl ?_
    refine JT.y rfl (Ev.LE rfl (by decide)) ?_
    refine JT.gk rfl ?_
    refine JT.y rfl (Ev.Lw rfl rfl) ?_
    refine JT.gk rfl ?_
    refine JT.y rfl (Ev.eqs rfl rfl (by repeat (first | exact EqC.nil | apply EqC.i | apply EqC.b | apply EqC.s))) ?_
    refine JT.y rfl (Ev.pickT rfl rfl) ?_
    refine JT.c rfl ?_
    refine JT.gk rfl ?_
    refine JT.c rfl ?_
    refine JT.gk rfl ?_
    refine JT.y rfl (Ev.ceqT rfl rfl (by decide)) ?_
    refine JT.y rfl (Ev.pickT rfl rfl) ?_
    refine JT.c rfl ?_
    refine JT.gk rfl ?_
    refine JT.c rfl ?_
    refine JT.gk rfl ?_
    refine JT.c rfl ?_
    refine JT.y rfl (Ev.pickT rfl rfl) ?_
    refine JT.c rfl ?_
    refine JT.done ?_
    refine J.ret ?_
    refine retQD (.t rfl .nil) rfl (Up.of (.dropT (.dropT (.dropT (.dropT (.dropT (.dropT (.dropT (.dropT (.dropT (.dropT (Imp.refl _))))))))))))
end Go.Proofs.Ytojegknfbgflnaa
