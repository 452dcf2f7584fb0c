/- Layer 8: the reference's sameness; plays of calls. Conditions: none. -/
import Derived.Test.YtojegknfbgflnaaBm
import Derived.Test.YtojegknfbgflnaaKe
import Derived.Test.YtojegknfbgflnaaKg
set_option linter.unusedSimpArgs false
set_option linter.unusedVariables false
set_option maxRecDepth 100000
set_option maxHeartbeats 2000000
namespace Go.Proofs.Ytojegknfbgflnaa
open Go Go.SL
attribute [local irreducible] pc rc SlT Me Mt It pt ro pur ex sep old Meets
attribute [local irreducible] LockP RecP RecsA LinksP LinksH

theorem r8SameO_fn {a1 a2 : Option Addr} {c1 c2 : Nat} {xs ys : List Owner} {F : List Assn} [H1 : HS F (.slice a1 xs.length c1) Owner ownerC 2 c1 xs] [H2 : HS F (.slice a2 ys.length c2) Owner ownerC 2 c2 ys] :
    Meets Try.prog 58 [.slice a1 xs.length c1, .slice a2 ys.length c2] F (Det (.bool (decide (xs = ys))) F) := by
  refine Meets.intro b58 k58 (by simp) ?_
  refine J.sl H1 (fun hC hL _ => ?_)
  focus
    refine J.so ?_
    refine JT.c rfl ?_
    refine JT.done ?_
    refine J.seq ?_
    refine J.so ?_
    iterate 4 refine JT.c rfl ?_
    refine JT.y rfl (Ev.int rfl rfl rfl) ?_
    refine JT.done ?_
    refine J.c rfl (fun h1 => ?_) (fun h1 => ?_)
    refine J.so ?_
    refine JT.c rfl ?_
    refine JT.done ?_
    refine J.ret ?_
    refine seqQ_r ?_
    refine retQD (.t rfl .nil) ?_ (Up.of (Imp.refl _))
    rotate_left
    refine J.skip ?_
    refine seqQ_n ?_
    refine J.seq ?_
    refine J.so ?_
    refine JT.c rfl ?_
    refine JT.done ?_
    refine J.block ?_
    rotate_left
  · simp only [mkRet]; rw [decide_eq_false (ne_of_len (by omega))]
  refine J.lp (ι := Nat) (fun k => k ≤ xs.length ∧ ∀ j, j < k → nth xs j = nth ys j) (fun k => [(5, i64 k)]) (fun _ => F) (fun k => xs.length - k) 0 ⟨by omega, fun j hj => by omega⟩ (by (repeat (first | exact subx_nil | apply subx_dup rfl | apply subx_cons rfl))) (Up.refl _) (fun k hk => ?_)
  obtain ⟨hk, hn⟩ := hk
  focus
    refine J.seq ?_
    refine J.so ?_
    iterate 3 refine JT.c rfl ?_
    refine JT.y rfl (Ev.int rfl rfl rfl) ?_
    refine JT.done ?_
    refine J.c rfl (fun h2 => ?_) (fun h2 => ?_)
    refine J.skip ?_
    refine seqQ_n ?_
    refine J.seq ?_
    refine J.block ?_
    refine J.so ?_
    iterate 2 refine JT.c rfl ?_
    refine JT.y rfl (Ev.iC rfl rfl (by omega)) ?_
    refine JT.y rfl (Ev.LE rfl (by omega)) ?_
    iterate 2 refine JT.c rfl ?_
    refine JT.y rfl (Ev.iC rfl rfl (by omega)) ?_
    refine JT.y rfl (Ev.LE rfl (by omega)) ?_
    refine JT.y rfl (Ev.neT rfl rfl) ?_
    refine JT.done ?_
    refine J.c rfl (fun h3 => ?_) (fun h3 => ?_)
    refine J.so ?_
    refine JT.c rfl ?_
    refine JT.done ?_
    refine J.ret ?_
    refine blockQ_r ?_
    iterate 2 refine seqQ_r ?_
    refine blockQ_r ?_
    refine seqQ_r ?_
    refine retQD (.t rfl .nil) ?_ (Up.of (Imp.refl _))
    rotate_left
    refine J.skip ?_
    refine blockQ_n ?_
    refine seqQ_n ?_
    refine J.ops ?_
    refine JT.c rfl ?_
    refine JT.y rfl (Ev.addN rfl rfl (by omega)) ?_
    refine JT.c rfl ?_
    refine JT.done ?_
    refine seqQ_n ?_
    refine ⟨_, ?_, (by omega), (subx_cons rfl (subx_dup rfl (subx_cons rfl (subx_cons rfl (subx_cons rfl (subx_cons rfl (subx_cons rfl (subx_cons rfl (subx_cons rfl (subx_cons rfl subx_nil)))))))))), (Up.of (Imp.refl _))⟩
    rotate_left
    refine J.exit ?_
    iterate 2 refine seqQ_x ?_
    refine blockQ_hit ?_
    refine seqQ_n ?_
    refine J.so ?_
    refine JT.c rfl ?_
    refine JT.done ?_
    refine J.ret ?_
    refine retQD (.t rfl .nil) ?_ (Up.of (Imp.refl _))
    rotate_left
  · simp only [mkRet]; rw [decide_eq_false (ne_of_nth (by assumption))]
  · exact ⟨by omega, all_lt_succ hn (by assumption)⟩
  · simp only [mkRet]; rw [decide_eq_true (eq_of_nth (by omega) fun j hj => hn j (by omega))]

theorem r8Same_fn {a1 a2 : Option Addr} {c1 c2 : Nat} {s t : RecS} {F : List Assn} [H1 : HS F (.slice a1 s.waits.length c1) Owner ownerC 2 c1 s.waits] [H2 : HS F (.slice a2 t.waits.length c2) Owner ownerC 2 c2 t.waits] :
    Meets Try.prog 28 [rsv s a1 c1, rsv t a2 c2] F (Det (.bool (decide (s = t))) F) := by
  refine Meets.intro b28 k28 (by simp) ?_
  focus
    refine J.so ?_
    refine JT.box rfl (fun b2 => ?_)
    refine JT.box rfl (fun b3 => ?_)
    refine JT.c rfl ?_
    refine JT.done ?_
    refine J.seq ?_
    refine J.so ?_
    refine JT.y rfl (Ev.fa' 0 rfl rfl) ?_
    refine JT.y rfl (Ev.Lp (us := [_, _]) rfl (Nat.le_of_ble_eq_true rfl) rfl) ?_
    refine JT.y rfl (Ev.fa' 0 rfl rfl) ?_
    refine JT.y rfl (Ev.Lp (us := [_, _]) rfl (Nat.le_of_ble_eq_true rfl) rfl) ?_
    refine JT.y rfl (Ev.eqs rfl rfl (by repeat (first | exact EqC.nil | apply EqC.i | apply EqC.b | apply EqC.s))) ?_
    refine JT.c rfl ?_
    refine JT.gn rfl (fun h1 => ?_) (fun h1 => ?_)
    refine JT.y rfl (Ev.fa' 2 rfl rfl) ?_
    refine JT.gF rfl (by first | assumption | omega) ?_
    refine JT.y rfl (Ev.Lp (us := [_, _, _, _, _]) rfl (Nat.le_of_ble_eq_true rfl) rfl) ?_
    refine JT.gF rfl (by first | assumption | omega) ?_
    refine JT.y rfl (Ev.fa' 2 rfl rfl) ?_
    refine JT.gF rfl (by first | assumption | omega) ?_
    refine JT.y rfl (Ev.Lp (us := [_, _, _, _, _]) rfl (Nat.le_of_ble_eq_true rfl) rfl) ?_
    refine JT.gF rfl (by first | assumption | omega) ?_
    refine JT.y rfl (Ev.eqs rfl rfl (by repeat (first | exact EqC.nil | apply EqC.i | apply EqC.b | apply EqC.s))) ?_
    refine JT.y rfl (Ev.pickFp rfl (by first | assumption | omega) rfl) ?_
    refine JT.c rfl ?_
    refine JT.gn rfl (fun h2 => ?_) (fun h2 => ?_)
    refine JT.y rfl (Ev.fa' 7 rfl rfl) ?_
    refine JT.gF rfl (by first | assumption | omega) ?_
    refine JT.y rfl (Ev.Lp (us := [_, _, _, _, _]) rfl (Nat.le_of_ble_eq_true rfl) rfl) ?_
    refine JT.gF rfl (by first | assumption | omega) ?_
    refine JT.y rfl (Ev.fa' 7 rfl rfl) ?_
    refine JT.gF rfl (by first | assumption | omega) ?_
    refine JT.y rfl (Ev.Lp (us := [_, _, _, _, _]) rfl (Nat.le_of_ble_eq_true rfl) rfl) ?_
    refine JT.gF rfl (by first | assumption | omega) ?_
    refine JT.y rfl (Ev.eqs rfl rfl (by repeat (first | exact EqC.nil | apply EqC.i | apply EqC.b | apply EqC.s))) ?_
    refine JT.y rfl (Ev.pickFp rfl (by first | assumption | omega) rfl) ?_
    refine JT.c rfl ?_
    refine JT.gn rfl (fun h3 => ?_) (fun h3 => ?_)
    refine JT.y rfl (Ev.fa' 12 rfl rfl) ?_
    refine JT.gF rfl (by first | assumption | omega) ?_
    refine JT.y rfl (Ev.L rfl rfl) ?_
    refine JT.gF rfl (by first | assumption | omega) ?_
    refine JT.y rfl (Ev.fa' 12 rfl rfl) ?_
    refine JT.gF rfl (by first | assumption | omega) ?_
    refine JT.y rfl (Ev.L rfl rfl) ?_
    refine JT.gF rfl (by first | assumption | omega) ?_
    refine JT.c rfl ?_
    refine JT.y rfl (Ev.pickFp rfl (by first | assumption | omega) rfl) ?_
    refine JT.c rfl ?_
    refine JT.gn rfl (fun h4 => ?_) (fun h4 => ?_)
    refine JT.y rfl (Ev.fa' 13 rfl rfl) ?_
    refine JT.gF rfl (by first | assumption | omega) ?_
    refine JT.y rfl (Ev.Lp (us := [_, _]) rfl (Nat.le_of_ble_eq_true rfl) rfl) ?_
    refine JT.gF rfl (by first | assumption | omega) ?_
    refine JT.y rfl (Ev.fa' 13 rfl rfl) ?_
    refine JT.gF rfl (by first | assumption | omega) ?_
    refine JT.y rfl (Ev.Lp (us := [_, _]) rfl (Nat.le_of_ble_eq_true rfl) rfl) ?_
    refine JT.gF rfl (by first | assumption | omega) ?_
    refine JT.y rfl (Ev.eqs rfl rfl (by repeat (first | exact EqC.nil | apply EqC.i | apply EqC.b | apply EqC.s))) ?_
    refine JT.y rfl (Ev.pickFp rfl (by first | assumption | omega) rfl) ?_
    refine JT.done ?_
    refine J.c rfl (fun h5 => ?_) (fun h5 => ?_)
    refine J.so ?_
    refine JT.c rfl ?_
    refine JT.done ?_
    refine J.ret ?_
    refine seqQ_r ?_
    refine retQD (.t rfl .nil) ?_ (Up.of (.dropT (.dropT (Imp.refl _))))
    rotate_left
    refine J.skip ?_
    refine seqQ_n ?_
    refine J.so ?_
    refine JT.y rfl (Ev.fa' 15 rfl rfl) ?_
    refine JT.y rfl (Ev.L rfl rfl) ?_
    refine JT.y rfl (Ev.fa' 15 rfl rfl) ?_
    refine JT.y rfl (Ev.L rfl rfl) ?_
    refine JT.callD rfl rfl (Up.of (Imp.refl _)) r8SameO_fn ?_
    refine JT.c rfl ?_
    refine JT.done ?_
    refine J.ret ?_
    refine retQD (.t rfl .nil) ?_ (Up.of (.dropT (.dropT (Imp.refl _))))
    rotate_left
    iterate 4 refine JT.gFs rfl (by first | assumption | omega) ?_
    refine JT.y rfl (Ev.pickTp rfl (by first | assumption | omega) rfl) ?_
    refine JT.done ?_
    refine J.condT rfl ?_
    refine J.so ?_
    refine JT.c rfl ?_
    refine JT.done ?_
    refine J.ret ?_
    refine seqQ_r ?_
    refine retQD (.t rfl .nil) ?_ (Up.of (.dropT (.dropT (Imp.refl _))))
    rotate_left
    iterate 4 refine JT.gFs rfl (by first | assumption | omega) ?_
    refine JT.y rfl (Ev.pickTp rfl (by first | assumption | omega) rfl) ?_
    refine JT.c rfl ?_
    iterate 5 refine JT.skip rfl rfl ?_
    refine JT.y rfl (Ev.pickT rfl rfl) ?_
    refine JT.done ?_
    refine J.condT rfl ?_
    refine J.so ?_
    refine JT.c rfl ?_
    refine JT.done ?_
    refine J.ret ?_
    refine seqQ_r ?_
    refine retQD (.t rfl .nil) ?_ (Up.of (.dropT (.dropT (Imp.refl _))))
    rotate_left
    iterate 4 refine JT.gFs rfl (by first | assumption | omega) ?_
    refine JT.y rfl (Ev.pickTp rfl (by first | assumption | omega) rfl) ?_
    refine JT.c rfl ?_
    iterate 5 refine JT.skip rfl rfl ?_
    refine JT.y rfl (Ev.pickT rfl rfl) ?_
    refine JT.c rfl ?_
    iterate 5 refine JT.skip rfl rfl ?_
    refine JT.y rfl (Ev.pickT rfl rfl) ?_
    refine JT.done ?_
    refine J.condT rfl ?_
    refine J.so ?_
    refine JT.c rfl ?_
    refine JT.done ?_
    refine J.ret ?_
    refine seqQ_r ?_
    refine retQD (.t rfl .nil) ?_ (Up.of (.dropT (.dropT (Imp.refl _))))
    rotate_left
    iterate 4 refine JT.gFs rfl (by first | assumption | omega) ?_
    refine JT.y rfl (Ev.pickTp rfl (by first | assumption | omega) rfl) ?_
    refine JT.c rfl ?_
    iterate 5 refine JT.skip rfl rfl ?_
    refine JT.y rfl (Ev.pickT rfl rfl) ?_
    refine JT.c rfl ?_
    iterate 5 refine JT.skip rfl rfl ?_
    refine JT.y rfl (Ev.pickT rfl rfl) ?_
    refine JT.c rfl ?_
    iterate 5 refine JT.skip rfl rfl ?_
    refine JT.y rfl (Ev.pickT rfl rfl) ?_
    refine JT.done ?_
    refine J.condT rfl ?_
    refine J.so ?_
    refine JT.c rfl ?_
    refine JT.done ?_
    refine J.ret ?_
    refine seqQ_r ?_
    refine retQD (.t rfl .nil) ?_ (Up.of (.dropT (.dropT (Imp.refl _))))
    rotate_left
  · simp only [mkRet]; rw [decide_eq_false (fun e => h5 (by rw [e]))]
  · have hh : s.held = t.held := by rcases h4 with ⟨h, h'⟩ | ⟨h, h'⟩ <;> rw [h, h']
    have e : (s = t) ↔ (s.waits = t.waits) := ⟨fun e => by rw [e], fun e => by
      cases s; cases t; simp only at h1 h2 h3 h5 hh e; subst h1 h2 h3 h5 hh e; rfl⟩
    simp only [mkRet, e]
  · simp only [mkRet]; rw [decide_eq_false (fun e => by rw [e] at h4; rcases h4 with ⟨h, h'⟩ | ⟨h, h'⟩ <;> rw [h] at h' <;> cases h')]
  · simp only [mkRet]; rw [decide_eq_false (fun e => h3 (by rw [e]))]
  · simp only [mkRet]; rw [decide_eq_false (fun e => h2 (by rw [e]))]
  · simp only [mkRet]; rw [decide_eq_false (fun e => h1 (by rw [e]))]

theorem LinkSame_fn {a1 a2 : Option Addr} {c1 c2 : Nat} {s t : RecS} {F : List Assn} [H1 : HS F (.slice a1 s.waits.length c1) Owner ownerC 2 c1 s.waits] [H2 : HS F (.slice a2 t.waits.length c2) Owner ownerC 2 c2 t.waits] :
    Meets Try.prog 7 [rsv s a1 c1, rsv t a2 c2] F (Det (.bool true) F) := by
  refine Meets.intro b7 k7 (by simp) ?_
  focus
    refine J.so ?_
    refine JT.box rfl (fun b2 => ?_)
    refine JT.box rfl (fun b3 => ?_)
    refine JT.c rfl ?_
    refine JT.done ?_
    refine J.seq ?_
    refine J.so ?_
    refine JT.y rfl (Ev.fa' 15 rfl rfl) ?_
    refine JT.y rfl (Ev.L rfl rfl) ?_
    refine JT.c rfl ?_
    refine JT.y rfl (Ev.int rfl rfl rfl) ?_
    refine JT.c rfl ?_
    refine JT.yh rfl rfl (fun h1 => Ev.fa' 15 rfl rfl) ?_
    refine JT.yh rfl rfl (fun h1 => by simp only [h1, gd_true, gd_false, Bool.not_false, Bool.not_true, Bool.true_and, Bool.and_true]; exact Ev.L rfl rfl) ?_
    refine JT.yh rfl rfl (fun h1 => by simp only [h1, gd_true, gd_false, Bool.not_false, Bool.not_true, Bool.true_and, Bool.and_true]; exact Ev.calc rfl) ?_
    refine JT.yh rfl rfl (fun h1 => by simp only [h1, gd_true, gd_false, Bool.not_false, Bool.not_true, Bool.true_and, Bool.and_true]; exact Ev.int rfl rfl rfl) ?_
    refine JT.y rfl (Ev.pickO rfl rfl rfl) ?_
    refine JT.done ?_
    refine J.c rfl (fun h1 => ?_) (fun h1 => ?_)
    refine J.so ?_
    refine JT.callD rfl rfl (Up.of (Imp.refl _)) (l08awake_fn _) ?_
    refine JT.c rfl ?_
    refine JT.done ?_
    refine J.ret ?_
    refine seqQ_r ?_
    refine retQD (.t rfl .nil) rfl (Up.of (.dropT (.dropT (Imp.refl _))))
    refine J.skip ?_
    refine seqQ_n ?_
    refine J.so ?_
    iterate 4 refine JT.y rfl (Ev.Lw rfl rfl) ?_
    refine JT.callD rfl rfl (Up.of (Imp.refl _)) lnSame_fn ?_
    iterate 2 refine JT.yA rfl (Ev.Lw rfl rfl) ?_
    refine JT.callD rfl rfl (Up.of (Imp.refl _)) r8Same_fn ?_
    iterate 2 refine JT.c rfl ?_
    refine JT.gp rfl (fun h2 => ?_) (fun h2 => ?_)
    refine JT.y rfl (Ev.Lw rfl rfl) ?_
    refine JT.gT rfl (by first | assumption | omega) ?_
    refine JT.y rfl (Ev.Lw rfl rfl) ?_
    refine JT.gT rfl (by first | assumption | omega) ?_
    refine JT.callD rfl rfl (Up.of (Imp.refl _)) lnSame_fn ?_
    refine JT.y rfl (Ev.pickTp rfl (by first | assumption | omega) rfl) ?_
    refine JT.c rfl ?_
    refine JT.gp rfl (fun h3 => ?_) (fun h3 => ?_)
    refine JT.callD rfl rfl (Up.of (Imp.refl _)) (l08awake_fn _) ?_
    refine JT.y rfl (Ev.pickTp rfl (by first | assumption | omega) rfl) ?_
    refine JT.c rfl ?_
    refine JT.done ?_
    refine J.ret ?_
    refine retQD (.t rfl .nil) rfl (Up.of (.dropT (.dropT (Imp.refl _))))
    iterate 2 contradiction

theorem lnOut_fn (b : Nat) (l : LK) (w : Vec) (o : Owner) (F : List Assn) (hl : l.Inv) : Meets Try.prog 32 [ptr b, vv w, ov o] (LinksP b l :: F)
    (Some' (fun _ : Option Addr × Nat => True) (fun x => .tuple #[.slice x.1 (l.out w o).2.1.length x.2, i64 (l.out w o).2.2]) (fun x => SlT false ownerC 2 (.slice x.1 (l.out w o).2.1.length x.2) x.2 (l.out w o).2.1 :: LinksP b (l.out w o).1 :: F)) := by
  unfold LK.out
  cases e : l.rec? w with
  | none =>
    have h : l.ownE w o false ≠ 0 := by unfold LK.ownE; rw [e]; simp
    refine (lnOut_no b l w o F h).post ?_
    rintro v cs' ⟨rfl, rfl⟩
    exact ⟨_, Up.nilS (enc := ownerC) (sz := 2) false (by decide) (Up.refl _), (none, 0), trivial, rfl, rfl⟩
  | some a =>
    simp only
    by_cases h : l.ownE w o false = 0
    · rw [if_pos h]; exact lnOut_ok b l w o F a e h (Nat.le_trans (hl.at_ e).le (by decide))
    · rw [if_neg h]
      refine (lnOut_no b l w o F h).post ?_
      rintro v cs' ⟨rfl, rfl⟩
      exact ⟨_, Up.nilS (enc := ownerC) (sz := 2) false (by decide) (Up.refl _), (none, 0), trivial, rfl, rfl⟩

theorem lnGet_I (b : Nat) (l : LK) (w : Vec) (F : List Assn) (hl : l.Inv) : Meets Try.prog 30 [ptr b, vv w] (LinksP b l :: F)
    (Some' (fun _ : Option Addr × Nat => True) (fun x => .tuple #[rsv (l.getS w) x.1 x.2, .bool (l.getB w)]) (fun x => SlT false ownerC 2 (.slice x.1 (l.getS w).waits.length x.2) x.2 (l.getS w).waits :: LinksP b (l.touch w) :: F)) :=
  lnGet_fn b l w F fun a h => Nat.le_trans (hl.at_ h).le (by decide)

theorem l08do_fn (b : Nat) (l : LK) (x : KOp) (F : List Assn) (hl : l.Inv) : Meets Try.prog 31 [ptr b, kov x] (LinksP b l :: F) (Det (i64 (l.act x).2) (LinksP b (l.act x).1 :: F)) := by
  refine Meets.intro b31 k31 (by simp) ?_
  unfold LK.act
  focus
    refine J.so ?_
    refine JT.box rfl (fun b3 => ?_)
    refine JT.c rfl ?_
    refine JT.done ?_
    refine J.so ?_
    refine JT.c rfl ?_
    refine JT.done ?_
    refine J.seq ?_
    refine J.so ?_
    refine JT.y rfl (Ev.fa' 0 rfl rfl) ?_
    refine JT.y rfl (Ev.L rfl rfl) ?_
    refine JT.done ?_
    refine J.block ?_
    refine J.so ?_
    refine JT.y rfl (Ev.int rfl rfl rfl) ?_
    refine JT.c rfl ?_
    refine JT.done ?_
    refine J.c rfl (fun h1 => ?_) (fun h1 => ?_)
    refine J.ops ?_
    refine JT.c rfl ?_
    refine JT.y rfl (Ev.fa' 1 rfl rfl) ?_
    refine JT.y rfl (Ev.Lf rfl (Nat.le_of_ble_eq_true rfl)) ?_
    refine JT.y rfl (Ev.fa' 3 rfl rfl) ?_
    refine JT.y rfl (Ev.Lf rfl (Nat.le_of_ble_eq_true rfl)) ?_
    refine JT.y rfl (Ev.fa' 8 rfl rfl) ?_
    refine JT.y rfl (Ev.Lf rfl (Nat.le_of_ble_eq_true rfl)) ?_
    refine JT.y rfl (Ev.fa' 13 rfl rfl) ?_
    refine JT.y rfl (Ev.Lf rfl (Nat.le_of_ble_eq_true rfl)) ?_
    refine JT.callD rfl rfl (Up.of (.take (.there .here) (Imp.refl _))) (lnPut_fn _ _ _ _ _ _ _) ?_
    refine JT.c rfl ?_
    refine JT.done ?_
    refine blockQ_n ?_
    refine seqQ_n ?_
    refine J.so ?_
    iterate 2 refine JT.c rfl ?_
    refine JT.done ?_
    refine J.ret ?_
    rotate_left
    refine J.so ?_
    refine JT.y rfl (Ev.int rfl rfl rfl) ?_
    refine JT.c rfl ?_
    refine JT.done ?_
    refine J.c rfl (fun h2 => ?_) (fun h2 => ?_)
    refine J.ops ?_
    refine JT.c rfl ?_
    refine JT.y rfl (Ev.fa' 1 rfl rfl) ?_
    refine JT.y rfl (Ev.Lf rfl (Nat.le_of_ble_eq_true rfl)) ?_
    refine JT.y rfl (Ev.fa' 13 rfl rfl) ?_
    refine JT.y rfl (Ev.Lf rfl (Nat.le_of_ble_eq_true rfl)) ?_
    refine JT.callS rfl rfl (Up.of (.take (.there .here) (Imp.refl _))) (lnOut_fn _ _ _ _ _ (by first | assumption | omega | decide | exact rfl)) (fun ⟨a28, c28⟩ _ => ?_)
    iterate 4 refine JT.c rfl ?_
    refine JT.done ?_
    refine blockQ_n ?_
    refine seqQ_n ?_
    refine J.so ?_
    iterate 2 refine JT.c rfl ?_
    refine JT.done ?_
    refine J.ret ?_
    rotate_left
    refine J.so ?_
    refine JT.y rfl (Ev.int rfl rfl rfl) ?_
    refine JT.c rfl ?_
    refine JT.done ?_
    refine J.c rfl (fun h3 => ?_) (fun h3 => ?_)
    refine J.ops ?_
    refine JT.c rfl ?_
    refine JT.y rfl (Ev.fa' 1 rfl rfl) ?_
    refine JT.y rfl (Ev.Lf rfl (Nat.le_of_ble_eq_true rfl)) ?_
    refine JT.y rfl (Ev.fa' 3 rfl rfl) ?_
    refine JT.y rfl (Ev.Lf rfl (Nat.le_of_ble_eq_true rfl)) ?_
    refine JT.callD rfl rfl (Up.of (.take (.there .here) (Imp.refl _))) (lnLeft_fn _ _ _ _ _) ?_
    refine JT.c rfl ?_
    refine JT.done ?_
    refine blockQ_n ?_
    refine seqQ_n ?_
    refine J.so ?_
    iterate 2 refine JT.c rfl ?_
    refine JT.done ?_
    refine J.ret ?_
    rotate_left
    refine J.so ?_
    refine JT.y rfl (Ev.int rfl rfl rfl) ?_
    refine JT.c rfl ?_
    refine JT.done ?_
    refine J.c rfl (fun h4 => ?_) (fun h4 => ?_)
    refine J.ops ?_
    refine JT.c rfl ?_
    refine JT.y rfl (Ev.fa' 1 rfl rfl) ?_
    refine JT.y rfl (Ev.Lf rfl (Nat.le_of_ble_eq_true rfl)) ?_
    refine JT.y rfl (Ev.fa' 3 rfl rfl) ?_
    refine JT.y rfl (Ev.Lf rfl (Nat.le_of_ble_eq_true rfl)) ?_
    refine JT.y rfl (Ev.fa' 13 rfl rfl) ?_
    refine JT.y rfl (Ev.Lf rfl (Nat.le_of_ble_eq_true rfl)) ?_
    refine JT.callD rfl rfl (Up.of (.take (.there .here) (Imp.refl _))) (lnRight_fn _ _ _ _ _ _) ?_
    refine JT.c rfl ?_
    refine JT.done ?_
    refine blockQ_n ?_
    refine seqQ_n ?_
    refine J.so ?_
    iterate 2 refine JT.c rfl ?_
    refine JT.done ?_
    refine J.ret ?_
    rotate_left
    refine J.so ?_
    refine JT.y rfl (Ev.int rfl rfl rfl) ?_
    refine JT.c rfl ?_
    refine JT.done ?_
    refine J.c rfl (fun h5 => ?_) (fun h5 => ?_)
    refine J.ops ?_
    refine JT.c rfl ?_
    refine JT.y rfl (Ev.fa' 1 rfl rfl) ?_
    refine JT.y rfl (Ev.Lf rfl (Nat.le_of_ble_eq_true rfl)) ?_
    refine JT.y rfl (Ev.fa' 13 rfl rfl) ?_
    refine JT.y rfl (Ev.Lf rfl (Nat.le_of_ble_eq_true rfl)) ?_
    refine JT.callD rfl rfl (Up.of (.take (.there .here) (Imp.refl _))) (lnLock_fn _ _ _ _ _) ?_
    iterate 4 refine JT.c rfl ?_
    refine JT.done ?_
    refine blockQ_n ?_
    refine seqQ_n ?_
    refine J.so ?_
    iterate 2 refine JT.c rfl ?_
    refine JT.done ?_
    refine J.ret ?_
    rotate_left
    refine J.so ?_
    refine JT.y rfl (Ev.int rfl rfl rfl) ?_
    refine JT.c rfl ?_
    refine JT.done ?_
    refine J.c rfl (fun h6 => ?_) (fun h6 => ?_)
    refine J.ops ?_
    refine JT.c rfl ?_
    refine JT.y rfl (Ev.fa' 1 rfl rfl) ?_
    refine JT.y rfl (Ev.Lf rfl (Nat.le_of_ble_eq_true rfl)) ?_
    refine JT.y rfl (Ev.fa' 13 rfl rfl) ?_
    refine JT.y rfl (Ev.Lf rfl (Nat.le_of_ble_eq_true rfl)) ?_
    refine JT.callD rfl rfl (Up.of (.take (.there .here) (Imp.refl _))) (lnFree_fn _ _ _ _ _) ?_
    iterate 5 refine JT.c rfl ?_
    refine JT.done ?_
    refine blockQ_n ?_
    refine seqQ_n ?_
    refine J.so ?_
    iterate 2 refine JT.c rfl ?_
    refine JT.done ?_
    refine J.ret ?_
    rotate_left
    refine J.skip ?_
    refine blockQ_n ?_
    refine seqQ_n ?_
    refine J.so ?_
    iterate 2 refine JT.c rfl ?_
    refine JT.done ?_
    refine J.ret ?_
    rotate_left
  all_goals (repeat (first | rw [if_pos (by (first | assumption | omega | grind))] | rw [if_neg (by (first | assumption | omega | grind))]))
  focus
    refine retQD (.t rfl .nil) rfl (Up.of (.take .here (.dropT (Imp.refl _))))
  focus
    refine retQD (.t rfl .nil) rfl (Up.of (.take (.there .here) (.dropT (.dropT (Imp.refl _)))))
  focus
    refine retQD (.t rfl .nil) rfl (Up.of (.take .here (.dropT (Imp.refl _))))
  focus
    refine retQD (.t rfl .nil) rfl (Up.of (.take .here (.dropT (Imp.refl _))))
  focus
    refine retQD (.t rfl .nil) rfl (Up.of (.take .here (.dropT (Imp.refl _))))
  focus
    refine retQD (.t rfl .nil) rfl (Up.of (.take .here (.dropT (Imp.refl _))))
  focus
    refine retQD (.t rfl .nil) rfl (Up.of (.take (.there .here) (.dropT (Imp.refl _))))

instance : TE 66 KOp kopC 15 := ⟨kopC_one, by decide⟩
theorem l08play_no {a1 : Option Addr} {c1 : Nat} {xs : List KOp} (me : Ref) {F : List Assn} [Hs : HS F (.slice a1 xs.length c1) KOp kopC 15 c1 xs] (h : ¬ (keyOk me.key ∧ vecOk me.vec)) :
    Meets Try.prog 29 [rv me, .slice a1 xs.length c1] F (Det (.pointer none) F) := by
  refine Meets.intro b29 k29 (by simp) ?_
  focus
    refine J.so ?_
    refine JT.box rfl (fun b2 => ?_)
    refine JT.c rfl ?_
    refine JT.done ?_
    refine J.so ?_
    refine JT.y rfl (Ev.Lw rfl rfl) ?_
    refine JT.callD rfl rfl (Up.of (Imp.refl _)) (lnNew_no _ _ (by first | assumption | omega | decide | exact rfl)) ?_
    iterate 5 refine JT.c rfl ?_
    refine JT.done ?_
    refine J.seq ?_
    refine J.so ?_
    refine JT.c rfl ?_
    refine JT.y rfl (Ev.cneT rfl rfl (by decide)) ?_
    refine JT.done ?_
    refine J.condT rfl ?_
    refine J.so ?_
    refine JT.c rfl ?_
    refine JT.done ?_
    refine J.ret ?_
    refine seqQ_r ?_
    refine retQD (.t rfl .nil) rfl (Up.of (.dropT (Imp.refl _)))
theorem l08play_ok {a1 : Option Addr} {c1 : Nat} {xs : List KOp} (me : Ref) {F : List Assn} [Hs : HS F (.slice a1 xs.length c1) KOp kopC 15 c1 xs] (h1 : keyOk me.key) (h2 : vecOk me.vec) :
    Meets Try.prog 29 [rv me, .slice a1 xs.length c1] F (Some' (fun _ : Nat => True) (fun b => ptr b) (fun b => LinksP b (LK.run me xs (min xs.length 60)) :: F)) := by
  refine Meets.intro b29 k29 (by simp) ?_
  refine J.sl Hs (fun hC hL _ => ?_)
  focus
    refine J.so ?_
    refine JT.box rfl (fun b2 => ?_)
    refine JT.c rfl ?_
    refine JT.done ?_
    refine J.so ?_
    refine JT.y rfl (Ev.Lw rfl rfl) ?_
    refine JT.callS rfl rfl (Up.of (Imp.refl _)) (lnNew_ok _ _ (by first | assumption | omega | decide | exact rfl) (by first | assumption | omega | decide | exact rfl)) (fun x10 _ => ?_)
    iterate 5 refine JT.c rfl ?_
    refine JT.done ?_
    refine J.seq ?_
    refine J.so ?_
    refine JT.c rfl ?_
    refine JT.y rfl (Ev.cneF rfl rfl (by decide)) ?_
    refine JT.done ?_
    refine J.condF rfl ?_
    refine J.skip ?_
    refine seqQ_n ?_
    refine J.seq ?_
    refine J.so ?_
    refine JT.c rfl ?_
    refine JT.done ?_
    refine J.block ?_
  refine J.lp (ι := Nat) (fun k => k ≤ xs.length ∧ k ≤ 60) (fun k => [(7, i64 k)]) (fun k => LinksP x10 (LK.run me xs k) :: F) (fun k => xs.length - k) 0 ⟨by omega, by omega⟩ (by (repeat (first | exact subx_nil | apply subx_dup rfl | apply subx_cons rfl))) (Up.of (Imp.take (by (repeat (first | exact Has.here | assumption | apply Has.there))) (Imp.dropT (Imp.refl _)))) (fun k hk => ?_)
  obtain ⟨hk, hk2⟩ := hk
  have I := LK.run_inv me xs k hk
  focus
    refine J.seq ?_
    refine J.so ?_
    iterate 3 refine JT.c rfl ?_
    refine JT.y rfl (Ev.int rfl rfl rfl) ?_
    refine JT.c rfl ?_
    refine JT.yg rfl rfl (fun h3 => Ev.calc rfl) ?_
    refine JT.yg rfl rfl (fun h3 => by simp only [h3, gd_true, gd_false, Bool.not_false, Bool.not_true, Bool.true_and, Bool.and_true]; exact Ev.int rfl rfl rfl) ?_
    refine JT.y rfl (Ev.pickA rfl rfl rfl) ?_
    refine JT.done ?_
    refine J.c rfl (fun h3 => ?_) (fun h3 => ?_)
    refine J.skip ?_
    refine seqQ_n ?_
    refine J.seq ?_
    refine J.block ?_
    refine J.ops ?_
    iterate 3 refine JT.c rfl ?_
    refine JT.y rfl (Ev.iC rfl rfl (by omega)) ?_
    refine JT.y rfl (Ev.LE rfl (by omega)) ?_
    refine JT.callD rfl rfl (Up.of (.take .here (Imp.refl _))) (l08do_fn _ _ _ _ (by first | assumption | omega | decide | exact rfl)) ?_
    refine JT.done ?_
    refine blockQ_n ?_
    refine seqQ_n ?_
    refine J.ops ?_
    refine JT.c rfl ?_
    refine JT.y rfl (Ev.addN rfl rfl (by omega)) ?_
    refine JT.c rfl ?_
    refine JT.done ?_
    refine seqQ_n ?_
    rotate_left
    refine J.exit ?_
    iterate 2 refine seqQ_x ?_
    refine blockQ_hit ?_
    refine seqQ_n ?_
    refine J.so ?_
    iterate 2 refine JT.c rfl ?_
    refine JT.done ?_
    refine J.ret ?_
    rotate_left
  · rw [← LK.run_succ (by omega)]
    focus
      refine ⟨_, ?_, (by omega), (subx_cons rfl (subx_dup rfl (subx_cons rfl (subx_cons rfl (subx_cons rfl (subx_cons rfl (subx_cons rfl (subx_cons rfl (subx_cons rfl (subx_cons rfl (subx_cons rfl (subx_cons rfl (subx_cons rfl (subx_cons rfl (subx_cons rfl subx_nil))))))))))))))), (Up.of (.take .here (Imp.refl _)))⟩
      omega
  · rw [show min xs.length 60 = k by omega]
    focus
      refine retQS _ (.t rfl .nil) trivial rfl (Up.of (.take .here (Imp.refl _)))

theorem LinkApart_fn {a1 : Option Addr} {c1 : Nat} {xs : List KOp} (me : Ref) (x : KOp) (w : Vec) {F : List Assn} [Hs : HS F (.slice a1 xs.length c1) KOp kopC 15 c1 xs] :
    Meets Try.prog 8 [rv me, .slice a1 xs.length c1, kov x, vv w] F (Det (.bool true) F) := by
  refine Meets.intro b8 k8 (by simp) ?_
  by_cases hme : keyOk me.key ∧ vecOk me.vec
  · obtain ⟨h1, h2⟩ := hme
    have I := LK.run_inv me xs (min xs.length 60) (by omega)
    have I1 := I.touch w
    have I2 := I1.act x
    have hA : ¬ (w = x.w ∧ (((LK.run me xs (min xs.length 60)).touch w).act x).2 = 0) → (LK.run me xs (min xs.length 60)).getB w = (((LK.run me xs (min xs.length 60)).touch w).act x).1.getB w ∧ (LK.run me xs (min xs.length 60)).getS w = (((LK.run me xs (min xs.length 60)).touch w).act x).1.getS w := by
      intro h
      have h1 := get_of ((act_apart I1 x w h).trans (rec?_touch _ _ _))
      exact ⟨h1.1.symm, h1.2.symm⟩
    focus
      refine J.so ?_
      refine JT.box rfl (fun b4 => ?_)
      refine JT.box rfl (fun b6 => ?_)
      refine JT.box rfl (fun b7 => ?_)
      refine JT.c rfl ?_
      refine JT.done ?_
      refine J.seq ?_
      refine J.so ?_
      refine JT.callD rfl rfl (Up.of (Imp.refl _)) (l08awake_fn _) ?_
      refine JT.c rfl ?_
      refine JT.done ?_
      refine J.condF rfl ?_
      refine J.skip ?_
      refine seqQ_n ?_
      refine J.so ?_
      refine JT.y rfl (Ev.Lw rfl rfl) ?_
      refine JT.c rfl ?_
      refine JT.callS rfl rfl (Up.of (Imp.refl _)) (l08play_ok _ (by first | assumption | omega | decide | exact rfl) (by first | assumption | omega | decide | exact rfl)) (fun x19 _ => ?_)
      refine JT.c rfl ?_
      refine JT.done ?_
      refine J.seq ?_
      refine J.so ?_
      iterate 2 refine JT.c rfl ?_
      refine JT.done ?_
      refine J.condF rfl ?_
      refine J.skip ?_
      refine seqQ_n ?_
      refine J.so ?_
      refine JT.c rfl ?_
      refine JT.y rfl (Ev.Lw rfl rfl) ?_
      refine JT.callS rfl rfl (Up.of (.take .here (Imp.refl _))) (lnGet_I _ _ _ _ (by first | assumption | omega | decide | exact rfl)) (fun ⟨a25, c25⟩ _ => ?_)
      iterate 3 refine JT.c rfl ?_
      refine JT.new (fun b10 => ?_)
      refine JT.w rfl rfl rfl rfl rfl ?_
      refine JT.c rfl ?_
      refine JT.done ?_
      refine J.so ?_
      refine JT.c rfl ?_
      refine JT.y rfl (Ev.Lw rfl rfl) ?_
      refine JT.callD rfl rfl (Up.of (.take (.there (.there .here)) (Imp.refl _))) (l08do_fn _ _ _ _ (by first | assumption | omega | decide | exact rfl)) ?_
      refine JT.c rfl ?_
      refine JT.done ?_
      refine J.so ?_
      refine JT.c rfl ?_
      refine JT.y rfl (Ev.Lw rfl rfl) ?_
      refine JT.callS rfl rfl (Up.of (.take .here (Imp.refl _))) (lnGet_I _ _ _ _ (by first | assumption | omega | decide | exact rfl)) (fun ⟨a34, c34⟩ _ => ?_)
      iterate 3 refine JT.c rfl ?_
      refine JT.new (fun b13 => ?_)
      refine JT.w rfl rfl rfl rfl rfl ?_
      refine JT.c rfl ?_
      refine JT.done ?_
      refine J.so ?_
      refine JT.y rfl (Ev.Lw rfl rfl) ?_
      refine JT.y rfl (Ev.fa' 1 rfl rfl) ?_
      refine JT.y rfl (Ev.Lf rfl (Nat.le_of_ble_eq_true rfl)) ?_
      refine JT.y rfl (Ev.eqT rfl rfl) ?_
      refine JT.c rfl ?_
      refine JT.gp rfl (fun h3 => ?_) (fun h3 => ?_)
      refine JT.c rfl ?_
      refine JT.gT rfl (by first | assumption | omega) ?_
      refine JT.y rfl (Ev.int rfl rfl rfl) ?_
      refine JT.y rfl (Ev.pickTp rfl (by first | assumption | omega) rfl) ?_
      refine JT.c rfl ?_
      refine JT.gn rfl (fun h4 => ?_) (fun h4 => ?_)
      refine JT.c rfl ?_
      refine JT.gF rfl (by first | assumption | omega) ?_
      refine JT.c rfl ?_
      refine JT.gF rfl (by first | assumption | omega) ?_
      refine JT.c rfl ?_
      refine JT.gF rfl (by first | assumption | omega) ?_
      refine JT.c rfl ?_
      refine JT.gp rfl (fun h5 => ?_) (fun h5 => ?_)
      refine JT.y rfl (Ev.Lw rfl rfl) ?_
      refine JT.gT rfl (by first | assumption | omega) ?_
      refine JT.y rfl (Ev.Lw rfl rfl) ?_
      refine JT.gT rfl (by first | assumption | omega) ?_
      refine JT.callD rfl rfl (Up.of (Imp.refl _)) r8Same_fn ?_
      refine JT.gF rfl (by first | assumption | omega) ?_
      refine JT.y rfl (Ev.pickTp rfl (by first | assumption | omega) rfl) ?_
      refine JT.y rfl (Ev.pickFp rfl (by first | assumption | omega) rfl) ?_
      refine JT.c rfl ?_
      refine JT.done ?_
      refine J.ret ?_
      refine retQD (.t rfl .nil) ?_ (Up.of (.dropT (.dropT (.dropT (.dropT (.dropT (.dropT (.dropT (.dropT (Imp.refl _))))))))))
      rotate_left
      iterate 2 refine JT.gTs rfl (by first | assumption | omega) ?_
      refine JT.gF rfl (by first | assumption | omega) ?_
      iterate 2 refine JT.y rfl (Ev.pickFp rfl (by first | assumption | omega) rfl) ?_
      refine JT.c rfl ?_
      refine JT.done ?_
      refine J.ret ?_
      refine retQD (.t rfl .nil) ?_ (Up.of (.dropT (.dropT (.dropT (.dropT (.dropT (.dropT (.dropT (.dropT (Imp.refl _))))))))))
      rotate_left
      iterate 3 refine JT.gFs rfl (by first | assumption | omega) ?_
      iterate 3 refine JT.skipU rfl ?_
      refine JT.gFs rfl (by first | assumption | omega) ?_
      refine JT.y rfl (Ev.pickTp rfl (by first | assumption | omega) rfl) ?_
      refine JT.c rfl ?_
      refine JT.done ?_
      refine J.ret ?_
      refine retQD (.t rfl .nil) rfl (Up.of (.dropT (.dropT (.dropT (.dropT (.dropT (.dropT (.dropT (.dropT (Imp.refl _))))))))))
      refine JT.gTs rfl (by first | assumption | omega) ?_
      refine JT.y rfl (Ev.pickFp rfl (by first | assumption | omega) rfl) ?_
      refine JT.c rfl ?_
      refine JT.gk rfl ?_
      refine JT.c rfl ?_
      refine JT.gk rfl ?_
      refine JT.c rfl ?_
      refine JT.gk rfl ?_
      refine JT.c rfl ?_
      refine JT.gk rfl ?_
      refine JT.c rfl ?_
      refine JT.gp rfl (fun h4 => ?_) (fun h4 => ?_)
      refine JT.y rfl (Ev.Lw rfl rfl) ?_
      refine JT.gT rfl (by first | assumption | omega) ?_
      refine JT.y rfl (Ev.Lw rfl rfl) ?_
      refine JT.gT rfl (by first | assumption | omega) ?_
      refine JT.callD rfl rfl (Up.of (Imp.refl _)) r8Same_fn ?_
      refine JT.gk rfl ?_
      refine JT.y rfl (Ev.pickTp rfl (by first | assumption | omega) rfl) ?_
      refine JT.y rfl (Ev.pickF rfl rfl) ?_
      refine JT.c rfl ?_
      refine JT.done ?_
      refine J.ret ?_
      refine retQD (.t rfl .nil) ?_ (Up.of (.dropT (.dropT (.dropT (.dropT (.dropT (.dropT (.dropT (.dropT (Imp.refl _))))))))))
      rotate_left
      iterate 2 refine JT.gTs rfl (by first | assumption | omega) ?_
      refine JT.gk rfl ?_
      refine JT.y rfl (Ev.pickFp rfl (by first | assumption | omega) rfl) ?_
      refine JT.y rfl (Ev.pickF rfl rfl) ?_
      refine JT.c rfl ?_
      refine JT.done ?_
      refine J.ret ?_
      refine retQD (.t rfl .nil) ?_ (Up.of (.dropT (.dropT (.dropT (.dropT (.dropT (.dropT (.dropT (.dropT (Imp.refl _))))))))))
      rotate_left
    · simp only [mkRet]; rw [decide_eq_true (hA (fun h => h4 h.2)).2]
    · exfalso; have := (hA (fun h => h4 h.2)).1; rw [this] at h5; rcases h5 with ⟨e1, e2⟩ | ⟨e1, e2⟩ <;> rw [e1] at e2 <;> cases e2
    · simp only [mkRet]; rw [decide_eq_true (hA (fun h => h3 h.1)).2]
    · exfalso; have := (hA (fun h => h3 h.1)).1; rw [this] at h4; rcases h4 with ⟨e1, e2⟩ | ⟨e1, e2⟩ <;> rw [e1] at e2 <;> cases e2
  · focus
      refine J.so ?_
      refine JT.box rfl (fun b4 => ?_)
      refine JT.box rfl (fun b6 => ?_)
      refine JT.box rfl (fun b7 => ?_)
      refine JT.c rfl ?_
      refine JT.done ?_
      refine J.seq ?_
      refine J.so ?_
      refine JT.callD rfl rfl (Up.of (Imp.refl _)) (l08awake_fn _) ?_
      refine JT.c rfl ?_
      refine JT.done ?_
      refine J.condF rfl ?_
      refine J.skip ?_
      refine seqQ_n ?_
      refine J.so ?_
      refine JT.y rfl (Ev.Lw rfl rfl) ?_
      refine JT.c rfl ?_
      refine JT.callD rfl rfl (Up.of (Imp.refl _)) (l08play_no _ (by first | assumption | omega | decide | exact rfl)) ?_
      refine JT.c rfl ?_
      refine JT.done ?_
      refine J.seq ?_
      refine J.so ?_
      iterate 2 refine JT.c rfl ?_
      refine JT.done ?_
      refine J.condT rfl ?_
      refine J.so ?_
      refine JT.c rfl ?_
      refine JT.done ?_
      refine J.ret ?_
      refine seqQ_r ?_
      refine retQD (.t rfl .nil) rfl (Up.of (.dropT (.dropT (.dropT (Imp.refl _)))))
end Go.Proofs.Ytojegknfbgflnaa
