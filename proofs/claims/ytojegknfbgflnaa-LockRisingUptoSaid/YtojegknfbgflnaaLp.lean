/- The lock of the program: what its functions do. Conditions: none. -/
import Derived.Test.YtojegknfbgflnaaBl
import Derived.Test.YtojegknfbgflnaaLs
import Derived.Test.YtojegknfbgflnaaSlR
set_option linter.unusedSimpArgs false
set_option linter.unusedVariables false
set_option maxRecDepth 100000
set_option maxHeartbeats 2000000
namespace Go.Proofs.Ytojegknfbgflnaa
open Go Go.SL
attribute [local irreducible] pc rc SlT Me Mt It pt ro pur ex sep old Meets

instance : TE 29 Owner ownerC 2 := ⟨ownerC_one, by decide⟩
/-! ### Slices of owners -/
theorem slIndexO_fn {a : Option Addr} {c : Nat} {xs : List Owner} (o : Owner) {F : List Assn} [Hs : HS F (.slice a xs.length c) Owner ownerC 2 c xs] : Meets Try.prog 49 [.slice a xs.length c, ov o] F (Det (i64 (ix xs o)) F) := by
  refine Meets.intro b49 k49 (by simp) ?_
  refine J.sl Hs (fun hC hL hN => ?_)
  focus
    refine J.so ?_
    refine JT.box rfl (fun b3 => ?_)
    refine JT.c rfl ?_
    refine JT.done ?_
    refine J.seq ?_
    refine J.so ?_
    iterate 3 refine JT.c rfl ?_
    refine JT.done ?_
    refine J.block ?_
  refine J.lp (ι := Nat) (fun k => k ≤ xs.length ∧ ∀ j, j < k → nth xs j ≠ o) (fun k => [(8, i64 k)]) (fun _ => pc b3 29 (ownerC o) :: F) (fun k => xs.length - k) 0 ⟨by omega, fun j hj => by omega⟩ (by (repeat (first | exact subx_nil | apply subx_dup rfl | apply subx_cons rfl))) (Up.refl _) (fun k hk => ?_)
  obtain ⟨hk, hn⟩ := hk
  focus
    refine J.so ?_
    refine JT.y rfl (Ev.int rfl rfl rfl) ?_
    refine JT.done ?_
    refine J.seq ?_
    refine J.c rfl (fun h1 => ?_) (fun h1 => ?_)
    refine J.skip ?_
    refine seqQ_n ?_
    refine J.seq ?_
    refine J.block ?_
    refine J.so ?_
    iterate 2 refine JT.c rfl ?_
    refine JT.done ?_
    refine J.so ?_
    refine JT.y rfl (Ev.Lw rfl rfl) ?_
    iterate 2 refine JT.c rfl ?_
    refine JT.y rfl (Ev.iC rfl rfl (by omega)) ?_
    refine JT.y rfl (Ev.LE rfl (by omega)) ?_
    refine JT.y rfl (Ev.eqT rfl rfl) ?_
    refine JT.done ?_
    refine J.c rfl (fun h2 => ?_) (fun h2 => ?_)
    refine J.so ?_
    iterate 2 refine JT.c rfl ?_
    refine JT.done ?_
    refine J.ret ?_
    refine blockQ_r ?_
    iterate 2 refine seqQ_r ?_
    refine blockQ_r ?_
    refine seqQ_r ?_
    refine retQD (.t rfl .nil) ?_ (Up.of (.dropT (Imp.refl _)))
    rotate_left
    refine J.skip ?_
    refine blockQ_n ?_
    refine seqQ_n ?_
    refine J.ops ?_
    refine JT.y rfl (Ev.addN rfl rfl (by omega)) ?_
    refine JT.c rfl ?_
    refine JT.done ?_
    refine seqQ_n ?_
    refine ⟨_, ?_, (by omega), (subx_cons rfl (subx_dup rfl (subx_cons rfl (subx_cons rfl (subx_cons rfl (subx_cons rfl (subx_cons rfl (subx_cons rfl subx_nil)))))))), (Up.of (.take .here (Imp.refl _)))⟩
    rotate_left
    refine J.exit ?_
    iterate 2 refine seqQ_x ?_
    refine blockQ_hit ?_
    refine seqQ_n ?_
    refine J.so ?_
    refine JT.c rfl ?_
    refine JT.done ?_
    refine J.ret ?_
    refine retQD (.t rfl .nil) ?_ (Up.of (.dropT (Imp.refl _)))
    rotate_left
  · simp only [mkRet]; rw [ix_at (by omega) hn (Eq.symm h2)]
  · exact ⟨by omega, all_lt_succ hn (fun e => h2 e.symm)⟩
  · simp only [mkRet]; rw [ix_no fun j hj => hn j (by omega)]

theorem slContO_fn {a : Option Addr} {c : Nat} {xs : List Owner} (o : Owner) {F : List Assn} [Hs : HS F (.slice a xs.length c) Owner ownerC 2 c xs] : Meets Try.prog 46 [.slice a xs.length c, ov o] F (Det (.bool (decide (o ∈ xs))) F) := by
  refine Meets.intro b46 k46 (by simp) ?_
  focus
    refine J.so ?_
    refine JT.box rfl (fun b3 => ?_)
    refine JT.c rfl ?_
    refine JT.done ?_
    refine J.so ?_
    refine JT.c rfl ?_
    refine JT.y rfl (Ev.Lw rfl rfl) ?_
    refine JT.callD rfl rfl (Up.of (Imp.refl _)) (slIndexO_fn _) ?_
    refine JT.y rfl (Ev.int rfl rfl rfl) ?_
    refine JT.c rfl ?_
    refine JT.done ?_
    refine J.ret ?_
    refine retQD (.t rfl .nil) ?_ (Up.of (.dropT (Imp.refl _)))
  simp only [mkRet, ix_ge]

theorem slCloneO_fn {a : Option Addr} {c : Nat} {xs : List Owner} {F : List Assn} [Hs : HS F (.slice a xs.length c) Owner ownerC 2 c xs] (hL : xs.length ≤ 8388608) : Meets Try.prog 48 [.slice a xs.length c] F
    (Some' (fun _ : Option Addr × Nat => True) (fun x => .slice x.1 xs.length x.2) (fun x => SlT true ownerC 2 (.slice x.1 xs.length x.2) x.2 xs :: F)) := by
  refine Meets.intro b48 k48 (by simp) ?_
  refine J.sl Hs (fun hC hL' hN => ?_)
  focus
    refine J.so ?_
    refine JT.c rfl ?_
    refine JT.done ?_
    refine J.seq ?_
    refine J.so ?_
    iterate 2 refine JT.c rfl ?_
    refine JT.done ?_
    refine J.c rfl (fun h1 => ?_) (fun h1 => ?_)
    refine J.so ?_
    refine JT.c rfl ?_
    refine JT.done ?_
    refine J.ret ?_
    refine seqQ_r ?_
    rotate_left
    refine J.skip ?_
    refine seqQ_n ?_
    refine J.so ?_
    refine JT.b0 (fun a5 => ?_)
    refine JT.c rfl ?_
    (refine JT.A3 rfl rfl rfl (by decide) (by (try simp only [List.length_nil, List.length_cons, List.length_append, List.length_take, List.length_drop, List.length_set]); omega) (fun a7 c7 hc7 => ?_))
    refine JT.c rfl ?_
    refine JT.done ?_
    refine J.ret ?_
    refine retQS ⟨_, _⟩ (.t rfl .nil) trivial rfl (Up.of (.take .here (Imp.refl _)))
  · obtain rfl : xs = [] := hN (by simpa using h1)
    exact retQS (none, 0) (.t rfl .nil) trivial rfl (Up.nilS true (by decide) (Up.refl _))

theorem lkCheck_fn (o : Owner) (F : List Assn) : Meets Try.prog 23 [ov o] F (Det (i64 (ckE o)) F) := by
  refine Meets.intro b23 k23 (by simp) ?_
  focus
    refine J.so ?_
    refine JT.box rfl (fun b1 => ?_)
    refine JT.c rfl ?_
    refine JT.done ?_
    refine J.seq ?_
    refine J.so ?_
    refine JT.y rfl (Ev.fa' 0 rfl rfl) ?_
    refine JT.y rfl (Ev.L rfl rfl) ?_
    refine JT.y rfl (Ev.int rfl rfl rfl) ?_
    refine JT.c rfl ?_
    refine JT.yh rfl rfl (fun h1 => Ev.fa' 0 rfl rfl) ?_
    refine JT.yh rfl rfl (fun h1 => by simp only [h1, gd_true, gd_false, Bool.not_false, Bool.not_true, Bool.true_and, Bool.and_true]; exact Ev.L rfl rfl) ?_
    refine JT.yh rfl rfl (fun h1 => by simp only [h1, gd_true, gd_false, Bool.not_false, Bool.not_true, Bool.true_and, Bool.and_true]; exact Ev.int rfl rfl rfl) ?_
    refine JT.y rfl (Ev.pickO rfl rfl rfl) ?_
    refine JT.c rfl ?_
    refine JT.yh rfl rfl (fun h1 => Ev.fa' 1 rfl rfl) ?_
    refine JT.yh rfl rfl (fun h1 => by simp only [h1, gd_true, gd_false, Bool.not_false, Bool.not_true, Bool.true_and, Bool.and_true]; exact Ev.L rfl rfl) ?_
    refine JT.yh rfl rfl (fun h1 => by simp only [h1, gd_true, gd_false, Bool.not_false, Bool.not_true, Bool.true_and, Bool.and_true]; exact Ev.int rfl rfl rfl) ?_
    refine JT.y rfl (Ev.pickO rfl rfl rfl) ?_
    refine JT.c rfl ?_
    refine JT.yh rfl rfl (fun h1 => Ev.fa' 1 rfl rfl) ?_
    refine JT.yh rfl rfl (fun h1 => by simp only [h1, gd_true, gd_false, Bool.not_false, Bool.not_true, Bool.true_and, Bool.and_true]; exact Ev.L rfl rfl) ?_
    refine JT.yh rfl rfl (fun h1 => by simp only [h1, gd_true, gd_false, Bool.not_false, Bool.not_true, Bool.true_and, Bool.and_true]; exact Ev.int rfl rfl rfl) ?_
    refine JT.y rfl (Ev.pickO rfl rfl rfl) ?_
    refine JT.done ?_
    refine J.c rfl (fun h1 => ?_) (fun h1 => ?_)
    refine J.so ?_
    refine JT.c rfl ?_
    refine JT.done ?_
    refine J.ret ?_
    refine seqQ_r ?_
    refine retQD (.t rfl .nil) ?_ (Up.of (.dropT (Imp.refl _)))
    rotate_left
    refine J.skip ?_
    refine seqQ_n ?_
    refine J.so ?_
    refine JT.c rfl ?_
    refine JT.done ?_
    refine J.ret ?_
    refine retQD (.t rfl .nil) ?_ (Up.of (.dropT (Imp.refl _)))
    rotate_left
  all_goals simp only [mkRet]
  · rw [ckE, if_neg (by unfold okO; omega)]
  · rw [ckE, if_pos (by unfold okO; omega)]

theorem lkThere_nil (F : List Assn) : Meets Try.prog 47 [.pointer none] F (Det (.bool false) F) := by
  refine Meets.intro b47 k47 (by simp) ?_
  focus
    refine J.so ?_
    refine JT.c rfl ?_
    refine JT.done ?_
    refine J.so ?_
    iterate 3 refine JT.c rfl ?_
    iterate 4 refine JT.skip rfl rfl ?_
    refine JT.y rfl (Ev.pickF rfl rfl) ?_
    refine JT.c rfl ?_
    refine JT.done ?_
    refine J.ret ?_
    refine retQD (.t rfl .nil) rfl (Up.of (Imp.refl _))
theorem lkThere_fn {b T : Nat} {m : Bool} {l : List Value} {F r : List Assn} [Hs : HP F b T (.bool m :: l) r] : Meets Try.prog 47 [ptr b] F (Det (.bool m) F) := by
  refine Meets.intro b47 k47 (by simp) ?_
  focus
    refine J.so ?_
    refine JT.c rfl ?_
    refine JT.done ?_
    refine J.so ?_
    iterate 3 refine JT.c rfl ?_
    refine JT.yg rfl rfl (fun h1 => Ev.calc rfl) ?_
    refine JT.yg rfl rfl (fun h1 => by simp only [h1, gd_true, gd_false, Bool.not_false, Bool.not_true, Bool.true_and, Bool.and_true]; exact Ev.calc rfl) ?_
    refine JT.yg rfl rfl (fun h1 => by simp only [h1, gd_true, gd_false, Bool.not_false, Bool.not_true, Bool.true_and, Bool.and_true]; exact Ev.fa' 0 rfl rfl) ?_
    refine JT.yg rfl rfl (fun h1 => by simp only [h1, gd_true, gd_false, Bool.not_false, Bool.not_true, Bool.true_and, Bool.and_true]; exact Ev.L rfl rfl) ?_
    refine JT.y rfl (Ev.pickT rfl rfl) ?_
    refine JT.c rfl ?_
    refine JT.done ?_
    refine J.ret ?_
    refine retQD (.t rfl .nil) rfl (Up.of (Imp.refl _))

theorem lkAsked_nil (o : Owner) (F : List Assn) : Meets Try.prog 45 [.pointer none, ov o] F (Det (i64 4) F) := by
  refine Meets.intro b45 k45 (by simp) ?_
  focus
    refine J.so ?_
    refine JT.box rfl (fun b3 => ?_)
    refine JT.c rfl ?_
    refine JT.done ?_
    refine J.seq ?_
    refine J.so ?_
    refine JT.c rfl ?_
    refine JT.callD rfl rfl (Up.of (Imp.refl _)) (lkThere_nil _) ?_
    refine JT.c rfl ?_
    refine JT.done ?_
    refine J.condT rfl ?_
    refine J.so ?_
    refine JT.c rfl ?_
    refine JT.done ?_
    refine J.ret ?_
    refine seqQ_r ?_
    refine retQD (.t rfl .nil) rfl (Up.of (.dropT (Imp.refl _)))
theorem lkAsked_fn {b T : Nat} {l : List Value} (o : Owner) {F r : List Assn} [Hs : HP F b T (.bool true :: l) r] : Meets Try.prog 45 [ptr b, ov o] F (Det (i64 (ckE o)) F) := by
  refine Meets.intro b45 k45 (by simp) ?_
  focus
    refine J.so ?_
    refine JT.box rfl (fun b3 => ?_)
    refine JT.c rfl ?_
    refine JT.done ?_
    refine J.seq ?_
    refine J.so ?_
    refine JT.c rfl ?_
    refine JT.callD rfl rfl (Up.of (Imp.refl _)) lkThere_fn ?_
    refine JT.c rfl ?_
    refine JT.done ?_
    refine J.condF rfl ?_
    refine J.skip ?_
    refine seqQ_n ?_
    refine J.so ?_
    refine JT.y rfl (Ev.Lw rfl rfl) ?_
    refine JT.callD rfl rfl (Up.of (Imp.refl _)) (lkCheck_fn _ _) ?_
    refine JT.c rfl ?_
    refine JT.done ?_
    refine J.ret ?_
    refine retQD (.t rfl .nil) rfl (Up.of (.dropT (Imp.refl _)))
theorem lkAsked_no {b T : Nat} {l : List Value} (o : Owner) {F r : List Assn} [Hs : HP F b T (.bool false :: l) r] : Meets Try.prog 45 [ptr b, ov o] F (Det (i64 4) F) := by
  refine Meets.intro b45 k45 (by simp) ?_
  focus
    refine J.so ?_
    refine JT.box rfl (fun b3 => ?_)
    refine JT.c rfl ?_
    refine JT.done ?_
    refine J.seq ?_
    refine J.so ?_
    refine JT.c rfl ?_
    refine JT.callD rfl rfl (Up.of (Imp.refl _)) lkThere_fn ?_
    refine JT.c rfl ?_
    refine JT.done ?_
    refine J.condT rfl ?_
    refine J.so ?_
    refine JT.c rfl ?_
    refine JT.done ?_
    refine J.ret ?_
    refine seqQ_r ?_
    refine retQD (.t rfl .nil) rfl (Up.of (.dropT (Imp.refl _)))

theorem lkAsk_fn (b : Nat) (s : LS) (o : Owner) (F : List Assn) : Meets Try.prog 16 [ptr b, ov o] (LockP b s :: F) (Det (.tuple #[.bool (s.ask o).2.1, i64 (s.ask o).2.2]) (LockP b (s.ask o).1 :: F)) := by
  refine Meets.intro b16 k16 (by simp) ?_
  refine J.openLock Has.here (fun T a c hC hL => ?_)
  focus
    refine J.so ?_
    refine JT.box rfl (fun b3 => ?_)
    iterate 2 refine JT.c rfl ?_
    refine JT.done ?_
    refine J.seq ?_
    refine J.so ?_
    refine JT.c rfl ?_
    refine JT.y rfl (Ev.Lw rfl rfl) ?_
    refine JT.callD rfl rfl (Up.of (Imp.refl _)) (lkAsked_fn _) ?_
    refine JT.c rfl ?_
    refine JT.done ?_
    refine J.so ?_
    refine JT.c rfl ?_
    refine JT.y rfl (Ev.int rfl rfl rfl) ?_
    refine JT.done ?_
    refine J.c rfl (fun h1 => ?_) (fun h1 => ?_)
    refine J.so ?_
    iterate 3 refine JT.c rfl ?_
    refine JT.done ?_
    refine J.ret ?_
    refine seqQ_r ?_
    rotate_left
    refine J.skip ?_
    refine seqQ_n ?_
    refine J.seq ?_
    refine J.block ?_
    refine J.so ?_
    iterate 2 refine JT.c rfl ?_
    refine JT.y rfl (Ev.fa' 1 rfl rfl) ?_
    refine JT.y rfl (Ev.L rfl rfl) ?_
    refine JT.c rfl ?_
    refine JT.yg rfl rfl (fun h2 => Ev.calc rfl) ?_
    iterate 2 refine JT.yg rfl rfl (fun h2 => by simp only [h2, gd_true, gd_false, Bool.not_false, Bool.not_true, Bool.true_and, Bool.and_true]; exact Ev.calc rfl) ?_
    refine JT.yg rfl rfl (fun h2 => by simp only [h2, gd_true, gd_false, Bool.not_false, Bool.not_true, Bool.true_and, Bool.and_true]; exact Ev.Lp (us := [_, _]) rfl (Nat.le_of_ble_eq_true rfl) rfl) ?_
    refine JT.yg rfl rfl (fun h2 => Ev.Lw rfl rfl) ?_
    refine JT.yg rfl rfl (fun h2 => by simp only [h2, gd_true, gd_false, Bool.not_false, Bool.not_true, Bool.true_and, Bool.and_true]; exact Ev.eqs rfl rfl (by repeat (first | exact EqC.nil | apply EqC.i | apply EqC.b | apply EqC.s))) ?_
    refine JT.y rfl (Ev.pickA rfl rfl rfl) ?_
    refine JT.c rfl ?_
    refine JT.done ?_
    refine J.c rfl (fun h2 => ?_) (fun h2 => ?_)
    refine J.so ?_
    iterate 2 refine JT.c rfl ?_
    refine JT.done ?_
    refine J.ret ?_
    refine blockQ_r ?_
    refine seqQ_r ?_
    rotate_left
    refine J.so ?_
    iterate 2 refine JT.c rfl ?_
    refine JT.y rfl (Ev.fa' 4 rfl rfl) ?_
    refine JT.y rfl (Ev.L rfl rfl) ?_
    refine JT.y rfl (Ev.Lw rfl rfl) ?_
    refine JT.callD rfl rfl (Up.of (Imp.refl _)) (slContO_fn _) ?_
    refine JT.c rfl ?_
    refine JT.done ?_
    refine J.c rfl (fun h3 => ?_) (fun h3 => ?_)
    refine J.so ?_
    iterate 2 refine JT.c rfl ?_
    refine JT.done ?_
    refine J.ret ?_
    refine blockQ_r ?_
    refine seqQ_r ?_
    rotate_left
    refine J.so ?_
    iterate 2 refine JT.c rfl ?_
    refine JT.y rfl (Ev.fa' 1 rfl rfl) ?_
    refine JT.y rfl (Ev.L rfl rfl) ?_
    iterate 2 refine JT.c rfl ?_
    refine JT.done ?_
    refine J.c rfl (fun h4 => ?_) (fun h4 => ?_)
    refine J.so ?_
    iterate 2 refine JT.c rfl ?_
    refine JT.y rfl (Ev.Lw rfl rfl) ?_
    refine JT.c rfl ?_
    refine JT.y rfl (Ev.fa' 1 rfl rfl) ?_
    refine JT.s rfl rfl rfl rfl rfl (Nat.le_of_ble_eq_true rfl) rfl ?_
    refine JT.yA rfl (Ev.Lw rfl rfl) ?_
    refine JT.c rfl ?_
    refine JT.y rfl (Ev.fa' 2 rfl rfl) ?_
    refine JT.s rfl rfl rfl rfl rfl (Nat.le_of_ble_eq_true rfl) rfl ?_
    refine JT.done ?_
    refine J.so ?_
    iterate 2 refine JT.c rfl ?_
    refine JT.done ?_
    refine J.ret ?_
    refine blockQ_r ?_
    refine seqQ_r ?_
    rotate_left
    refine J.so ?_
    iterate 2 refine JT.c rfl ?_
    refine JT.y rfl (Ev.fa' 4 rfl rfl) ?_
    refine JT.y rfl (Ev.L rfl rfl) ?_
    refine JT.c rfl ?_
    refine JT.y rfl (Ev.int rfl rfl rfl) ?_
    refine JT.c rfl ?_
    refine JT.done ?_
    refine J.c rfl (fun h5 => ?_) (fun h5 => ?_)
    refine J.so ?_
    iterate 2 refine JT.c rfl ?_
    refine JT.done ?_
    refine J.ret ?_
    refine blockQ_r ?_
    refine seqQ_r ?_
    rotate_left
    refine J.skip ?_
    refine blockQ_n ?_
    refine seqQ_n ?_
    refine J.so ?_
    iterate 3 refine JT.c rfl ?_
    refine JT.y rfl (Ev.fa' 4 rfl rfl) ?_
    refine JT.y rfl (Ev.L rfl rfl) ?_
    iterate 2 refine JT.c rfl ?_
    refine JT.y rfl (Ev.fa' 4 rfl rfl) ?_
    refine JT.y rfl (Ev.L rfl rfl) ?_
    iterate 3 refine JT.c rfl ?_
    refine JT.y rfl (Ev.fa' 4 rfl rfl) ?_
    refine JT.y rfl (Ev.L rfl rfl) ?_
    refine JT.c rfl ?_
    ((refine JT.G rfl (by first | exact Bd.no | exact Bd.c rfl | exact Bd.si rfl (by omega)) (by first | exact Bd.no | exact Bd.c rfl | exact Bd.si rfl (by omega)) (by first | exact Bd.no | exact Bd.c rfl | exact Bd.si rfl (by omega)) (by decide) (by (try simp only [List.length_nil, List.length_cons, List.length_append, List.length_take, List.length_drop, List.length_set]); omega) (by (try simp only [List.length_nil, List.length_cons, List.length_append, List.length_take, List.length_drop, List.length_set]); omega) (by (try simp only [List.length_nil, List.length_cons, List.length_append, List.length_take, List.length_drop, List.length_set]); omega) (by (try simp only [List.length_nil, List.length_cons, List.length_append, List.length_take, List.length_drop, List.length_set]); omega) (fun a68 => ?_)); (try simp only [List.take_length, List.drop_zero, Nat.sub_zero]))
    refine JT.y rfl (Ev.Lw rfl rfl) ?_
    refine JT.bsl1 (by repeat (first | exact Cells.nil | apply Cells.z | (apply Cells.cl; rfl; rfl; rfl))) (by simp only [List.length_cons, List.length_nil, Nat.reduceAdd]; rfl) (by decide) (by rfl) (fun a70 => ?_)
    (refine JT.A2 rfl rfl (by rfl) rfl (by decide) (by (try simp only [List.length_nil, List.length_cons, List.length_append, List.length_take, List.length_drop, List.length_set]); omega) (by (try simp only [List.length_nil, List.length_cons, List.length_append, List.length_take, List.length_drop, List.length_set]); omega) (fun a71 c71 hc71 => ?_))
    refine JT.c rfl ?_
    refine JT.y rfl (Ev.fa' 4 rfl rfl) ?_
    refine JT.s rfl rfl rfl rfl rfl (Nat.le_of_ble_eq_true rfl) rfl ?_
    refine JT.done ?_
    refine J.so ?_
    iterate 2 refine JT.c rfl ?_
    refine JT.done ?_
    refine J.ret ?_
    rotate_left
  all_goals (unfold LS.ask; (repeat (first | rw [if_pos (by (first | assumption | omega | grind))] | rw [if_neg (by (first | assumption | omega | grind))])))
  focus
    refine retQD (.t rfl (.t rfl .nil)) ?_ (Up.of (LockP.fold (.there .here) (.there .here) (.dropT (Imp.refl _))))
    rotate_left
  rotate_left 1
  focus
    refine retQD (.t rfl (.t rfl .nil)) rfl (Up.of (LockP.fold (.there .here) (.there .here) (.dropT (Imp.refl _))))
  focus
    refine retQD (.t rfl (.t rfl .nil)) rfl (Up.of (LockP.fold (.there .here) (.there .here) (.dropT (Imp.refl _))))
  focus
    refine retQD (.t rfl (.t rfl .nil)) rfl (Up.of (LockP.fold .here (.there .here) (.dropT (Imp.refl _))))
  focus
    refine retQD (.t rfl (.t rfl .nil)) rfl (Up.of (LockP.fold (.there .here) (.there .here) (.dropT (Imp.refl _))))
  focus
    refine retQD (.t rfl (.t rfl .nil)) rfl (Up.frz (.there .here) (Up.of (LockP.fold (.there .here) .here (.dropT (.dropT (.dropT (.dropT (Imp.refl _))))))))
  rw [ckE, if_neg (by assumption)]; rfl

theorem lkFree_fn (b : Nat) (s : LS) (o : Owner) (F : List Assn) : Meets Try.prog 18 [ptr b, ov o] (LockP b s :: F) (Det (.tuple #[ov (s.free o).2.1, .bool (s.free o).2.2.1, i64 (s.free o).2.2.2]) (LockP b (s.free o).1 :: F)) := by
  refine Meets.intro b18 k18 (by simp) ?_
  refine J.openLock Has.here (fun T a c hC hL => ?_)
  focus
    refine J.so ?_
    refine JT.box rfl (fun b3 => ?_)
    refine JT.new (fun b4 => ?_)
    iterate 2 refine JT.c rfl ?_
    refine JT.done ?_
    refine J.seq ?_
    refine J.so ?_
    refine JT.c rfl ?_
    refine JT.y rfl (Ev.Lw rfl rfl) ?_
    refine JT.callD rfl rfl (Up.of (Imp.refl _)) (lkAsked_fn _) ?_
    refine JT.c rfl ?_
    refine JT.done ?_
    refine J.so ?_
    refine JT.c rfl ?_
    refine JT.y rfl (Ev.int rfl rfl rfl) ?_
    refine JT.done ?_
    refine J.c rfl (fun h1 => ?_) (fun h1 => ?_)
    refine J.so ?_
    refine JT.y rfl (Ev.agg (by repeat (first | exact Cells.nil | apply Cells.z | (apply Cells.cl; rfl; rfl; rfl)))) ?_
    refine JT.c rfl ?_
    refine JT.w rfl rfl rfl rfl rfl ?_
    iterate 2 refine JT.c rfl ?_
    refine JT.done ?_
    refine J.ret ?_
    refine seqQ_r ?_
    rotate_left
    refine J.skip ?_
    refine seqQ_n ?_
    refine J.seq ?_
    refine J.so ?_
    iterate 2 refine JT.c rfl ?_
    refine JT.y rfl (Ev.fa' 1 rfl rfl) ?_
    refine JT.y rfl (Ev.L rfl rfl) ?_
    iterate 2 refine JT.c rfl ?_
    refine JT.yh rfl rfl (fun h2 => Ev.calc rfl) ?_
    iterate 2 refine JT.yh rfl rfl (fun h2 => by simp only [h2, gd_true, gd_false, Bool.not_false, Bool.not_true, Bool.true_and, Bool.and_true]; exact Ev.calc rfl) ?_
    refine JT.yh rfl rfl (fun h2 => by simp only [h2, gd_true, gd_false, Bool.not_false, Bool.not_true, Bool.true_and, Bool.and_true]; exact Ev.Lp (us := [_, _]) rfl (Nat.le_of_ble_eq_true rfl) rfl) ?_
    refine JT.yh rfl rfl (fun h2 => Ev.Lw rfl rfl) ?_
    refine JT.yh rfl rfl (fun h2 => by simp only [h2, gd_true, gd_false, Bool.not_false, Bool.not_true, Bool.true_and, Bool.and_true]; exact Ev.eqs rfl rfl (by repeat (first | exact EqC.nil | apply EqC.i | apply EqC.b | apply EqC.s))) ?_
    refine JT.y rfl (Ev.pickO rfl rfl rfl) ?_
    refine JT.done ?_
    refine J.c rfl (fun h2 => ?_) (fun h2 => ?_)
    refine J.so ?_
    refine JT.y rfl (Ev.agg (by repeat (first | exact Cells.nil | apply Cells.z | (apply Cells.cl; rfl; rfl; rfl)))) ?_
    refine JT.w rfl rfl rfl rfl rfl ?_
    iterate 2 refine JT.c rfl ?_
    refine JT.done ?_
    refine J.ret ?_
    refine seqQ_r ?_
    rotate_left
    refine J.skip ?_
    refine seqQ_n ?_
    refine J.seq ?_
    refine J.so ?_
    iterate 2 refine JT.c rfl ?_
    refine JT.y rfl (Ev.fa' 4 rfl rfl) ?_
    refine JT.y rfl (Ev.L rfl rfl) ?_
    refine JT.c rfl ?_
    refine JT.y rfl (Ev.int rfl rfl rfl) ?_
    refine JT.done ?_
    refine J.c rfl (fun h3 => ?_) (fun h3 => ?_)
    refine J.so ?_
    iterate 2 refine JT.c rfl ?_
    refine JT.y rfl (Ev.agg (by repeat (first | exact Cells.nil | apply Cells.z | (apply Cells.cl; rfl; rfl; rfl)))) ?_
    refine JT.c rfl ?_
    refine JT.y rfl (Ev.fa' 1 rfl rfl) ?_
    refine JT.s rfl rfl rfl rfl rfl (Nat.le_of_ble_eq_true rfl) rfl ?_
    refine JT.c rfl ?_
    refine JT.y rfl (Ev.fa' 2 rfl rfl) ?_
    refine JT.s rfl rfl rfl rfl rfl (Nat.le_of_ble_eq_true rfl) rfl ?_
    refine JT.done ?_
    refine J.so ?_
    refine JT.y rfl (Ev.agg (by repeat (first | exact Cells.nil | apply Cells.z | (apply Cells.cl; rfl; rfl; rfl)))) ?_
    refine JT.w rfl rfl rfl rfl rfl ?_
    iterate 2 refine JT.c rfl ?_
    refine JT.done ?_
    refine J.ret ?_
    refine seqQ_r ?_
    rotate_left
    refine J.skip ?_
    refine seqQ_n ?_
    refine J.so ?_
    iterate 4 refine JT.c rfl ?_
    refine JT.y rfl (Ev.fa' 4 rfl rfl) ?_
    refine JT.y rfl (Ev.L rfl rfl) ?_
    refine JT.y rfl (Ev.iC rfl rfl (by omega)) ?_
    refine JT.y rfl (Ev.LE rfl (by omega)) ?_
    iterate 2 refine JT.c rfl ?_
    refine JT.y rfl (Ev.fa' 4 rfl rfl) ?_
    refine JT.y rfl (Ev.L rfl rfl) ?_
    iterate 2 refine JT.c rfl ?_
    refine JT.y rfl (Ev.fa' 4 rfl rfl) ?_
    refine JT.y rfl (Ev.L rfl rfl) ?_
    iterate 3 refine JT.c rfl ?_
    refine JT.y rfl (Ev.fa' 4 rfl rfl) ?_
    refine JT.y rfl (Ev.L rfl rfl) ?_
    refine JT.c rfl ?_
    ((refine JT.G rfl (by first | exact Bd.no | exact Bd.c rfl | exact Bd.si rfl (by omega)) (by first | exact Bd.no | exact Bd.c rfl | exact Bd.si rfl (by omega)) (by first | exact Bd.no | exact Bd.c rfl | exact Bd.si rfl (by omega)) (by decide) (by (try simp only [List.length_nil, List.length_cons, List.length_append, List.length_take, List.length_drop, List.length_set]); omega) (by (try simp only [List.length_nil, List.length_cons, List.length_append, List.length_take, List.length_drop, List.length_set]); omega) (by (try simp only [List.length_nil, List.length_cons, List.length_append, List.length_take, List.length_drop, List.length_set]); omega) (by (try simp only [List.length_nil, List.length_cons, List.length_append, List.length_take, List.length_drop, List.length_set]); omega) (fun a65 => ?_)); (try simp only [List.take_length, List.drop_zero, Nat.sub_zero]))
    refine JT.c rfl ?_
    refine JT.y rfl (Ev.fa' 2 rfl rfl) ?_
    refine JT.s rfl rfl rfl rfl rfl (Nat.le_of_ble_eq_true rfl) rfl ?_
    refine JT.c rfl ?_
    refine JT.y rfl (Ev.fa' 4 rfl rfl) ?_
    refine JT.s rfl rfl rfl rfl rfl (Nat.le_of_ble_eq_true rfl) rfl ?_
    refine JT.done ?_
    refine J.so ?_
    iterate 2 refine JT.c rfl ?_
    refine JT.y rfl (Ev.fa' 2 rfl rfl) ?_
    refine JT.y rfl (Ev.Lp (us := [_, _]) rfl (Nat.le_of_ble_eq_true rfl) rfl) ?_
    refine JT.w rfl rfl rfl rfl rfl ?_
    iterate 2 refine JT.c rfl ?_
    refine JT.done ?_
    refine J.ret ?_
    rotate_left
  all_goals (unfold LS.free; (repeat (first | rw [if_pos (by (first | assumption | omega | grind))] | rw [if_neg (by (first | assumption | omega | grind))])))
  focus
    refine retQD (.w rfl rfl (.t rfl (.t rfl .nil))) ?_ (Up.of (LockP.fold (.there (.there .here)) (.there (.there .here)) (.dropT (.dropT (Imp.refl _)))))
    rotate_left
  rotate_left 1
  focus
    refine retQD (.w rfl rfl (.t rfl (.t rfl .nil))) rfl (Up.of (LockP.fold (.there (.there .here)) (.there (.there .here)) (.dropT (.dropT (Imp.refl _)))))
  focus
    refine retQD (.w rfl rfl (.t rfl (.t rfl .nil))) rfl (Up.of (LockP.fold (.there .here) (.there (.there .here)) (.dropT (.dropT (Imp.refl _)))))
  focus
    refine retQD (.w rfl rfl (.t rfl (.t rfl .nil))) rfl (Up.of (LockP.fold (.there .here) (.there .here) (.dropT (.dropT (.dropT (Imp.refl _))))))
  rw [ckE, if_neg (by assumption)]; rfl

theorem slIndexO_in {a : Option Addr} {c : Nat} {xs : List Owner} (o : Owner) {F : List Assn} [Hs : HS F (.slice a xs.length c) Owner ownerC 2 c xs] (hm : o ∈ xs) : Meets Try.prog 49 [.slice a xs.length c, ov o] F (Det (i64 ((xs.idxOf o : Nat) : Int)) F) := by
  rw [← (ix_lt hm).1]; exact slIndexO_fn o
theorem slIndexO_no {a : Option Addr} {c : Nat} {xs : List Owner} (o : Owner) {F : List Assn} [Hs : HS F (.slice a xs.length c) Owner ownerC 2 c xs] (hm : o ∉ xs) : Meets Try.prog 49 [.slice a xs.length c, ov o] F (Det (i64 (-1)) F) := by
  have : ix xs o = -1 := by rw [ix, if_neg hm]
  rw [← this]; exact slIndexO_fn o

theorem lkLeave_fn (b : Nat) (s : LS) (o : Owner) (F : List Assn) (hS : s.w.length ≤ 8388608) : Meets Try.prog 19 [ptr b, ov o] (LockP b s :: F) (Det (.tuple #[.bool (s.leave o).2.1, i64 (s.leave o).2.2]) (LockP b (s.leave o).1 :: F)) := by
  refine Meets.intro b19 k19 (by simp) ?_
  refine J.openLock Has.here (fun T a c hC hL => ?_)
  by_cases hm : o ∈ s.w
  · have hlt := (ix_lt hm).2
    focus
      refine J.so ?_
      refine JT.box rfl (fun b3 => ?_)
      iterate 2 refine JT.c rfl ?_
      refine JT.done ?_
      refine J.seq ?_
      refine J.so ?_
      refine JT.c rfl ?_
      refine JT.y rfl (Ev.Lw rfl rfl) ?_
      refine JT.callD rfl rfl (Up.of (Imp.refl _)) (lkAsked_fn _) ?_
      refine JT.c rfl ?_
      refine JT.done ?_
      refine J.so ?_
      refine JT.c rfl ?_
      refine JT.y rfl (Ev.int rfl rfl rfl) ?_
      refine JT.done ?_
      refine J.c rfl (fun h1 => ?_) (fun h1 => ?_)
      refine J.so ?_
      iterate 3 refine JT.c rfl ?_
      refine JT.done ?_
      refine J.ret ?_
      refine seqQ_r ?_
      rotate_left
      refine J.skip ?_
      refine seqQ_n ?_
      refine J.so ?_
      iterate 2 refine JT.c rfl ?_
      refine JT.y rfl (Ev.fa' 4 rfl rfl) ?_
      refine JT.y rfl (Ev.L rfl rfl) ?_
      refine JT.y rfl (Ev.Lw rfl rfl) ?_
      refine JT.callD rfl rfl (Up.of (Imp.refl _)) (slIndexO_in _ (by first | assumption | omega | decide | exact rfl)) ?_
      refine JT.c rfl ?_
      refine JT.done ?_
      refine J.seq ?_
      refine J.so ?_
      refine JT.c rfl ?_
      refine JT.y rfl (Ev.cltF rfl rfl (by omega)) ?_
      refine JT.done ?_
      refine J.condF rfl ?_
      refine J.skip ?_
      refine seqQ_n ?_
      refine J.so ?_
      iterate 3 refine JT.c rfl ?_
      refine JT.y rfl (Ev.fa' 4 rfl rfl) ?_
      refine JT.y rfl (Ev.L rfl rfl) ?_
      iterate 2 refine JT.c rfl ?_
      ((refine JT.G rfl (by first | exact Bd.no | exact Bd.c rfl | exact Bd.si rfl (by omega)) (by first | exact Bd.no | exact Bd.c rfl | exact Bd.si rfl (by omega)) (by first | exact Bd.no | exact Bd.c rfl | exact Bd.si rfl (by omega)) (by decide) (by (try simp only [List.length_nil, List.length_cons, List.length_append, List.length_take, List.length_drop, List.length_set]); omega) (by (try simp only [List.length_nil, List.length_cons, List.length_append, List.length_take, List.length_drop, List.length_set]); omega) (by (try simp only [List.length_nil, List.length_cons, List.length_append, List.length_take, List.length_drop, List.length_set]); omega) (by (try simp only [List.length_nil, List.length_cons, List.length_append, List.length_take, List.length_drop, List.length_set]); omega) (fun a29 => ?_)); (try simp only [List.take_length, List.drop_zero, Nat.sub_zero]))
      iterate 2 refine JT.c rfl ?_
      refine JT.y rfl (Ev.fa' 4 rfl rfl) ?_
      refine JT.y rfl (Ev.L rfl rfl) ?_
      refine JT.c rfl ?_
      refine JT.y rfl (Ev.addN rfl rfl (by omega)) ?_
      ((refine JT.G rfl (by first | exact Bd.no | exact Bd.c rfl | exact Bd.si rfl (by omega)) (by first | exact Bd.no | exact Bd.c rfl | exact Bd.si rfl (by omega)) (by first | exact Bd.no | exact Bd.c rfl | exact Bd.si rfl (by omega)) (by decide) (by (try simp only [List.length_nil, List.length_cons, List.length_append, List.length_take, List.length_drop, List.length_set]); omega) (by (try simp only [List.length_nil, List.length_cons, List.length_append, List.length_take, List.length_drop, List.length_set]); omega) (by (try simp only [List.length_nil, List.length_cons, List.length_append, List.length_take, List.length_drop, List.length_set]); omega) (by (try simp only [List.length_nil, List.length_cons, List.length_append, List.length_take, List.length_drop, List.length_set]); omega) (fun a36 => ?_)); (try simp only [List.take_length, List.drop_zero, Nat.sub_zero]))
      refine JT.A5 rfl rfl rfl (by decide) (by (try simp only [List.length_nil, List.length_cons, List.length_append, List.length_take, List.length_drop, List.length_set]); omega) (by (try simp only [List.length_nil, List.length_cons, List.length_append, List.length_take, List.length_drop, List.length_set]); omega) (fun a37 c37 => ?_)
      refine JT.c rfl ?_
      refine JT.y rfl (Ev.fa' 4 rfl rfl) ?_
      refine JT.s rfl rfl rfl rfl rfl (Nat.le_of_ble_eq_true rfl) rfl ?_
      refine JT.done ?_
      refine J.so ?_
      iterate 2 refine JT.c rfl ?_
      refine JT.done ?_
      refine J.ret ?_
      rotate_left
    all_goals (unfold LS.leave; (repeat (first | rw [if_pos (by (first | assumption | omega | grind))] | rw [if_neg (by (first | assumption | omega | grind))])))
    focus
      refine retQD (.t rfl (.t rfl .nil)) ?_ (Up.of (LockP.fold (.there .here) (.there .here) (.dropT (Imp.refl _))))
      rotate_left
    rotate_left 1
    focus
      refine retQD (.t rfl (.t rfl .nil)) rfl (Up.of (LockP.fold .here .here (.dropT (.dropT (.dropT (.dropT (Imp.refl _)))))))
    rw [ckE, if_neg (by assumption)]; rfl
  · focus
      refine J.so ?_
      refine JT.box rfl (fun b3 => ?_)
      iterate 2 refine JT.c rfl ?_
      refine JT.done ?_
      refine J.seq ?_
      refine J.so ?_
      refine JT.c rfl ?_
      refine JT.y rfl (Ev.Lw rfl rfl) ?_
      refine JT.callD rfl rfl (Up.of (Imp.refl _)) (lkAsked_fn _) ?_
      refine JT.c rfl ?_
      refine JT.done ?_
      refine J.so ?_
      refine JT.c rfl ?_
      refine JT.y rfl (Ev.int rfl rfl rfl) ?_
      refine JT.done ?_
      refine J.c rfl (fun h1 => ?_) (fun h1 => ?_)
      refine J.so ?_
      iterate 3 refine JT.c rfl ?_
      refine JT.done ?_
      refine J.ret ?_
      refine seqQ_r ?_
      rotate_left
      refine J.skip ?_
      refine seqQ_n ?_
      refine J.so ?_
      iterate 2 refine JT.c rfl ?_
      refine JT.y rfl (Ev.fa' 4 rfl rfl) ?_
      refine JT.y rfl (Ev.L rfl rfl) ?_
      refine JT.y rfl (Ev.Lw rfl rfl) ?_
      refine JT.callD rfl rfl (Up.of (Imp.refl _)) (slIndexO_no _ (by first | assumption | omega | decide | exact rfl)) ?_
      refine JT.c rfl ?_
      refine JT.done ?_
      refine J.seq ?_
      refine J.so ?_
      refine JT.c rfl ?_
      refine JT.y rfl (Ev.cltT rfl rfl (by decide)) ?_
      refine JT.done ?_
      refine J.condT rfl ?_
      refine J.so ?_
      iterate 2 refine JT.c rfl ?_
      refine JT.done ?_
      refine J.ret ?_
      refine seqQ_r ?_
      rotate_left
    all_goals (unfold LS.leave; (repeat (first | rw [if_pos (by (first | assumption | omega | grind))] | rw [if_neg (by (first | assumption | omega | grind))])))
    focus
      refine retQD (.t rfl (.t rfl .nil)) ?_ (Up.of (LockP.fold (.there .here) (.there .here) (.dropT (Imp.refl _))))
      rotate_left
    rotate_left 1
    focus
      refine retQD (.t rfl (.t rfl .nil)) rfl (Up.of (LockP.fold (.there .here) (.there .here) (.dropT (Imp.refl _))))
    rw [ckE, if_neg (by assumption)]; rfl

theorem lkHolder_fn (b : Nat) (s : LS) (F : List Assn) : Meets Try.prog 20 [ptr b] (LockP b s :: F) (Det (.tuple #[ov s.holder, .bool s.held]) (LockP b s :: F)) := by
  refine Meets.intro b20 k20 (by simp) ?_
  refine J.openLock Has.here (fun T a c hC hL => ?_)
  focus
    refine J.so ?_
    refine JT.new (fun b2 => ?_)
    refine JT.c rfl ?_
    refine JT.done ?_
    refine J.seq ?_
    refine J.so ?_
    refine JT.c rfl ?_
    refine JT.callD rfl rfl (Up.of (Imp.refl _)) lkThere_fn ?_
    refine JT.c rfl ?_
    refine JT.done ?_
    refine J.condF rfl ?_
    refine J.skip ?_
    refine seqQ_n ?_
    refine J.so ?_
    iterate 2 refine JT.c rfl ?_
    refine JT.y rfl (Ev.fa' 2 rfl rfl) ?_
    refine JT.y rfl (Ev.Lp (us := [_, _]) rfl (Nat.le_of_ble_eq_true rfl) rfl) ?_
    iterate 2 refine JT.c rfl ?_
    refine JT.y rfl (Ev.fa' 1 rfl rfl) ?_
    refine JT.y rfl (Ev.L rfl rfl) ?_
    refine JT.w rfl rfl rfl rfl rfl ?_
    refine JT.yA rfl (Ev.L rfl rfl) ?_
    refine JT.c rfl ?_
    refine JT.done ?_
    refine J.ret ?_
    refine retQD (.w rfl rfl (.t rfl .nil)) rfl (Up.of (LockP.fold (.there .here) (.there .here) (.dropT (Imp.refl _))))

theorem lkWaits_fn (b : Nat) (s : LS) (F : List Assn) (hS : s.w.length ≤ 8388608) : Meets Try.prog 17 [ptr b] (LockP b s :: F)
    (Some' (fun _ : Option Addr × Nat => True) (fun x => .slice x.1 s.w.length x.2) (fun x => SlT false ownerC 2 (.slice x.1 s.w.length x.2) x.2 s.w :: LockP b s :: F)) := by
  refine Meets.intro b17 k17 (by simp) ?_
  refine J.openLock Has.here (fun T a c hC hL => ?_)
  focus
    refine J.so ?_
    refine JT.c rfl ?_
    refine JT.done ?_
    refine J.seq ?_
    refine J.so ?_
    refine JT.c rfl ?_
    refine JT.callD rfl rfl (Up.of (Imp.refl _)) lkThere_fn ?_
    refine JT.c rfl ?_
    refine JT.done ?_
    refine J.condF rfl ?_
    refine J.skip ?_
    refine seqQ_n ?_
    refine J.so ?_
    iterate 2 refine JT.c rfl ?_
    refine JT.y rfl (Ev.fa' 4 rfl rfl) ?_
    refine JT.y rfl (Ev.L rfl rfl) ?_
    refine JT.callS rfl rfl (Up.of (Imp.refl _)) (slCloneO_fn (by first | assumption | omega | decide | exact rfl)) (fun ⟨a10, c10⟩ _ => ?_)
    refine JT.c rfl ?_
    refine JT.done ?_
    refine J.ret ?_
    refine retQS ⟨_, _⟩ (.t rfl .nil) trivial rfl (Up.frz .here (Up.of (.take .here (LockP.fold .here .here (Imp.refl _)))))

theorem lkEnd_fn (b : Nat) (s : LS) (F : List Assn) (hS : s.w.length ≤ 8388608) : Meets Try.prog 25 [ptr b] (LockP b s :: F)
    (Some' (fun _ : Option Addr × Nat => True) (fun x => .tuple #[.slice x.1 s.w.length x.2, i64 0]) (fun x => SlT false ownerC 2 (.slice x.1 s.w.length x.2) x.2 s.w :: LockP b s.fin :: F)) := by
  refine Meets.intro b25 k25 (by simp) ?_
  refine J.openLock Has.here (fun T a c hC hL => ?_)
  refine J.nilS ownerC 2 false (by decide) ?_
  focus
    refine J.so ?_
    iterate 2 refine JT.c rfl ?_
    refine JT.done ?_
    refine J.seq ?_
    refine J.so ?_
    refine JT.c rfl ?_
    refine JT.callD rfl rfl (Up.of (Imp.refl _)) lkThere_fn ?_
    refine JT.c rfl ?_
    refine JT.done ?_
    refine J.condF rfl ?_
    refine J.skip ?_
    refine seqQ_n ?_
    refine J.so ?_
    iterate 2 refine JT.c rfl ?_
    refine JT.y rfl (Ev.fa' 4 rfl rfl) ?_
    refine JT.y rfl (Ev.L rfl rfl) ?_
    refine JT.c rfl ?_
    refine JT.done ?_
    refine J.so ?_
    iterate 3 refine JT.c rfl ?_
    refine JT.y rfl (Ev.agg (by repeat (first | exact Cells.nil | apply Cells.z | (apply Cells.cl; rfl; rfl; rfl)))) ?_
    refine JT.c rfl ?_
    refine JT.y rfl (Ev.fa' 1 rfl rfl) ?_
    refine JT.s rfl rfl rfl rfl rfl (Nat.le_of_ble_eq_true rfl) rfl ?_
    refine JT.c rfl ?_
    refine JT.y rfl (Ev.fa' 2 rfl rfl) ?_
    refine JT.s rfl rfl rfl rfl rfl (Nat.le_of_ble_eq_true rfl) rfl ?_
    refine JT.c rfl ?_
    refine JT.y rfl (Ev.fa' 4 rfl rfl) ?_
    refine JT.s rfl rfl rfl rfl rfl (Nat.le_of_ble_eq_true rfl) rfl ?_
    refine JT.done ?_
    refine J.so ?_
    refine JT.c rfl ?_
    refine JT.callS rfl rfl (Up.of (Imp.refl _)) (slCloneO_fn (by first | assumption | omega | decide | exact rfl)) (fun ⟨a23, c23⟩ _ => ?_)
    iterate 2 refine JT.c rfl ?_
    refine JT.done ?_
    refine J.ret ?_
    refine retQS ⟨_, _⟩ (.t rfl (.t rfl .nil)) trivial rfl (Up.frz .here (Up.of (.take .here (LockP.fold .here .here (.dropT (Imp.refl _))))))

theorem lkNew_fn (F : List Assn) : Meets Try.prog 15 [] F (Some' (fun _ : Nat => True) (fun b => ptr b) (fun b => LockP b LS.new :: F)) := by
  refine Meets.intro b15 k15 (by simp) ?_
  refine J.nilS ownerC 2 false (by decide) ?_
  focus
    refine J.so ?_
    refine JT.c rfl ?_
    refine JT.done ?_
    refine J.so ?_
    refine JT.y rfl (Ev.agg (by repeat (first | exact Cells.nil | apply Cells.z | (apply Cells.cl; rfl; rfl; rfl)))) ?_
    refine JT.box rfl (fun b2 => ?_)
    refine JT.c rfl ?_
    refine JT.done ?_
    refine J.ret ?_
    refine retQS _ (.t rfl .nil) trivial rfl (Up.of (LockP.fold .here .here (Imp.refl _)))
end Go.Proofs.Ytojegknfbgflnaa
