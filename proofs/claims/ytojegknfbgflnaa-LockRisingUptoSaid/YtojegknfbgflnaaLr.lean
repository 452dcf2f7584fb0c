/- The lock of the reference: what its functions do. Conditions: none. -/
import Derived.Test.YtojegknfbgflnaaLp
set_option linter.unusedSimpArgs false
set_option linter.unusedVariables false
set_option maxRecDepth 100000
set_option maxHeartbeats 2000000
namespace Go.Proofs.Ytojegknfbgflnaa
open Go Go.SL
attribute [local irreducible] pc rc SlT Me Mt It pt ro pur ex sep old Meets

/-! ### The reference's -/
theorem r7IsOwner_fn (o : Owner) (F : List Assn) : Meets Try.prog 24 [ov o] F (Det (.bool (decide (okO o))) F) := by
  refine Meets.intro b24 k24 (by simp) ?_
  focus
    refine J.so ?_
    refine JT.box rfl (fun b1 => ?_)
    refine JT.c rfl ?_
    refine JT.done ?_
    refine J.so ?_
    refine JT.y rfl (Ev.fa' 0 rfl rfl) ?_
    refine JT.y rfl (Ev.L rfl rfl) ?_
    refine JT.y rfl (Ev.int rfl rfl rfl) ?_
    refine JT.c rfl ?_
    refine JT.yg rfl rfl (fun h1 => Ev.fa' 0 rfl rfl) ?_
    refine JT.yg rfl rfl (fun h1 => by simp only [h1, gd_true, gd_false, Bool.not_false, Bool.not_true, Bool.true_and, Bool.and_true]; exact Ev.L rfl rfl) ?_
    refine JT.yg rfl rfl (fun h1 => by simp only [h1, gd_true, gd_false, Bool.not_false, Bool.not_true, Bool.true_and, Bool.and_true]; exact Ev.int rfl rfl rfl) ?_
    refine JT.y rfl (Ev.pickA rfl rfl rfl) ?_
    refine JT.c rfl ?_
    refine JT.yg rfl rfl (fun h1 => Ev.fa' 1 rfl rfl) ?_
    refine JT.yg rfl rfl (fun h1 => by simp only [h1, gd_true, gd_false, Bool.not_false, Bool.not_true, Bool.true_and, Bool.and_true]; exact Ev.L rfl rfl) ?_
    refine JT.yg rfl rfl (fun h1 => by simp only [h1, gd_true, gd_false, Bool.not_false, Bool.not_true, Bool.true_and, Bool.and_true]; exact Ev.int rfl rfl rfl) ?_
    refine JT.y rfl (Ev.pickA rfl rfl rfl) ?_
    refine JT.c rfl ?_
    refine JT.yg rfl rfl (fun h1 => Ev.fa' 1 rfl rfl) ?_
    refine JT.yg rfl rfl (fun h1 => by simp only [h1, gd_true, gd_false, Bool.not_false, Bool.not_true, Bool.true_and, Bool.and_true]; exact Ev.L rfl rfl) ?_
    refine JT.yg rfl rfl (fun h1 => by simp only [h1, gd_true, gd_false, Bool.not_false, Bool.not_true, Bool.true_and, Bool.and_true]; exact Ev.int rfl rfl rfl) ?_
    refine JT.y rfl (Ev.pickA rfl rfl rfl) ?_
    refine JT.c rfl ?_
    refine JT.done ?_
    refine J.ret ?_
    refine retQD (.t rfl .nil) ?_ (Up.of (.dropT (Imp.refl _)))
  simp only [mkRet]; congr 1; rw [Bool.eq_iff_iff]; simp [okO]; grind

theorem r7Same_fn {a1 a2 : Option Addr} {c1 c2 : Nat} {xs ys : List Owner} {F : List Assn} [H1 : HS F (.slice a1 xs.length c1) Owner ownerC 2 c1 xs] [H2 : HS F (.slice a2 ys.length c2) Owner ownerC 2 c2 ys] :
    Meets Try.prog 21 [.slice a1 xs.length c1, .slice a2 ys.length c2] F (Det (.bool (decide (xs = ys))) F) := by
  refine Meets.intro b21 k21 (by simp) ?_
  refine J.sl H1 (fun hC hL _ => ?_)
  focus
    refine J.so ?_
    refine JT.c rfl ?_
    refine JT.done ?_
    refine J.seq ?_
    refine J.so ?_
    iterate 4 refine JT.c rfl ?_
    refine JT.y rfl (Ev.int rfl rfl rfl) ?_
    refine JT.done ?_
    refine J.c rfl (fun h1 => ?_) (fun h1 => ?_)
    refine J.so ?_
    refine JT.c rfl ?_
    refine JT.done ?_
    refine J.ret ?_
    refine seqQ_r ?_
    refine retQD (.t rfl .nil) ?_ (Up.of (Imp.refl _))
    rotate_left
    refine J.skip ?_
    refine seqQ_n ?_
    refine J.seq ?_
    refine J.so ?_
    refine JT.c rfl ?_
    refine JT.done ?_
    refine J.block ?_
    rotate_left
  · simp only [mkRet]; rw [decide_eq_false (ne_of_len (by omega))]
  refine J.lp (ι := Nat) (fun k => k ≤ xs.length ∧ ∀ j, j < k → nth xs j = nth ys j) (fun k => [(5, i64 k)]) (fun _ => F) (fun k => xs.length - k) 0 ⟨by omega, fun j hj => by omega⟩ (by (repeat (first | exact subx_nil | apply subx_dup rfl | apply subx_cons rfl))) (Up.refl _) (fun k hk => ?_)
  obtain ⟨hk, hn⟩ := hk
  focus
    refine J.seq ?_
    refine J.so ?_
    iterate 3 refine JT.c rfl ?_
    refine JT.y rfl (Ev.int rfl rfl rfl) ?_
    refine JT.done ?_
    refine J.c rfl (fun h2 => ?_) (fun h2 => ?_)
    refine J.skip ?_
    refine seqQ_n ?_
    refine J.seq ?_
    refine J.block ?_
    refine J.so ?_
    iterate 2 refine JT.c rfl ?_
    refine JT.y rfl (Ev.iC rfl rfl (by omega)) ?_
    refine JT.y rfl (Ev.LE rfl (by omega)) ?_
    iterate 2 refine JT.c rfl ?_
    refine JT.y rfl (Ev.iC rfl rfl (by omega)) ?_
    refine JT.y rfl (Ev.LE rfl (by omega)) ?_
    refine JT.y rfl (Ev.neT rfl rfl) ?_
    refine JT.done ?_
    refine J.c rfl (fun h3 => ?_) (fun h3 => ?_)
    refine J.so ?_
    refine JT.c rfl ?_
    refine JT.done ?_
    refine J.ret ?_
    refine blockQ_r ?_
    iterate 2 refine seqQ_r ?_
    refine blockQ_r ?_
    refine seqQ_r ?_
    refine retQD (.t rfl .nil) ?_ (Up.of (Imp.refl _))
    rotate_left
    refine J.skip ?_
    refine blockQ_n ?_
    refine seqQ_n ?_
    refine J.ops ?_
    refine JT.c rfl ?_
    refine JT.y rfl (Ev.addN rfl rfl (by omega)) ?_
    refine JT.c rfl ?_
    refine JT.done ?_
    refine seqQ_n ?_
    refine ⟨_, ?_, (by omega), (subx_cons rfl (subx_dup rfl (subx_cons rfl (subx_cons rfl (subx_cons rfl (subx_cons rfl (subx_cons rfl (subx_cons rfl (subx_cons rfl (subx_cons rfl subx_nil)))))))))), (Up.of (Imp.refl _))⟩
    rotate_left
    refine J.exit ?_
    iterate 2 refine seqQ_x ?_
    refine blockQ_hit ?_
    refine seqQ_n ?_
    refine J.so ?_
    refine JT.c rfl ?_
    refine JT.done ?_
    refine J.ret ?_
    refine retQD (.t rfl .nil) ?_ (Up.of (Imp.refl _))
    rotate_left
  · simp only [mkRet]; rw [decide_eq_false (ne_of_nth (by assumption))]
  · exact ⟨by omega, all_lt_succ hn (by assumption)⟩
  · simp only [mkRet]; rw [decide_eq_true (eq_of_nth (by omega) fun j hj => hn j (by omega))]

theorem r7place_fn {p T : Nat} {s : LS} {a1 : Option Addr} {c1 : Nat} (o : Owner) {F r : List Assn} [H1 : HP F p T (rlockC s a1 c1) r] [H2 : HS F (.slice a1 s.w.length c1) Owner ownerC 2 c1 s.w] : Meets Try.prog 81 [ptr p, ov o] F (Det (i64 (ix s.w o)) F) := by
  refine Meets.intro b81 k81 (by simp) ?_
  refine J.sl H2 (fun hC hL _ => ?_)
  focus
    refine J.so ?_
    refine JT.box rfl (fun b3 => ?_)
    refine JT.c rfl ?_
    refine JT.done ?_
    refine J.seq ?_
    refine J.so ?_
    refine JT.c rfl ?_
    refine JT.done ?_
    refine J.block ?_
  refine J.lp (ι := Nat) (fun k => k ≤ s.w.length ∧ ∀ j, j < k → nth s.w j ≠ o) (fun k => [(5, i64 k)]) (fun _ => pc b3 29 (ownerC o) :: F) (fun k => s.w.length - k) 0 ⟨by omega, fun j hj => by omega⟩ (by (repeat (first | exact subx_nil | apply subx_dup rfl | apply subx_cons rfl))) (Up.refl _) (fun k hk => ?_)
  obtain ⟨hk, hn⟩ := hk
  focus
    refine J.seq ?_
    refine J.so ?_
    iterate 3 refine JT.c rfl ?_
    refine JT.y rfl (Ev.fa' 3 rfl rfl) ?_
    refine JT.y rfl (Ev.L rfl rfl) ?_
    refine JT.c rfl ?_
    refine JT.y rfl (Ev.int rfl rfl rfl) ?_
    refine JT.done ?_
    refine J.c rfl (fun h1 => ?_) (fun h1 => ?_)
    refine J.skip ?_
    refine seqQ_n ?_
    refine J.seq ?_
    refine J.block ?_
    refine J.so ?_
    iterate 2 refine JT.c rfl ?_
    refine JT.y rfl (Ev.fa' 3 rfl rfl) ?_
    refine JT.y rfl (Ev.L rfl rfl) ?_
    refine JT.c rfl ?_
    refine JT.y rfl (Ev.iC rfl rfl (by omega)) ?_
    refine JT.y rfl (Ev.LE rfl (by omega)) ?_
    refine JT.y rfl (Ev.Lw rfl rfl) ?_
    refine JT.y rfl (Ev.eqT rfl rfl) ?_
    refine JT.done ?_
    refine J.c rfl (fun h2 => ?_) (fun h2 => ?_)
    refine J.so ?_
    iterate 2 refine JT.c rfl ?_
    refine JT.done ?_
    refine J.ret ?_
    refine blockQ_r ?_
    iterate 2 refine seqQ_r ?_
    refine blockQ_r ?_
    refine seqQ_r ?_
    refine retQD (.t rfl .nil) ?_ (Up.of (.dropT (Imp.refl _)))
    rotate_left
    refine J.skip ?_
    refine blockQ_n ?_
    refine seqQ_n ?_
    refine J.ops ?_
    refine JT.c rfl ?_
    refine JT.y rfl (Ev.addN rfl rfl (by omega)) ?_
    refine JT.c rfl ?_
    refine JT.done ?_
    refine seqQ_n ?_
    refine ⟨_, ?_, (by omega), (subx_cons rfl (subx_dup rfl (subx_cons rfl (subx_cons rfl (subx_cons rfl (subx_cons rfl subx_nil)))))), (Up.of (.take .here (Imp.refl _)))⟩
    rotate_left
    refine J.exit ?_
    iterate 2 refine seqQ_x ?_
    refine blockQ_hit ?_
    refine seqQ_n ?_
    refine J.so ?_
    refine JT.c rfl ?_
    refine JT.done ?_
    refine J.ret ?_
    refine retQD (.t rfl .nil) ?_ (Up.of (.dropT (Imp.refl _)))
    rotate_left
  · simp only [mkRet]; rw [ix_at (by omega) hn (by assumption)]
  · exact ⟨by omega, all_lt_succ hn (by assumption)⟩
  · simp only [mkRet]; rw [ix_no fun j hj => hn j (by omega)]

theorem r7place_in {p T : Nat} {s : LS} {a1 : Option Addr} {c1 : Nat} (o : Owner) {F r : List Assn} [H1 : HP F p T (rlockC s a1 c1) r] [H2 : HS F (.slice a1 s.w.length c1) Owner ownerC 2 c1 s.w] (hm : o ∈ s.w) : Meets Try.prog 81 [ptr p, ov o] F (Det (i64 ((s.w.idxOf o : Nat) : Int)) F) := by
  rw [← (ix_lt hm).1]; exact r7place_fn o
theorem r7place_no {p T : Nat} {s : LS} {a1 : Option Addr} {c1 : Nat} (o : Owner) {F r : List Assn} [H1 : HP F p T (rlockC s a1 c1) r] [H2 : HS F (.slice a1 s.w.length c1) Owner ownerC 2 c1 s.w] (hm : o ∉ s.w) : Meets Try.prog 81 [ptr p, ov o] F (Det (i64 (-1)) F) := by
  have : ix s.w o = -1 := by rw [ix, if_neg hm]
  rw [← this]; exact r7place_fn o

theorem r7Ask_fn (p : Nat) (s : LS) (o : Owner) (F : List Assn) : Meets Try.prog 50 [ptr p, ov o] (RlockP p s :: F) (Det (.tuple #[.bool (s.ask o).2.1, i64 (s.ask o).2.2]) (RlockP p (s.ask o).1 :: F)) := by
  refine Meets.intro b50 k50 (by simp) ?_
  refine J.openRlock Has.here (fun T a c hC hL => ?_)
  by_cases hm : o ∈ s.w
  all_goals (try have hlt := (ix_lt hm).2)
  focus
    refine J.so ?_
    refine JT.box rfl (fun b3 => ?_)
    iterate 2 refine JT.c rfl ?_
    refine JT.done ?_
    refine J.seq ?_
    refine J.block ?_
    refine J.so ?_
    refine JT.y rfl (Ev.Lw rfl rfl) ?_
    refine JT.callD rfl rfl (Up.of (Imp.refl _)) (r7IsOwner_fn _ _) ?_
    iterate 2 refine JT.c rfl ?_
    refine JT.done ?_
    refine J.c rfl (fun h1 => ?_) (fun h1 => ?_)
    refine J.so ?_
    iterate 2 refine JT.c rfl ?_
    refine JT.done ?_
    refine J.ret ?_
    refine blockQ_r ?_
    refine seqQ_r ?_
    rotate_left
    refine J.so ?_
    iterate 2 refine JT.c rfl ?_
    refine JT.y rfl (Ev.fa' 0 rfl rfl) ?_
    refine JT.y rfl (Ev.L rfl rfl) ?_
    refine JT.c rfl ?_
    refine JT.yg rfl rfl (fun h2 => Ev.calc rfl) ?_
    iterate 2 refine JT.yg rfl rfl (fun h2 => by simp only [h2, gd_true, gd_false, Bool.not_false, Bool.not_true, Bool.true_and, Bool.and_true]; exact Ev.calc rfl) ?_
    refine JT.yg rfl rfl (fun h2 => by simp only [h2, gd_true, gd_false, Bool.not_false, Bool.not_true, Bool.true_and, Bool.and_true]; exact Ev.Lp (us := [_, _]) rfl (Nat.le_of_ble_eq_true rfl) rfl) ?_
    refine JT.yg rfl rfl (fun h2 => Ev.Lw rfl rfl) ?_
    refine JT.yg rfl rfl (fun h2 => by simp only [h2, gd_true, gd_false, Bool.not_false, Bool.not_true, Bool.true_and, Bool.and_true]; exact Ev.eqs rfl rfl (by repeat (first | exact EqC.nil | apply EqC.i | apply EqC.b | apply EqC.s))) ?_
    refine JT.y rfl (Ev.pickA rfl rfl rfl) ?_
    refine JT.c rfl ?_
    refine JT.done ?_
    refine J.c rfl (fun h2 => ?_) (fun h2 => ?_)
    refine J.so ?_
    iterate 2 refine JT.c rfl ?_
    refine JT.done ?_
    refine J.ret ?_
    refine blockQ_r ?_
    refine seqQ_r ?_
    rotate_left
    refine J.so ?_
    refine JT.c rfl ?_
    refine JT.y rfl (Ev.Lw rfl rfl) ?_
    refine JT.callD rfl rfl (Up.of (Imp.refl _)) (r7place_in _ (by first | assumption | omega | decide)) ?_
    refine JT.y rfl (Ev.cgeT rfl rfl (by omega)) ?_
    refine JT.c rfl ?_
    refine JT.done ?_
    refine J.condT rfl ?_
    refine J.so ?_
    iterate 2 refine JT.c rfl ?_
    refine JT.done ?_
    refine J.ret ?_
    refine blockQ_r ?_
    refine seqQ_r ?_
    rotate_left
  rotate_left 3
  focus
    refine J.so ?_
    refine JT.box rfl (fun b3 => ?_)
    iterate 2 refine JT.c rfl ?_
    refine JT.done ?_
    refine J.seq ?_
    refine J.block ?_
    refine J.so ?_
    refine JT.y rfl (Ev.Lw rfl rfl) ?_
    refine JT.callD rfl rfl (Up.of (Imp.refl _)) (r7IsOwner_fn _ _) ?_
    iterate 2 refine JT.c rfl ?_
    refine JT.done ?_
    refine J.c rfl (fun h1 => ?_) (fun h1 => ?_)
    refine J.so ?_
    iterate 2 refine JT.c rfl ?_
    refine JT.done ?_
    refine J.ret ?_
    refine blockQ_r ?_
    refine seqQ_r ?_
    rotate_left
    refine J.so ?_
    iterate 2 refine JT.c rfl ?_
    refine JT.y rfl (Ev.fa' 0 rfl rfl) ?_
    refine JT.y rfl (Ev.L rfl rfl) ?_
    refine JT.c rfl ?_
    refine JT.yg rfl rfl (fun h2 => Ev.calc rfl) ?_
    iterate 2 refine JT.yg rfl rfl (fun h2 => by simp only [h2, gd_true, gd_false, Bool.not_false, Bool.not_true, Bool.true_and, Bool.and_true]; exact Ev.calc rfl) ?_
    refine JT.yg rfl rfl (fun h2 => by simp only [h2, gd_true, gd_false, Bool.not_false, Bool.not_true, Bool.true_and, Bool.and_true]; exact Ev.Lp (us := [_, _]) rfl (Nat.le_of_ble_eq_true rfl) rfl) ?_
    refine JT.yg rfl rfl (fun h2 => Ev.Lw rfl rfl) ?_
    refine JT.yg rfl rfl (fun h2 => by simp only [h2, gd_true, gd_false, Bool.not_false, Bool.not_true, Bool.true_and, Bool.and_true]; exact Ev.eqs rfl rfl (by repeat (first | exact EqC.nil | apply EqC.i | apply EqC.b | apply EqC.s))) ?_
    refine JT.y rfl (Ev.pickA rfl rfl rfl) ?_
    refine JT.c rfl ?_
    refine JT.done ?_
    refine J.c rfl (fun h2 => ?_) (fun h2 => ?_)
    refine J.so ?_
    iterate 2 refine JT.c rfl ?_
    refine JT.done ?_
    refine J.ret ?_
    refine blockQ_r ?_
    refine seqQ_r ?_
    rotate_left
    refine J.so ?_
    refine JT.c rfl ?_
    refine JT.y rfl (Ev.Lw rfl rfl) ?_
    refine JT.callD rfl rfl (Up.of (Imp.refl _)) (r7place_no _ (by first | assumption | omega | decide)) ?_
    refine JT.y rfl (Ev.cgeF rfl rfl (by decide)) ?_
    refine JT.c rfl ?_
    refine JT.done ?_
    refine J.condF rfl ?_
    refine J.so ?_
    iterate 2 refine JT.c rfl ?_
    refine JT.y rfl (Ev.fa' 0 rfl rfl) ?_
    refine JT.y rfl (Ev.L rfl rfl) ?_
    iterate 2 refine JT.c rfl ?_
    refine JT.done ?_
    refine J.c rfl (fun h3 => ?_) (fun h3 => ?_)
    refine J.so ?_
    iterate 2 refine JT.c rfl ?_
    refine JT.y rfl (Ev.Lw rfl rfl) ?_
    refine JT.c rfl ?_
    refine JT.y rfl (Ev.fa' 0 rfl rfl) ?_
    refine JT.s rfl rfl rfl rfl rfl (Nat.le_of_ble_eq_true rfl) rfl ?_
    refine JT.yA rfl (Ev.Lw rfl rfl) ?_
    refine JT.c rfl ?_
    refine JT.y rfl (Ev.fa' 1 rfl rfl) ?_
    refine JT.s rfl rfl rfl rfl rfl (Nat.le_of_ble_eq_true rfl) rfl ?_
    refine JT.done ?_
    refine J.so ?_
    iterate 2 refine JT.c rfl ?_
    refine JT.done ?_
    refine J.ret ?_
    refine blockQ_r ?_
    refine seqQ_r ?_
    rotate_left
    refine J.so ?_
    iterate 2 refine JT.c rfl ?_
    refine JT.y rfl (Ev.fa' 3 rfl rfl) ?_
    refine JT.y rfl (Ev.L rfl rfl) ?_
    refine JT.c rfl ?_
    refine JT.y rfl (Ev.int rfl rfl rfl) ?_
    refine JT.c rfl ?_
    refine JT.done ?_
    refine J.c rfl (fun h4 => ?_) (fun h4 => ?_)
    refine J.so ?_
    iterate 2 refine JT.c rfl ?_
    refine JT.done ?_
    refine J.ret ?_
    refine blockQ_r ?_
    refine seqQ_r ?_
    rotate_left
    refine J.skip ?_
    refine blockQ_n ?_
    refine seqQ_n ?_
    refine J.so ?_
    iterate 3 refine JT.c rfl ?_
    refine JT.y rfl (Ev.fa' 3 rfl rfl) ?_
    refine JT.y rfl (Ev.L rfl rfl) ?_
    refine JT.y rfl (Ev.Lw rfl rfl) ?_
    refine JT.both ?_ ?_
    refine JT.b0 (fun a49 => ?_)
    refine JT.both ?_ ?_
    (refine JT.A3 rfl rfl rfl (by decide) (by (try simp only [List.length_nil, List.length_cons, List.length_append, List.length_take, List.length_drop, List.length_set]); omega) (fun a54 c54 hc54 => ?_))
    refine JT.yA rfl (Ev.Lw rfl rfl) ?_
    refine JT.bsl1 (by repeat (first | exact Cells.nil | apply Cells.z | (apply Cells.cl; rfl; rfl; rfl))) (by simp only [List.length_cons, List.length_nil, Nat.reduceAdd]; rfl) (by decide) (by rfl) (fun a56 => ?_)
    (refine JT.A1 rfl rfl (by rfl) rfl (by decide) (by (try simp only [List.length_nil, List.length_cons, List.length_append, List.length_take, List.length_drop, List.length_set]); omega) (fun a57 c57 hc57 => ?_))
    refine JT.c rfl ?_
    refine JT.y rfl (Ev.fa' 3 rfl rfl) ?_
    refine JT.s rfl rfl rfl rfl rfl (Nat.le_of_ble_eq_true rfl) rfl ?_
    refine JT.done ?_
    refine J.so ?_
    iterate 2 refine JT.c rfl ?_
    refine JT.done ?_
    refine J.ret ?_
    rotate_left
    refine JT.bsl1 (by repeat (first | exact Cells.nil | apply Cells.z | (apply Cells.cl; rfl; rfl; rfl))) (by simp only [List.length_cons, List.length_nil, Nat.reduceAdd]; rfl) (by decide) (by rfl) (fun a56 => ?_)
    (refine JT.A3 rfl rfl rfl (by decide) (by (try simp only [List.length_nil, List.length_cons, List.length_append, List.length_take, List.length_drop, List.length_set]); omega) (fun a54 c54 hc54 => ?_))
    refine JT.yA rfl (Ev.Lw rfl rfl) ?_
    (refine JT.A1 rfl rfl (by rfl) rfl (by decide) (by (try simp only [List.length_nil, List.length_cons, List.length_append, List.length_take, List.length_drop, List.length_set]); omega) (fun a57 c57 hc57 => ?_))
    refine JT.c rfl ?_
    refine JT.y rfl (Ev.fa' 3 rfl rfl) ?_
    refine JT.s rfl rfl rfl rfl rfl (Nat.le_of_ble_eq_true rfl) rfl ?_
    refine JT.done ?_
    refine J.so ?_
    iterate 2 refine JT.c rfl ?_
    refine JT.done ?_
    refine J.ret ?_
    rotate_left
    refine JT.bsl1 (by repeat (first | exact Cells.nil | apply Cells.z | (apply Cells.cl; rfl; rfl; rfl))) (by simp only [List.length_cons, List.length_nil, Nat.reduceAdd]; rfl) (by decide) (by rfl) (fun a56 => ?_)
    refine JT.b0 (fun a49 => ?_)
    (refine JT.A3 rfl rfl rfl (by decide) (by (try simp only [List.length_nil, List.length_cons, List.length_append, List.length_take, List.length_drop, List.length_set]); omega) (fun a54 c54 hc54 => ?_))
    refine JT.yA rfl (Ev.Lw rfl rfl) ?_
    (refine JT.A1 rfl rfl (by rfl) rfl (by decide) (by (try simp only [List.length_nil, List.length_cons, List.length_append, List.length_take, List.length_drop, List.length_set]); omega) (fun a57 c57 hc57 => ?_))
    refine JT.c rfl ?_
    refine JT.y rfl (Ev.fa' 3 rfl rfl) ?_
    refine JT.s rfl rfl rfl rfl rfl (Nat.le_of_ble_eq_true rfl) rfl ?_
    refine JT.done ?_
    refine J.so ?_
    iterate 2 refine JT.c rfl ?_
    refine JT.done ?_
    refine J.ret ?_
    rotate_left
  rotate_left 7
  all_goals (unfold LS.ask; (repeat (first | rw [if_pos (by (first | assumption | omega | grind))] | rw [if_neg (by (first | assumption | omega | grind))])))
  focus
    refine retQD (.t rfl (.t rfl .nil)) rfl (Up.of (RlockP.fold (.there .here) (.there .here) (.dropT (Imp.refl _))))
  focus
    refine retQD (.t rfl (.t rfl .nil)) rfl (Up.of (RlockP.fold (.there .here) (.there .here) (.dropT (Imp.refl _))))
  focus
    refine retQD (.t rfl (.t rfl .nil)) rfl (Up.of (RlockP.fold (.there .here) (.there .here) (.dropT (Imp.refl _))))
  focus
    refine retQD (.t rfl (.t rfl .nil)) rfl (Up.of (RlockP.fold (.there .here) (.there .here) (.dropT (Imp.refl _))))
  focus
    refine retQD (.t rfl (.t rfl .nil)) rfl (Up.of (RlockP.fold (.there .here) (.there .here) (.dropT (Imp.refl _))))
  focus
    refine retQD (.t rfl (.t rfl .nil)) rfl (Up.of (RlockP.fold .here (.there .here) (.dropT (Imp.refl _))))
  focus
    refine retQD (.t rfl (.t rfl .nil)) rfl (Up.of (RlockP.fold (.there .here) (.there .here) (.dropT (Imp.refl _))))
  focus
    refine retQD (.t rfl (.t rfl .nil)) rfl (Up.frz (.there .here) (Up.of (RlockP.fold (.there .here) .here (.dropT (.dropT (.dropT (Imp.refl _)))))))
  focus
    refine retQD (.t rfl (.t rfl .nil)) rfl (Up.frz (.there .here) (Up.of (RlockP.fold (.there .here) .here (.dropT (.dropT (.dropT (Imp.refl _)))))))
  focus
    refine retQD (.t rfl (.t rfl .nil)) rfl (Up.frz (.there .here) (Up.of (RlockP.fold (.there .here) .here (.dropT (.dropT (.dropT (Imp.refl _)))))))

theorem r7Free_fn (p : Nat) (s : LS) (o : Owner) (F : List Assn) (hS : s.w.length ≤ 8388608) : Meets Try.prog 51 [ptr p, ov o] (RlockP p s :: F) (Det (.tuple #[ov (s.free o).2.1, .bool (s.free o).2.2.1, i64 (s.free o).2.2.2]) (RlockP p (s.free o).1 :: F)) := by
  refine Meets.intro b51 k51 (by simp) ?_
  refine J.openRlock Has.here (fun T a c hC hL => ?_)
  focus
    refine J.so ?_
    refine JT.box rfl (fun b3 => ?_)
    refine JT.new (fun b4 => ?_)
    iterate 2 refine JT.c rfl ?_
    refine JT.done ?_
    refine J.seq ?_
    refine J.so ?_
    refine JT.y rfl (Ev.Lw rfl rfl) ?_
    refine JT.callD rfl rfl (Up.of (Imp.refl _)) (r7IsOwner_fn _ _) ?_
    refine JT.c rfl ?_
    refine JT.done ?_
    refine J.c rfl (fun h1 => ?_) (fun h1 => ?_)
    refine J.so ?_
    refine JT.y rfl (Ev.agg (by repeat (first | exact Cells.nil | apply Cells.z | (apply Cells.cl; rfl; rfl; rfl)))) ?_
    refine JT.w rfl rfl rfl rfl rfl ?_
    iterate 2 refine JT.c rfl ?_
    refine JT.done ?_
    refine J.ret ?_
    refine seqQ_r ?_
    rotate_left
    refine J.skip ?_
    refine seqQ_n ?_
    refine J.seq ?_
    refine J.so ?_
    iterate 2 refine JT.c rfl ?_
    refine JT.y rfl (Ev.fa' 0 rfl rfl) ?_
    refine JT.y rfl (Ev.L rfl rfl) ?_
    iterate 2 refine JT.c rfl ?_
    refine JT.yh rfl rfl (fun h2 => Ev.calc rfl) ?_
    iterate 2 refine JT.yh rfl rfl (fun h2 => by simp only [h2, gd_true, gd_false, Bool.not_false, Bool.not_true, Bool.true_and, Bool.and_true]; exact Ev.calc rfl) ?_
    refine JT.yh rfl rfl (fun h2 => by simp only [h2, gd_true, gd_false, Bool.not_false, Bool.not_true, Bool.true_and, Bool.and_true]; exact Ev.Lp (us := [_, _]) rfl (Nat.le_of_ble_eq_true rfl) rfl) ?_
    refine JT.yh rfl rfl (fun h2 => Ev.Lw rfl rfl) ?_
    refine JT.yh rfl rfl (fun h2 => by simp only [h2, gd_true, gd_false, Bool.not_false, Bool.not_true, Bool.true_and, Bool.and_true]; exact Ev.eqs rfl rfl (by repeat (first | exact EqC.nil | apply EqC.i | apply EqC.b | apply EqC.s))) ?_
    refine JT.y rfl (Ev.pickO rfl rfl rfl) ?_
    refine JT.done ?_
    refine J.c rfl (fun h2 => ?_) (fun h2 => ?_)
    refine J.so ?_
    refine JT.y rfl (Ev.agg (by repeat (first | exact Cells.nil | apply Cells.z | (apply Cells.cl; rfl; rfl; rfl)))) ?_
    refine JT.w rfl rfl rfl rfl rfl ?_
    iterate 2 refine JT.c rfl ?_
    refine JT.done ?_
    refine J.ret ?_
    refine seqQ_r ?_
    rotate_left
    refine J.skip ?_
    refine seqQ_n ?_
    refine J.seq ?_
    refine J.so ?_
    iterate 2 refine JT.c rfl ?_
    refine JT.y rfl (Ev.fa' 3 rfl rfl) ?_
    refine JT.y rfl (Ev.L rfl rfl) ?_
    refine JT.c rfl ?_
    refine JT.y rfl (Ev.int rfl rfl rfl) ?_
    refine JT.done ?_
    refine J.c rfl (fun h3 => ?_) (fun h3 => ?_)
    refine J.so ?_
    iterate 2 refine JT.c rfl ?_
    refine JT.y rfl (Ev.agg (by repeat (first | exact Cells.nil | apply Cells.z | (apply Cells.cl; rfl; rfl; rfl)))) ?_
    refine JT.c rfl ?_
    refine JT.y rfl (Ev.fa' 0 rfl rfl) ?_
    refine JT.s rfl rfl rfl rfl rfl (Nat.le_of_ble_eq_true rfl) rfl ?_
    refine JT.c rfl ?_
    refine JT.y rfl (Ev.fa' 1 rfl rfl) ?_
    refine JT.s rfl rfl rfl rfl rfl (Nat.le_of_ble_eq_true rfl) rfl ?_
    refine JT.done ?_
    refine J.so ?_
    refine JT.y rfl (Ev.agg (by repeat (first | exact Cells.nil | apply Cells.z | (apply Cells.cl; rfl; rfl; rfl)))) ?_
    refine JT.w rfl rfl rfl rfl rfl ?_
    iterate 2 refine JT.c rfl ?_
    refine JT.done ?_
    refine J.ret ?_
    refine seqQ_r ?_
    rotate_left
    refine J.skip ?_
    refine seqQ_n ?_
    refine J.so ?_
    iterate 3 refine JT.c rfl ?_
    refine JT.y rfl (Ev.fa' 3 rfl rfl) ?_
    refine JT.y rfl (Ev.L rfl rfl) ?_
    refine JT.y rfl (Ev.iC rfl rfl (by omega)) ?_
    refine JT.y rfl (Ev.LE rfl (by omega)) ?_
    refine JT.c rfl ?_
    refine JT.y rfl (Ev.fa' 1 rfl rfl) ?_
    refine JT.s rfl rfl rfl rfl rfl (Nat.le_of_ble_eq_true rfl) rfl ?_
    refine JT.done ?_
    refine J.so ?_
    refine JT.c rfl ?_
    refine JT.b0 (fun a49 => ?_)
    iterate 2 refine JT.c rfl ?_
    refine JT.y rfl (Ev.fa' 3 rfl rfl) ?_
    refine JT.y rfl (Ev.L rfl rfl) ?_
    ((refine JT.G rfl (by first | exact Bd.no | exact Bd.c rfl | exact Bd.si rfl (by omega)) (by first | exact Bd.no | exact Bd.c rfl | exact Bd.si rfl (by omega)) (by first | exact Bd.no | exact Bd.c rfl | exact Bd.si rfl (by omega)) (by decide) (by (try simp only [List.length_nil, List.length_cons, List.length_append, List.length_take, List.length_drop, List.length_set]); omega) (by (try simp only [List.length_nil, List.length_cons, List.length_append, List.length_take, List.length_drop, List.length_set]); omega) (by (try simp only [List.length_nil, List.length_cons, List.length_append, List.length_take, List.length_drop, List.length_set]); omega) (by (try simp only [List.length_nil, List.length_cons, List.length_append, List.length_take, List.length_drop, List.length_set]); omega) (fun a54 => ?_)); (try simp only [List.take_length, List.drop_zero, Nat.sub_zero]))
    (refine JT.A3 rfl rfl rfl (by decide) (by (try simp only [List.length_nil, List.length_cons, List.length_append, List.length_take, List.length_drop, List.length_set]); omega) (fun a55 c55 hc55 => ?_))
    refine JT.c rfl ?_
    refine JT.y rfl (Ev.fa' 3 rfl rfl) ?_
    refine JT.s rfl rfl rfl rfl rfl (Nat.le_of_ble_eq_true rfl) rfl ?_
    refine JT.done ?_
    refine J.so ?_
    iterate 2 refine JT.c rfl ?_
    refine JT.y rfl (Ev.fa' 1 rfl rfl) ?_
    refine JT.y rfl (Ev.Lp (us := [_, _]) rfl (Nat.le_of_ble_eq_true rfl) rfl) ?_
    refine JT.w rfl rfl rfl rfl rfl ?_
    iterate 2 refine JT.c rfl ?_
    refine JT.done ?_
    refine J.ret ?_
    rotate_left
  all_goals (unfold LS.free; (repeat (first | rw [if_pos (by (first | assumption | omega | grind))] | rw [if_neg (by (first | assumption | omega | grind))])))
  focus
    refine retQD (.w rfl rfl (.t rfl (.t rfl .nil))) rfl (Up.of (RlockP.fold (.there (.there .here)) (.there (.there .here)) (.dropT (.dropT (Imp.refl _)))))
  focus
    refine retQD (.w rfl rfl (.t rfl (.t rfl .nil))) rfl (Up.of (RlockP.fold (.there (.there .here)) (.there (.there .here)) (.dropT (.dropT (Imp.refl _)))))
  focus
    refine retQD (.w rfl rfl (.t rfl (.t rfl .nil))) rfl (Up.of (RlockP.fold (.there .here) (.there (.there .here)) (.dropT (.dropT (Imp.refl _)))))
  focus
    refine retQD (.w rfl rfl (.t rfl (.t rfl .nil))) rfl (Up.frz (.there (.there .here)) (Up.of (RlockP.fold (.there (.there .here)) .here (.dropT (.dropT (.dropT (.dropT (Imp.refl _))))))))

theorem r7Leave_fn (p : Nat) (s : LS) (o : Owner) (F : List Assn) (hS : s.w.length ≤ 8388608) : Meets Try.prog 52 [ptr p, ov o] (RlockP p s :: F) (Det (.tuple #[.bool (s.leave o).2.1, i64 (s.leave o).2.2]) (RlockP p (s.leave o).1 :: F)) := by
  refine Meets.intro b52 k52 (by simp) ?_
  refine J.openRlock Has.here (fun T a c hC hL => ?_)
  by_cases hm : o ∈ s.w
  all_goals (try have hlt := (ix_lt hm).2)
  focus
    refine J.so ?_
    refine JT.box rfl (fun b3 => ?_)
    iterate 2 refine JT.c rfl ?_
    refine JT.done ?_
    refine J.seq ?_
    refine J.so ?_
    refine JT.y rfl (Ev.Lw rfl rfl) ?_
    refine JT.callD rfl rfl (Up.of (Imp.refl _)) (r7IsOwner_fn _ _) ?_
    refine JT.c rfl ?_
    refine JT.done ?_
    refine J.c rfl (fun h1 => ?_) (fun h1 => ?_)
    refine J.so ?_
    iterate 2 refine JT.c rfl ?_
    refine JT.done ?_
    refine J.ret ?_
    refine seqQ_r ?_
    rotate_left
    refine J.skip ?_
    refine seqQ_n ?_
    refine J.so ?_
    refine JT.c rfl ?_
    refine JT.y rfl (Ev.Lw rfl rfl) ?_
    refine JT.callD rfl rfl (Up.of (Imp.refl _)) (r7place_in _ (by first | assumption | omega | decide)) ?_
    refine JT.c rfl ?_
    refine JT.done ?_
    refine J.seq ?_
    refine J.so ?_
    refine JT.c rfl ?_
    refine JT.y rfl (Ev.cltF rfl rfl (by omega)) ?_
    refine JT.done ?_
    refine J.condF rfl ?_
    refine J.skip ?_
    refine seqQ_n ?_
    refine J.so ?_
    iterate 3 refine JT.c rfl ?_
    refine JT.y rfl (Ev.fa' 3 rfl rfl) ?_
    refine JT.y rfl (Ev.L rfl rfl) ?_
    refine JT.c rfl ?_
    ((refine JT.G rfl (by first | exact Bd.no | exact Bd.c rfl | exact Bd.si rfl (by omega)) (by first | exact Bd.no | exact Bd.c rfl | exact Bd.si rfl (by omega)) (by first | exact Bd.no | exact Bd.c rfl | exact Bd.si rfl (by omega)) (by decide) (by (try simp only [List.length_nil, List.length_cons, List.length_append, List.length_take, List.length_drop, List.length_set]); omega) (by (try simp only [List.length_nil, List.length_cons, List.length_append, List.length_take, List.length_drop, List.length_set]); omega) (by (try simp only [List.length_nil, List.length_cons, List.length_append, List.length_take, List.length_drop, List.length_set]); omega) (by (try simp only [List.length_nil, List.length_cons, List.length_append, List.length_take, List.length_drop, List.length_set]); omega) (fun a22 => ?_)); (try simp only [List.take_length, List.drop_zero, Nat.sub_zero]))
    iterate 2 refine JT.c rfl ?_
    refine JT.y rfl (Ev.fa' 3 rfl rfl) ?_
    refine JT.y rfl (Ev.L rfl rfl) ?_
    refine JT.c rfl ?_
    refine JT.y rfl (Ev.addN rfl rfl (by omega)) ?_
    ((refine JT.G rfl (by first | exact Bd.no | exact Bd.c rfl | exact Bd.si rfl (by omega)) (by first | exact Bd.no | exact Bd.c rfl | exact Bd.si rfl (by omega)) (by first | exact Bd.no | exact Bd.c rfl | exact Bd.si rfl (by omega)) (by decide) (by (try simp only [List.length_nil, List.length_cons, List.length_append, List.length_take, List.length_drop, List.length_set]); omega) (by (try simp only [List.length_nil, List.length_cons, List.length_append, List.length_take, List.length_drop, List.length_set]); omega) (by (try simp only [List.length_nil, List.length_cons, List.length_append, List.length_take, List.length_drop, List.length_set]); omega) (by (try simp only [List.length_nil, List.length_cons, List.length_append, List.length_take, List.length_drop, List.length_set]); omega) (fun a30 => ?_)); (try simp only [List.take_length, List.drop_zero, Nat.sub_zero]))
    refine JT.b0 (fun a16 => ?_)
    (refine JT.A3 rfl rfl rfl (by decide) (by (try simp only [List.length_nil, List.length_cons, List.length_append, List.length_take, List.length_drop, List.length_set]); omega) (fun a23 c23 hc23 => ?_))
    refine JT.yA rfl (Ev.L rfl rfl) ?_
    (refine JT.A3 rfl rfl rfl (by decide) (by (try simp only [List.length_nil, List.length_cons, List.length_append, List.length_take, List.length_drop, List.length_set]); omega) (fun a31 c31 hc31 => ?_))
    refine JT.c rfl ?_
    refine JT.y rfl (Ev.fa' 3 rfl rfl) ?_
    refine JT.s rfl rfl rfl rfl rfl (Nat.le_of_ble_eq_true rfl) rfl ?_
    refine JT.done ?_
    refine J.so ?_
    iterate 2 refine JT.c rfl ?_
    refine JT.done ?_
    refine J.ret ?_
    rotate_left
  rotate_left 2
  focus
    refine J.so ?_
    refine JT.box rfl (fun b3 => ?_)
    iterate 2 refine JT.c rfl ?_
    refine JT.done ?_
    refine J.seq ?_
    refine J.so ?_
    refine JT.y rfl (Ev.Lw rfl rfl) ?_
    refine JT.callD rfl rfl (Up.of (Imp.refl _)) (r7IsOwner_fn _ _) ?_
    refine JT.c rfl ?_
    refine JT.done ?_
    refine J.c rfl (fun h1 => ?_) (fun h1 => ?_)
    refine J.so ?_
    iterate 2 refine JT.c rfl ?_
    refine JT.done ?_
    refine J.ret ?_
    refine seqQ_r ?_
    rotate_left
    refine J.skip ?_
    refine seqQ_n ?_
    refine J.so ?_
    refine JT.c rfl ?_
    refine JT.y rfl (Ev.Lw rfl rfl) ?_
    refine JT.callD rfl rfl (Up.of (Imp.refl _)) (r7place_no _ (by first | assumption | omega | decide)) ?_
    refine JT.c rfl ?_
    refine JT.done ?_
    refine J.seq ?_
    refine J.so ?_
    refine JT.c rfl ?_
    refine JT.y rfl (Ev.cltT rfl rfl (by decide)) ?_
    refine JT.done ?_
    refine J.condT rfl ?_
    refine J.so ?_
    iterate 2 refine JT.c rfl ?_
    refine JT.done ?_
    refine J.ret ?_
    refine seqQ_r ?_
    rotate_left
  rotate_left 2
  all_goals (unfold LS.leave; (repeat (first | rw [if_pos (by (first | assumption | omega | grind))] | rw [if_neg (by (first | assumption | omega | grind))])))
  focus
    refine retQD (.t rfl (.t rfl .nil)) rfl (Up.of (RlockP.fold (.there .here) (.there .here) (.dropT (Imp.refl _))))
  focus
    refine retQD (.t rfl (.t rfl .nil)) rfl (Up.frz (.there .here) (Up.of (RlockP.fold (.there .here) .here (.dropT (.dropT (.dropT (.dropT (Imp.refl _))))))))
  focus
    refine retQD (.t rfl (.t rfl .nil)) rfl (Up.of (RlockP.fold (.there .here) (.there .here) (.dropT (Imp.refl _))))
  focus
    refine retQD (.t rfl (.t rfl .nil)) rfl (Up.of (RlockP.fold (.there .here) (.there .here) (.dropT (Imp.refl _))))

theorem r7End_fn (p : Nat) (s : LS) (F : List Assn) : Meets Try.prog 53 [ptr p] (RlockP p s :: F)
    (Some' (fun _ : Option Addr × Nat => True) (fun x => .slice x.1 s.w.length x.2) (fun x => SlT false ownerC 2 (.slice x.1 s.w.length x.2) x.2 s.w :: RlockP p s.fin :: F)) := by
  refine Meets.intro b53 k53 (by simp) ?_
  refine J.openRlock Has.here (fun T a c hC hL => ?_)
  refine J.nilS ownerC 2 false (by decide) ?_
  focus
    refine J.so ?_
    refine JT.c rfl ?_
    refine JT.done ?_
    refine J.so ?_
    iterate 2 refine JT.c rfl ?_
    refine JT.y rfl (Ev.fa' 3 rfl rfl) ?_
    refine JT.y rfl (Ev.L rfl rfl) ?_
    refine JT.c rfl ?_
    refine JT.done ?_
    refine J.so ?_
    iterate 3 refine JT.c rfl ?_
    refine JT.y rfl (Ev.agg (by repeat (first | exact Cells.nil | apply Cells.z | (apply Cells.cl; rfl; rfl; rfl)))) ?_
    refine JT.c rfl ?_
    refine JT.y rfl (Ev.fa' 0 rfl rfl) ?_
    refine JT.s rfl rfl rfl rfl rfl (Nat.le_of_ble_eq_true rfl) rfl ?_
    refine JT.c rfl ?_
    refine JT.y rfl (Ev.fa' 1 rfl rfl) ?_
    refine JT.s rfl rfl rfl rfl rfl (Nat.le_of_ble_eq_true rfl) rfl ?_
    refine JT.c rfl ?_
    refine JT.y rfl (Ev.fa' 3 rfl rfl) ?_
    refine JT.s rfl rfl rfl rfl rfl (Nat.le_of_ble_eq_true rfl) rfl ?_
    refine JT.done ?_
    refine J.so ?_
    iterate 2 refine JT.c rfl ?_
    refine JT.done ?_
    refine J.ret ?_
    refine retQS ⟨_, _⟩ (.t rfl .nil) trivial rfl (Up.of (.take (.there (.there .here)) (RlockP.fold .here .here (Imp.refl _))))
end Go.Proofs.Ytojegknfbgflnaa
