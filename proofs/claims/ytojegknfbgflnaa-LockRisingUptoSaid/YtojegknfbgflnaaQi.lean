/- The law LockRising: what its function does. Conditions: none. -/
import Derived.Test.YtojegknfbgflnaaQg
import Derived.Test.YtojegknfbgflnaaQh
set_option linter.unusedSimpArgs false
set_option linter.unusedVariables false
set_option maxRecDepth 100000
set_option maxHeartbeats 4000000
namespace Go.Proofs.Ytojegknfbgflnaa
open Go Go.SL
attribute [local irreducible] pc rc SlT Me Mt It pt ro pur ex sep old Meets

theorem lkStuck_free {a1 : Option Addr} {c1 : Nat} {xs : List Cl} {F : List Assn} [Hs : HS F (.slice a1 xs.length c1) Cl clC 4 c1 xs] (hS : xs.length ≤ 4096) (I : Fw xs) :
    Meets Try.prog 35 [.slice a1 xs.length c1] F (Some' (fun _ : Option Addr × Nat => True) (fun x => .tuple #[.slice x.1 0 x.2, i64 0]) (fun x => F)) := by
  refine Meets.post (lkStuck_ok hS fun j hj => I.ok _ (by rw [nth_eq hj]; exact List.getElem_mem hj)) ?_
  rintro v c ⟨x, _, rfl, rfl⟩
  rw [stuck_none I]
  exact ⟨F, Up.of (.dropT (Imp.refl _)), x, trivial, rfl, rfl⟩

theorem LockRising_fn {a1 : Option Addr} {c1 : Nat} {xs : List Cl} {F : List Assn} [Hs : HS F (.slice a1 xs.length c1) Cl clC 4 c1 xs] : Meets Try.prog 11 [.slice a1 xs.length c1] F (Det (.bool true) F) := by
  refine Meets.intro b11 k11 (by simp) ?_
  refine J.sl Hs (fun hC hL _ => ?_)
  focus
    refine J.so ?_
    refine JT.c rfl ?_
    refine JT.done ?_
    refine J.so ?_
    refine JT.c rfl ?_
    refine JT.done ?_
    refine J.seq ?_
    refine J.so ?_
    refine JT.c rfl ?_
    refine JT.done ?_
    refine J.block ?_
  refine J.lp (ι := Nat × List Cl × Option Addr × Nat) (fun i => i.1 ≤ xs.length ∧ i.2.1.length ≤ i.1 ∧ i.1 ≤ 40 ∧ Fw i.2.1) (fun i => [(3, .slice i.2.2.1 i.2.1.length i.2.2.2), (4, i64 (i.1 : Int))])
    (fun i => SlT true clC 4 (.slice i.2.2.1 i.2.1.length i.2.2.2) i.2.2.2 i.2.1 :: F) (fun i => xs.length - i.1) (0, [], none, 0) ⟨by simp, by simp, by simp, Fw.nil⟩ (by (repeat (first | exact subx_nil | apply subx_dup rfl | apply subx_cons rfl)))
    (Up.nilS (enc := clC) (sz := 4) true (by decide) (by (first | (refine Up.of ?_; (repeat (first | exact Imp.refl _ | (apply Imp.take; (· (repeat (first | exact Has.here | assumption | apply Has.there)))) | fail | apply Imp.dropT | exact Imp.nil _)); done) | (refine Up.frz (by (repeat (first | exact Has.here | assumption | apply Has.there))) ?_; refine Up.of ?_; (repeat (first | exact Imp.refl _ | (apply Imp.take; (· (repeat (first | exact Has.here | assumption | apply Has.there)))) | fail | apply Imp.dropT | exact Imp.nil _)); done)))) (fun i hi => ?_)
  obtain ⟨k, few, a2, c2⟩ := i
  obtain ⟨hk, hl, hk4, I⟩ := hi
  simp only at hk hl hk4 I ⊢
  refine J.slF Has.here (fun hc2 hl2 _ => ?_)
  focus
    refine J.seq ?_
    refine J.so ?_
    iterate 3 refine JT.c rfl ?_
    refine JT.y rfl (Ev.int rfl rfl rfl) ?_
    refine JT.c rfl ?_
    refine JT.yg rfl rfl (fun h1 => Ev.calc rfl) ?_
    refine JT.yg rfl rfl (fun h1 => by simp only [h1, gd_true, gd_false, Bool.not_false, Bool.not_true, Bool.true_and, Bool.and_true]; exact Ev.int rfl rfl rfl) ?_
    refine JT.y rfl (Ev.pickA rfl rfl rfl) ?_
    refine JT.done ?_
    refine J.c rfl (fun h1 => ?_) (fun h1 => ?_)
    refine J.skip ?_
    refine seqQ_n ?_
    refine J.seq ?_
    refine J.block ?_
    refine J.so ?_
    iterate 2 refine JT.c rfl ?_
    refine JT.y rfl (Ev.iC rfl rfl (by omega)) ?_
    refine JT.y rfl (Ev.LE rfl (by omega)) ?_
    refine JT.new (fun b5 => ?_)
    refine JT.w rfl rfl rfl rfl rfl ?_
    refine JT.done ?_
    refine J.so ?_
    refine JT.y rfl (Ev.fa' 0 rfl rfl) ?_
    refine JT.y rfl (Ev.Lp (us := [_, _]) rfl (Nat.le_of_ble_eq_true rfl) rfl) ?_
    refine JT.callD rfl rfl (Up.of (Imp.refl _)) (r7IsOwner_fn _ _) ?_
    refine JT.c rfl ?_
    refine JT.done ?_
    refine J.seq ?_
    refine J.so ?_
    refine JT.c rfl ?_
    refine JT.done ?_
    refine J.block ?_
    rotate_left
    refine J.exit ?_
    iterate 2 refine seqQ_x ?_
    refine blockQ_hit ?_
    refine seqQ_n ?_
    refine J.so ?_
    refine JT.c rfl ?_
    refine JT.callS rfl rfl (Up.of (Imp.refl _)) (lkStuck_free (by first | assumption | omega | decide | exact rfl) (by first | assumption | omega | decide | exact rfl)) (fun ⟨a102, c102⟩ _ => ?_)
    iterate 5 refine JT.c rfl ?_
    refine JT.done ?_
    refine J.so ?_
    refine JT.c rfl ?_
    refine JT.y rfl (Ev.ceqT rfl rfl (by decide)) ?_
    refine JT.c rfl ?_
    refine JT.gk rfl ?_
    refine JT.c rfl ?_
    refine JT.gk rfl ?_
    refine JT.c rfl ?_
    refine JT.gk rfl ?_
    refine JT.y rfl (Ev.ceqT rfl rfl (by omega)) ?_
    refine JT.y rfl (Ev.pickT rfl rfl) ?_
    refine JT.c rfl ?_
    refine JT.gk rfl ?_
    refine JT.callD rfl rfl (Up.of (Imp.refl _)) (l07alive_fn _) ?_
    refine JT.y rfl (Ev.pickT rfl rfl) ?_
    refine JT.c rfl ?_
    refine JT.done ?_
    refine J.ret ?_
    refine retQD (.t rfl .nil) rfl (Up.of (.dropT (Imp.refl _)))
  · refine J.lp (ι := Nat × Bool) (fun i => i.1 ≤ few.length ∧ (i.2 = true → okO (nth xs k).o ∧ ∀ j, j < i.1 → ¬ bad2 (nth xs k) (nth few j)))
      (fun i => [(6, .bool i.2), (7, i64 (i.1 : Int))])
      (fun i => pc b5 84 (clC (nth xs k)) :: SlT true clC 4 (.slice a2 few.length c2) c2 few :: F) (fun i => few.length - i.1) (0, decide (okO (nth xs k).o)) ⟨by simp, by simp⟩ (by (repeat (first | exact subx_nil | apply subx_dup rfl | apply subx_cons rfl))) (by (first | (refine Up.of ?_; (repeat (first | exact Imp.refl _ | (apply Imp.take; (· (repeat (first | exact Has.here | assumption | apply Has.there)))) | fail | apply Imp.dropT | exact Imp.nil _)); done) | (refine Up.frz (by (repeat (first | exact Has.here | assumption | apply Has.there))) ?_; refine Up.of ?_; (repeat (first | exact Imp.refl _ | (apply Imp.take; (· (repeat (first | exact Has.here | assumption | apply Has.there)))) | fail | apply Imp.dropT | exact Imp.nil _)); done))) (fun i hi => ?_)
    obtain ⟨j, z⟩ := i
    obtain ⟨hj, hz⟩ := hi
    simp only at hj hz ⊢
    focus
      refine J.seq ?_
      refine J.so ?_
      iterate 3 refine JT.c rfl ?_
      refine JT.y rfl (Ev.int rfl rfl rfl) ?_
      refine JT.done ?_
      refine J.c rfl (fun h2 => ?_) (fun h2 => ?_)
      refine J.skip ?_
      refine seqQ_n ?_
      rotate_left
      refine J.exit ?_
      iterate 2 refine seqQ_x ?_
      refine blockQ_hit ?_
      refine seqQ_n ?_
      refine J.so ?_
      refine JT.c rfl ?_
      refine JT.done ?_
      refine J.c rfl (fun h3 => ?_) (fun h3 => ?_)
      refine J.ops ?_
      refine JT.c rfl ?_
      refine JT.y rfl (Ev.Lw rfl rfl) ?_
      refine JT.bsl1 (by repeat (first | exact Cells.nil | apply Cells.z | (apply Cells.cl; rfl; rfl; rfl))) (by simp only [List.length_cons, List.length_nil, Nat.reduceAdd]; rfl) (by decide) (by rfl) (fun a98 => ?_)
      (refine JT.A1 rfl rfl (by rfl) rfl (by decide) (by (try simp only [List.length_nil, List.length_cons, List.length_append, List.length_take, List.length_drop, List.length_set]); omega) (fun a99 c99 hc99 => ?_))
      refine JT.c rfl ?_
      refine JT.done ?_
      refine blockQ_n ?_
      refine seqQ_n ?_
      refine J.ops ?_
      refine JT.c rfl ?_
      refine JT.y rfl (Ev.addN rfl rfl (by omega)) ?_
      refine JT.c rfl ?_
      refine JT.done ?_
      refine seqQ_n ?_
      refine ⟨⟨_, ⟨_, ⟨_, _⟩⟩⟩, ?_, (by omega), (subx_cons rfl (subx_cons rfl (subx_dup rfl (subx_dup rfl (subx_cons rfl (subx_cons rfl subx_nil)))))), (Up.of (.take .here (.dropT (.dropT (Imp.refl _)))))⟩
      rotate_left
      refine J.skip ?_
      refine blockQ_n ?_
      refine seqQ_n ?_
      refine J.ops ?_
      refine JT.c rfl ?_
      refine JT.y rfl (Ev.addN rfl rfl (by omega)) ?_
      refine JT.c rfl ?_
      refine JT.done ?_
      refine seqQ_n ?_
      refine ⟨⟨_, ⟨_, ⟨_, _⟩⟩⟩, ?_, (by omega), (subx_cons rfl (subx_cons rfl (subx_dup rfl (subx_dup rfl (subx_cons rfl (subx_cons rfl subx_nil)))))), (Up.of (.take (.there .here) (.dropT (Imp.refl _))))⟩
      rotate_left
    · have hfin : ∀ z' : Bool, (z' = true → z = true ∧ ¬ bad2 (nth xs k) (nth few j)) → (j + 1 ≤ few.length ∧ (z' = true → okO (nth xs k).o ∧ ∀ i, i < j + 1 → ¬ bad2 (nth xs k) (nth few i))) := by
        intro z' h
        refine ⟨by omega, fun e => ⟨(hz (h e).1).1, fun i hi => ?_⟩⟩
        rcases Nat.lt_succ_iff_lt_or_eq.1 hi with hi | hi
        · exact (hz (h e).1).2 i hi
        · subst hi; exact (h e).2
      by_cases ho : (nth xs k).o = (nth few j).o
      · cases hh : (nth xs k).held <;> cases hd : (nth few j).held
        focus
          refine J.seq ?_
          refine J.block ?_
          refine J.so ?_
          iterate 2 refine JT.c rfl ?_
          refine JT.y rfl (Ev.iC rfl rfl (by omega)) ?_
          refine JT.y rfl (Ev.LE rfl (by omega)) ?_
          refine JT.new (fun b8 => ?_)
          refine JT.w rfl rfl rfl rfl rfl ?_
          refine JT.done ?_
          refine J.seq ?_
          refine J.so ?_
          refine JT.y rfl (Ev.fa' 3 rfl rfl) ?_
          refine JT.y rfl (Ev.L rfl rfl) ?_
          refine JT.c rfl ?_
          iterate 2 refine JT.gTs rfl (by first | assumption | omega) ?_
          refine JT.y rfl (Ev.pickFp rfl (by first | assumption | omega) rfl) ?_
          refine JT.c rfl ?_
          iterate 5 refine JT.skip rfl rfl ?_
          refine JT.y rfl (Ev.pickF rfl rfl) ?_
          refine JT.c rfl ?_
          iterate 5 refine JT.skip rfl rfl ?_
          refine JT.y rfl (Ev.pickF rfl rfl) ?_
          refine JT.done ?_
          refine J.condF rfl ?_
          refine J.skip ?_
          refine seqQ_n ?_
          refine J.so ?_
          refine JT.y rfl (Ev.fa' 0 rfl rfl) ?_
          refine JT.y rfl (Ev.Lp (us := [_, _]) rfl (Nat.le_of_ble_eq_true rfl) rfl) ?_
          refine JT.y rfl (Ev.fa' 0 rfl rfl) ?_
          refine JT.y rfl (Ev.Lp (us := [_, _]) rfl (Nat.le_of_ble_eq_true rfl) rfl) ?_
          refine JT.y rfl (Ev.eqs rfl rfl (by repeat (first | exact EqC.nil | apply EqC.i | apply EqC.b | apply EqC.s))) ?_
          refine JT.c rfl ?_
          refine JT.gT rfl (by first | assumption | omega) ?_
          refine JT.y rfl (Ev.fa' 3 rfl rfl) ?_
          refine JT.gT rfl (by first | assumption | omega) ?_
          refine JT.y rfl (Ev.L rfl rfl) ?_
          refine JT.gT rfl (by first | assumption | omega) ?_
          refine JT.c rfl ?_
          iterate 3 refine JT.gTs rfl (by first | assumption | omega) ?_
          refine JT.gT rfl (by first | assumption | omega) ?_
          refine JT.y rfl (Ev.pickFp rfl (by first | assumption | omega) rfl) ?_
          refine JT.gT rfl (by first | assumption | omega) ?_
          refine JT.c rfl ?_
          iterate 5 refine JT.skip rfl rfl ?_
          refine JT.gT rfl (by first | assumption | omega) ?_
          refine JT.y rfl (Ev.pickF rfl rfl) ?_
          refine JT.gT rfl (by first | assumption | omega) ?_
          refine JT.c rfl ?_
          refine JT.gk rfl ?_
          refine JT.y rfl (Ev.fa' 3 rfl rfl) ?_
          refine JT.gk rfl ?_
          refine JT.y rfl (Ev.L rfl rfl) ?_
          refine JT.gk rfl ?_
          refine JT.c rfl ?_
          refine JT.gk rfl ?_
          refine JT.c rfl ?_
          refine JT.gT rfl (by first | assumption | omega) ?_
          refine JT.y rfl (Ev.fa' 3 rfl rfl) ?_
          refine JT.gT rfl (by first | assumption | omega) ?_
          refine JT.y rfl (Ev.L rfl rfl) ?_
          refine JT.gk rfl ?_
          refine JT.y rfl (Ev.pickTp rfl (by first | assumption | omega) rfl) ?_
          refine JT.gk rfl ?_
          refine JT.c rfl ?_
          iterate 5 refine JT.gTs rfl (by first | assumption | omega) ?_
          refine JT.gk rfl ?_
          refine JT.y rfl (Ev.pickFp rfl (by first | assumption | omega) rfl) ?_
          refine JT.gT rfl (by first | assumption | omega) ?_
          refine JT.y rfl (Ev.pickF rfl rfl) ?_
          refine JT.y rfl (Ev.pickTp rfl (by first | assumption | omega) rfl) ?_
          refine JT.done ?_
          refine J.condF rfl ?_
          refine J.skip ?_
          refine blockQ_n ?_
          refine seqQ_n ?_
          refine J.ops ?_
          refine JT.c rfl ?_
          refine JT.y rfl (Ev.addN rfl rfl (by omega)) ?_
          refine JT.c rfl ?_
          refine JT.done ?_
          refine seqQ_n ?_
          refine ⟨⟨_, _⟩, ?_, (by omega), (subx_cons rfl (subx_cons rfl (subx_dup rfl (subx_dup rfl (subx_cons rfl (subx_cons rfl (subx_cons rfl (subx_cons rfl (subx_cons rfl (subx_cons rfl (subx_cons rfl (subx_cons rfl (subx_cons rfl (subx_cons rfl (subx_cons rfl (subx_cons rfl (subx_cons rfl (subx_cons rfl (subx_cons rfl (subx_cons rfl (subx_cons rfl (subx_cons rfl (subx_dup rfl (subx_dup rfl (subx_cons rfl (subx_cons rfl subx_nil)))))))))))))))))))))))))), (Up.of (.take (.there .here) (.take (.there .here) (.dropT (Imp.refl _)))))⟩
          rotate_left
        rotate_left 1
        focus
          refine J.seq ?_
          refine J.block ?_
          refine J.so ?_
          iterate 2 refine JT.c rfl ?_
          refine JT.y rfl (Ev.iC rfl rfl (by omega)) ?_
          refine JT.y rfl (Ev.LE rfl (by omega)) ?_
          refine JT.new (fun b8 => ?_)
          refine JT.w rfl rfl rfl rfl rfl ?_
          refine JT.done ?_
          refine J.seq ?_
          refine J.so ?_
          refine JT.y rfl (Ev.fa' 3 rfl rfl) ?_
          refine JT.y rfl (Ev.L rfl rfl) ?_
          refine JT.c rfl ?_
          iterate 2 refine JT.gTs rfl (by first | assumption | omega) ?_
          refine JT.y rfl (Ev.pickFp rfl (by first | assumption | omega) rfl) ?_
          refine JT.c rfl ?_
          iterate 5 refine JT.skip rfl rfl ?_
          refine JT.y rfl (Ev.pickF rfl rfl) ?_
          refine JT.c rfl ?_
          iterate 5 refine JT.skip rfl rfl ?_
          refine JT.y rfl (Ev.pickF rfl rfl) ?_
          refine JT.done ?_
          refine J.condF rfl ?_
          refine J.skip ?_
          refine seqQ_n ?_
          refine J.so ?_
          refine JT.y rfl (Ev.fa' 0 rfl rfl) ?_
          refine JT.y rfl (Ev.Lp (us := [_, _]) rfl (Nat.le_of_ble_eq_true rfl) rfl) ?_
          refine JT.y rfl (Ev.fa' 0 rfl rfl) ?_
          refine JT.y rfl (Ev.Lp (us := [_, _]) rfl (Nat.le_of_ble_eq_true rfl) rfl) ?_
          refine JT.y rfl (Ev.eqs rfl rfl (by repeat (first | exact EqC.nil | apply EqC.i | apply EqC.b | apply EqC.s))) ?_
          refine JT.c rfl ?_
          refine JT.gT rfl (by first | assumption | omega) ?_
          refine JT.y rfl (Ev.fa' 3 rfl rfl) ?_
          refine JT.gT rfl (by first | assumption | omega) ?_
          refine JT.y rfl (Ev.L rfl rfl) ?_
          refine JT.gT rfl (by first | assumption | omega) ?_
          refine JT.c rfl ?_
          iterate 3 refine JT.gTs rfl (by first | assumption | omega) ?_
          refine JT.gT rfl (by first | assumption | omega) ?_
          refine JT.y rfl (Ev.pickFp rfl (by first | assumption | omega) rfl) ?_
          refine JT.gT rfl (by first | assumption | omega) ?_
          refine JT.c rfl ?_
          iterate 5 refine JT.skip rfl rfl ?_
          refine JT.gT rfl (by first | assumption | omega) ?_
          refine JT.y rfl (Ev.pickF rfl rfl) ?_
          refine JT.gT rfl (by first | assumption | omega) ?_
          refine JT.c rfl ?_
          refine JT.gk rfl ?_
          refine JT.y rfl (Ev.fa' 3 rfl rfl) ?_
          refine JT.gk rfl ?_
          refine JT.y rfl (Ev.L rfl rfl) ?_
          refine JT.gk rfl ?_
          refine JT.c rfl ?_
          refine JT.gk rfl ?_
          refine JT.c rfl ?_
          refine JT.gT rfl (by first | assumption | omega) ?_
          refine JT.y rfl (Ev.fa' 3 rfl rfl) ?_
          refine JT.gT rfl (by first | assumption | omega) ?_
          refine JT.y rfl (Ev.L rfl rfl) ?_
          refine JT.gk rfl ?_
          refine JT.y rfl (Ev.pickTp rfl (by first | assumption | omega) rfl) ?_
          refine JT.gk rfl ?_
          refine JT.c rfl ?_
          refine JT.gT rfl (by first | assumption | omega) ?_
          refine JT.y rfl (Ev.fa' 2 rfl rfl) ?_
          refine JT.gT rfl (by first | assumption | omega) ?_
          refine JT.y rfl (Ev.L rfl rfl) ?_
          refine JT.gT rfl (by first | assumption | omega) ?_
          refine JT.y rfl (Ev.fa' 2 rfl rfl) ?_
          refine JT.gT rfl (by first | assumption | omega) ?_
          refine JT.y rfl (Ev.L rfl rfl) ?_
          refine JT.gT rfl (by first | assumption | omega) ?_
          refine JT.y rfl (Ev.int rfl rfl rfl) ?_
          refine JT.gk rfl ?_
          refine JT.y rfl (Ev.pickTp rfl (by first | assumption | omega) rfl) ?_
          refine JT.gT rfl (by first | assumption | omega) ?_
          refine JT.y rfl (Ev.pickF rfl rfl) ?_
          refine JT.y rfl (Ev.pickTp rfl (by first | assumption | omega) rfl) ?_
          refine JT.done ?_
          refine J.c rfl (fun h3 => ?_) (fun h3 => ?_)
          refine J.ops ?_
          refine JT.c rfl ?_
          refine JT.done ?_
          refine blockQ_n ?_
          refine seqQ_n ?_
          refine J.ops ?_
          refine JT.c rfl ?_
          refine JT.y rfl (Ev.addN rfl rfl (by omega)) ?_
          refine JT.c rfl ?_
          refine JT.done ?_
          refine seqQ_n ?_
          refine ⟨⟨_, _⟩, ?_, (by omega), (subx_cons rfl (subx_cons rfl (subx_dup rfl (subx_dup rfl (subx_cons rfl (subx_cons rfl (subx_cons rfl (subx_cons rfl (subx_cons rfl (subx_cons rfl (subx_cons rfl (subx_cons rfl (subx_cons rfl (subx_cons rfl (subx_cons rfl (subx_cons rfl (subx_cons rfl (subx_cons rfl (subx_cons rfl (subx_cons rfl (subx_cons rfl (subx_cons rfl (subx_dup rfl (subx_dup rfl (subx_cons rfl (subx_cons rfl subx_nil)))))))))))))))))))))))))), (Up.of (.take (.there .here) (.take (.there .here) (.dropT (Imp.refl _)))))⟩
          rotate_left
          refine J.skip ?_
          refine blockQ_n ?_
          refine seqQ_n ?_
          refine J.ops ?_
          refine JT.c rfl ?_
          refine JT.y rfl (Ev.addN rfl rfl (by omega)) ?_
          refine JT.c rfl ?_
          refine JT.done ?_
          refine seqQ_n ?_
          refine ⟨⟨_, _⟩, ?_, (by omega), (subx_cons rfl (subx_cons rfl (subx_dup rfl (subx_dup rfl (subx_cons rfl (subx_cons rfl (subx_cons rfl (subx_cons rfl (subx_cons rfl (subx_cons rfl (subx_cons rfl (subx_cons rfl (subx_cons rfl (subx_cons rfl (subx_cons rfl (subx_cons rfl (subx_cons rfl (subx_cons rfl (subx_cons rfl (subx_cons rfl (subx_cons rfl (subx_cons rfl (subx_dup rfl (subx_dup rfl (subx_cons rfl (subx_cons rfl subx_nil)))))))))))))))))))))))))), (Up.of (.take (.there .here) (.take (.there .here) (.dropT (Imp.refl _)))))⟩
          rotate_left
        rotate_left 2
        focus
          refine J.seq ?_
          refine J.block ?_
          refine J.so ?_
          iterate 2 refine JT.c rfl ?_
          refine JT.y rfl (Ev.iC rfl rfl (by omega)) ?_
          refine JT.y rfl (Ev.LE rfl (by omega)) ?_
          refine JT.new (fun b8 => ?_)
          refine JT.w rfl rfl rfl rfl rfl ?_
          refine JT.done ?_
          refine J.seq ?_
          refine J.so ?_
          refine JT.y rfl (Ev.fa' 3 rfl rfl) ?_
          refine JT.y rfl (Ev.L rfl rfl) ?_
          refine JT.c rfl ?_
          refine JT.gT rfl (by first | assumption | omega) ?_
          refine JT.y rfl (Ev.fa' 3 rfl rfl) ?_
          refine JT.gT rfl (by first | assumption | omega) ?_
          refine JT.y rfl (Ev.L rfl rfl) ?_
          refine JT.y rfl (Ev.pickTp rfl (by first | assumption | omega) rfl) ?_
          refine JT.c rfl ?_
          iterate 5 refine JT.gTs rfl (by first | assumption | omega) ?_
          refine JT.y rfl (Ev.pickFp rfl (by first | assumption | omega) rfl) ?_
          refine JT.c rfl ?_
          iterate 5 refine JT.skip rfl rfl ?_
          refine JT.y rfl (Ev.pickF rfl rfl) ?_
          refine JT.done ?_
          refine J.condF rfl ?_
          refine J.skip ?_
          refine seqQ_n ?_
          refine J.so ?_
          refine JT.y rfl (Ev.fa' 0 rfl rfl) ?_
          refine JT.y rfl (Ev.Lp (us := [_, _]) rfl (Nat.le_of_ble_eq_true rfl) rfl) ?_
          refine JT.y rfl (Ev.fa' 0 rfl rfl) ?_
          refine JT.y rfl (Ev.Lp (us := [_, _]) rfl (Nat.le_of_ble_eq_true rfl) rfl) ?_
          refine JT.y rfl (Ev.eqs rfl rfl (by repeat (first | exact EqC.nil | apply EqC.i | apply EqC.b | apply EqC.s))) ?_
          refine JT.c rfl ?_
          refine JT.gT rfl (by first | assumption | omega) ?_
          refine JT.y rfl (Ev.fa' 3 rfl rfl) ?_
          refine JT.gT rfl (by first | assumption | omega) ?_
          refine JT.y rfl (Ev.L rfl rfl) ?_
          refine JT.gT rfl (by first | assumption | omega) ?_
          refine JT.c rfl ?_
          refine JT.gT rfl (by first | assumption | omega) ?_
          refine JT.y rfl (Ev.fa' 3 rfl rfl) ?_
          refine JT.gT rfl (by first | assumption | omega) ?_
          refine JT.y rfl (Ev.L rfl rfl) ?_
          refine JT.gT rfl (by first | assumption | omega) ?_
          refine JT.c rfl ?_
          refine JT.gT rfl (by first | assumption | omega) ?_
          refine JT.y rfl (Ev.pickTp rfl (by first | assumption | omega) rfl) ?_
          refine JT.gT rfl (by first | assumption | omega) ?_
          refine JT.c rfl ?_
          refine JT.gT rfl (by first | assumption | omega) ?_
          refine JT.y rfl (Ev.fa' 2 rfl rfl) ?_
          refine JT.gT rfl (by first | assumption | omega) ?_
          refine JT.y rfl (Ev.L rfl rfl) ?_
          refine JT.gT rfl (by first | assumption | omega) ?_
          refine JT.y rfl (Ev.fa' 2 rfl rfl) ?_
          refine JT.gT rfl (by first | assumption | omega) ?_
          refine JT.y rfl (Ev.L rfl rfl) ?_
          refine JT.gT rfl (by first | assumption | omega) ?_
          refine JT.y rfl (Ev.int rfl rfl rfl) ?_
          refine JT.gT rfl (by first | assumption | omega) ?_
          refine JT.y rfl (Ev.pickTp rfl (by first | assumption | omega) rfl) ?_
          refine JT.gT rfl (by first | assumption | omega) ?_
          refine JT.c rfl ?_
          refine JT.yh rfl rfl (fun h3 => Ev.fa' 3 rfl rfl) ?_
          refine JT.yh rfl rfl (fun h3 => by simp only [h3, gd_true, gd_false, Bool.not_false, Bool.not_true, Bool.true_and, Bool.and_true]; exact Ev.L rfl rfl) ?_
          iterate 2 refine JT.yh rfl rfl (fun h3 => by simp only [h3, gd_true, gd_false, Bool.not_false, Bool.not_true, Bool.true_and, Bool.and_true]; exact Ev.calc rfl) ?_
          refine JT.yg2 rfl rfl (fun h3 h3' => Ev.fa' 3 rfl rfl) ?_
          refine JT.yg2 rfl rfl (fun h3 h3' => by simp only [h3, h3', gd_true, gd_false, Bool.not_false, Bool.not_true, Bool.true_and, Bool.and_true]; exact Ev.L rfl rfl) ?_
          refine JT.yh rfl rfl (fun h3 => by simp only [h3, gd_true, gd_false, Bool.not_false, Bool.not_true, Bool.true_and, Bool.and_true]; exact Ev.pickA rfl rfl rfl) ?_
          refine JT.yh rfl rfl (fun h3 => by simp only [h3, gd_true, gd_false, Bool.not_false, Bool.not_true, Bool.true_and, Bool.and_true]; exact Ev.calc rfl) ?_
          refine JT.yg2 rfl rfl (fun h3 h3' => Ev.fa' 2 rfl rfl) ?_
          refine JT.yg2 rfl rfl (fun h3 h3' => by simp only [h3, h3', gd_true, gd_false, Bool.not_false, Bool.not_true, Bool.true_and, Bool.and_true]; exact Ev.L rfl rfl) ?_
          refine JT.yg2 rfl rfl (fun h3 h3' => Ev.fa' 2 rfl rfl) ?_
          refine JT.yg2 rfl rfl (fun h3 h3' => by simp only [h3, h3', gd_true, gd_false, Bool.not_false, Bool.not_true, Bool.true_and, Bool.and_true]; exact Ev.L rfl rfl) ?_
          refine JT.yg2 rfl rfl (fun h3 h3' => by simp only [h3, h3', gd_true, gd_false, Bool.not_false, Bool.not_true, Bool.true_and, Bool.and_true]; exact Ev.int rfl rfl rfl) ?_
          refine JT.yh rfl rfl (fun h3 => by simp only [h3, gd_true, gd_false, Bool.not_false, Bool.not_true, Bool.true_and, Bool.and_true]; exact Ev.pickA rfl rfl rfl) ?_
          refine JT.gT rfl (by first | assumption | omega) ?_
          refine JT.y rfl (Ev.pickO rfl rfl rfl) ?_
          refine JT.y rfl (Ev.pickTp rfl (by first | assumption | omega) rfl) ?_
          refine JT.done ?_
          refine J.c rfl (fun h3 => ?_) (fun h3 => ?_)
          refine J.ops ?_
          refine JT.c rfl ?_
          refine JT.done ?_
          refine blockQ_n ?_
          refine seqQ_n ?_
          refine J.ops ?_
          refine JT.c rfl ?_
          refine JT.y rfl (Ev.addN rfl rfl (by omega)) ?_
          refine JT.c rfl ?_
          refine JT.done ?_
          refine seqQ_n ?_
          refine ⟨⟨_, _⟩, ?_, (by omega), (subx_cons rfl (subx_cons rfl (subx_dup rfl (subx_dup rfl (subx_cons rfl (subx_cons rfl (subx_cons rfl (subx_cons rfl (subx_cons rfl (subx_cons rfl (subx_cons rfl (subx_cons rfl (subx_cons rfl (subx_cons rfl (subx_cons rfl (subx_cons rfl (subx_cons rfl (subx_cons rfl (subx_cons rfl (subx_cons rfl (subx_cons rfl (subx_cons rfl (subx_dup rfl (subx_dup rfl (subx_cons rfl (subx_cons rfl subx_nil)))))))))))))))))))))))))), (Up.of (.take (.there .here) (.take (.there .here) (.dropT (Imp.refl _)))))⟩
          rotate_left
          refine J.skip ?_
          refine blockQ_n ?_
          refine seqQ_n ?_
          refine J.ops ?_
          refine JT.c rfl ?_
          refine JT.y rfl (Ev.addN rfl rfl (by omega)) ?_
          refine JT.c rfl ?_
          refine JT.done ?_
          refine seqQ_n ?_
          refine ⟨⟨_, _⟩, ?_, (by omega), (subx_cons rfl (subx_cons rfl (subx_dup rfl (subx_dup rfl (subx_cons rfl (subx_cons rfl (subx_cons rfl (subx_cons rfl (subx_cons rfl (subx_cons rfl (subx_cons rfl (subx_cons rfl (subx_cons rfl (subx_cons rfl (subx_cons rfl (subx_cons rfl (subx_cons rfl (subx_cons rfl (subx_cons rfl (subx_cons rfl (subx_cons rfl (subx_cons rfl (subx_dup rfl (subx_dup rfl (subx_cons rfl (subx_cons rfl subx_nil)))))))))))))))))))))))))), (Up.of (.take (.there .here) (.take (.there .here) (.dropT (Imp.refl _)))))⟩
          rotate_left
        rotate_left 2
        focus
          refine J.seq ?_
          refine J.block ?_
          refine J.so ?_
          iterate 2 refine JT.c rfl ?_
          refine JT.y rfl (Ev.iC rfl rfl (by omega)) ?_
          refine JT.y rfl (Ev.LE rfl (by omega)) ?_
          refine JT.new (fun b8 => ?_)
          refine JT.w rfl rfl rfl rfl rfl ?_
          refine JT.done ?_
          refine J.seq ?_
          refine J.so ?_
          refine JT.y rfl (Ev.fa' 3 rfl rfl) ?_
          refine JT.y rfl (Ev.L rfl rfl) ?_
          refine JT.c rfl ?_
          refine JT.gT rfl (by first | assumption | omega) ?_
          refine JT.y rfl (Ev.fa' 3 rfl rfl) ?_
          refine JT.gT rfl (by first | assumption | omega) ?_
          refine JT.y rfl (Ev.L rfl rfl) ?_
          refine JT.y rfl (Ev.pickTp rfl (by first | assumption | omega) rfl) ?_
          refine JT.c rfl ?_
          refine JT.gT rfl (by first | assumption | omega) ?_
          refine JT.y rfl (Ev.fa' 2 rfl rfl) ?_
          refine JT.gT rfl (by first | assumption | omega) ?_
          refine JT.y rfl (Ev.L rfl rfl) ?_
          refine JT.gT rfl (by first | assumption | omega) ?_
          refine JT.y rfl (Ev.fa' 2 rfl rfl) ?_
          refine JT.gT rfl (by first | assumption | omega) ?_
          refine JT.y rfl (Ev.L rfl rfl) ?_
          refine JT.gT rfl (by first | assumption | omega) ?_
          refine JT.y rfl (Ev.int rfl rfl rfl) ?_
          refine JT.y rfl (Ev.pickTp rfl (by first | assumption | omega) rfl) ?_
          refine JT.c rfl ?_
          refine JT.yg rfl rfl (fun h3 => Ev.fa' 0 rfl rfl) ?_
          refine JT.yg rfl rfl (fun h3 => by simp only [h3, gd_true, gd_false, Bool.not_false, Bool.not_true, Bool.true_and, Bool.and_true]; exact Ev.Lp (us := [_, _]) rfl (Nat.le_of_ble_eq_true rfl) rfl) ?_
          refine JT.yg rfl rfl (fun h3 => Ev.fa' 0 rfl rfl) ?_
          refine JT.yg rfl rfl (fun h3 => by simp only [h3, gd_true, gd_false, Bool.not_false, Bool.not_true, Bool.true_and, Bool.and_true]; exact Ev.Lp (us := [_, _]) rfl (Nat.le_of_ble_eq_true rfl) rfl) ?_
          refine JT.yg rfl rfl (fun h3 => by simp only [h3, gd_true, gd_false, Bool.not_false, Bool.not_true, Bool.true_and, Bool.and_true]; exact Ev.eqs rfl rfl (by repeat (first | exact EqC.nil | apply EqC.i | apply EqC.b | apply EqC.s))) ?_
          refine JT.y rfl (Ev.pickA rfl rfl rfl) ?_
          refine JT.done ?_
          refine J.c rfl (fun h3 => ?_) (fun h3 => ?_)
          refine J.ops ?_
          refine JT.c rfl ?_
          refine JT.done ?_
          refine seqQ_n ?_
          refine J.so ?_
          refine JT.y rfl (Ev.fa' 0 rfl rfl) ?_
          refine JT.y rfl (Ev.Lp (us := [_, _]) rfl (Nat.le_of_ble_eq_true rfl) rfl) ?_
          refine JT.y rfl (Ev.fa' 0 rfl rfl) ?_
          refine JT.y rfl (Ev.Lp (us := [_, _]) rfl (Nat.le_of_ble_eq_true rfl) rfl) ?_
          refine JT.y rfl (Ev.eqs rfl rfl (by repeat (first | exact EqC.nil | apply EqC.i | apply EqC.b | apply EqC.s))) ?_
          refine JT.c rfl ?_
          refine JT.gT rfl (by first | assumption | omega) ?_
          refine JT.y rfl (Ev.fa' 3 rfl rfl) ?_
          refine JT.gT rfl (by first | assumption | omega) ?_
          refine JT.y rfl (Ev.L rfl rfl) ?_
          refine JT.gT rfl (by first | assumption | omega) ?_
          refine JT.c rfl ?_
          refine JT.gT rfl (by first | assumption | omega) ?_
          refine JT.y rfl (Ev.fa' 3 rfl rfl) ?_
          refine JT.gT rfl (by first | assumption | omega) ?_
          refine JT.y rfl (Ev.L rfl rfl) ?_
          refine JT.gT rfl (by first | assumption | omega) ?_
          refine JT.c rfl ?_
          refine JT.gT rfl (by first | assumption | omega) ?_
          refine JT.y rfl (Ev.pickTp rfl (by first | assumption | omega) rfl) ?_
          refine JT.gT rfl (by first | assumption | omega) ?_
          refine JT.c rfl ?_
          iterate 5 refine JT.gTs rfl (by first | assumption | omega) ?_
          refine JT.gT rfl (by first | assumption | omega) ?_
          refine JT.y rfl (Ev.pickFp rfl (by first | assumption | omega) rfl) ?_
          refine JT.gT rfl (by first | assumption | omega) ?_
          refine JT.c rfl ?_
          refine JT.gk rfl ?_
          refine JT.y rfl (Ev.fa' 3 rfl rfl) ?_
          refine JT.gk rfl ?_
          refine JT.y rfl (Ev.L rfl rfl) ?_
          refine JT.gk rfl ?_
          refine JT.c rfl ?_
          refine JT.gk rfl ?_
          refine JT.c rfl ?_
          iterate 2 refine JT.gTs rfl (by first | assumption | omega) ?_
          refine JT.gk rfl ?_
          refine JT.y rfl (Ev.pickFp rfl (by first | assumption | omega) rfl) ?_
          refine JT.gk rfl ?_
          refine JT.c rfl ?_
          iterate 5 refine JT.skip rfl rfl ?_
          refine JT.gk rfl ?_
          refine JT.y rfl (Ev.pickF rfl rfl) ?_
          refine JT.gT rfl (by first | assumption | omega) ?_
          refine JT.y rfl (Ev.pickF rfl rfl) ?_
          refine JT.y rfl (Ev.pickTp rfl (by first | assumption | omega) rfl) ?_
          refine JT.done ?_
          refine J.condF rfl ?_
          refine J.skip ?_
          refine blockQ_n ?_
          refine seqQ_n ?_
          refine J.ops ?_
          refine JT.c rfl ?_
          refine JT.y rfl (Ev.addN rfl rfl (by omega)) ?_
          refine JT.c rfl ?_
          refine JT.done ?_
          refine seqQ_n ?_
          refine ⟨⟨_, _⟩, ?_, (by omega), (subx_cons rfl (subx_cons rfl (subx_dup rfl (subx_dup rfl (subx_cons rfl (subx_cons rfl (subx_cons rfl (subx_cons rfl (subx_cons rfl (subx_cons rfl (subx_cons rfl (subx_cons rfl (subx_cons rfl (subx_cons rfl (subx_cons rfl (subx_cons rfl (subx_cons rfl (subx_cons rfl (subx_cons rfl (subx_cons rfl (subx_cons rfl (subx_cons rfl (subx_dup rfl (subx_dup rfl (subx_cons rfl (subx_cons rfl subx_nil)))))))))))))))))))))))))), (Up.of (.take (.there .here) (.take (.there .here) (.dropT (Imp.refl _)))))⟩
          rotate_left
          refine J.skip ?_
          refine seqQ_n ?_
          refine J.so ?_
          refine JT.y rfl (Ev.fa' 0 rfl rfl) ?_
          refine JT.y rfl (Ev.Lp (us := [_, _]) rfl (Nat.le_of_ble_eq_true rfl) rfl) ?_
          refine JT.y rfl (Ev.fa' 0 rfl rfl) ?_
          refine JT.y rfl (Ev.Lp (us := [_, _]) rfl (Nat.le_of_ble_eq_true rfl) rfl) ?_
          refine JT.y rfl (Ev.eqs rfl rfl (by repeat (first | exact EqC.nil | apply EqC.i | apply EqC.b | apply EqC.s))) ?_
          refine JT.c rfl ?_
          refine JT.gT rfl (by first | assumption | omega) ?_
          refine JT.y rfl (Ev.fa' 3 rfl rfl) ?_
          refine JT.gT rfl (by first | assumption | omega) ?_
          refine JT.y rfl (Ev.L rfl rfl) ?_
          refine JT.gT rfl (by first | assumption | omega) ?_
          refine JT.c rfl ?_
          refine JT.gT rfl (by first | assumption | omega) ?_
          refine JT.y rfl (Ev.fa' 3 rfl rfl) ?_
          refine JT.gT rfl (by first | assumption | omega) ?_
          refine JT.y rfl (Ev.L rfl rfl) ?_
          refine JT.gT rfl (by first | assumption | omega) ?_
          refine JT.c rfl ?_
          refine JT.gT rfl (by first | assumption | omega) ?_
          refine JT.y rfl (Ev.pickTp rfl (by first | assumption | omega) rfl) ?_
          refine JT.gT rfl (by first | assumption | omega) ?_
          refine JT.c rfl ?_
          iterate 5 refine JT.gTs rfl (by first | assumption | omega) ?_
          refine JT.gT rfl (by first | assumption | omega) ?_
          refine JT.y rfl (Ev.pickFp rfl (by first | assumption | omega) rfl) ?_
          refine JT.gT rfl (by first | assumption | omega) ?_
          refine JT.c rfl ?_
          refine JT.gk rfl ?_
          refine JT.y rfl (Ev.fa' 3 rfl rfl) ?_
          refine JT.gk rfl ?_
          refine JT.y rfl (Ev.L rfl rfl) ?_
          refine JT.gk rfl ?_
          refine JT.c rfl ?_
          refine JT.gk rfl ?_
          refine JT.c rfl ?_
          iterate 2 refine JT.gTs rfl (by first | assumption | omega) ?_
          refine JT.gk rfl ?_
          refine JT.y rfl (Ev.pickFp rfl (by first | assumption | omega) rfl) ?_
          refine JT.gk rfl ?_
          refine JT.c rfl ?_
          iterate 5 refine JT.skip rfl rfl ?_
          refine JT.gk rfl ?_
          refine JT.y rfl (Ev.pickF rfl rfl) ?_
          refine JT.gT rfl (by first | assumption | omega) ?_
          refine JT.y rfl (Ev.pickF rfl rfl) ?_
          refine JT.y rfl (Ev.pickTp rfl (by first | assumption | omega) rfl) ?_
          refine JT.done ?_
          refine J.condF rfl ?_
          refine J.skip ?_
          refine blockQ_n ?_
          refine seqQ_n ?_
          refine J.ops ?_
          refine JT.c rfl ?_
          refine JT.y rfl (Ev.addN rfl rfl (by omega)) ?_
          refine JT.c rfl ?_
          refine JT.done ?_
          refine seqQ_n ?_
          refine ⟨⟨_, _⟩, ?_, (by omega), (subx_cons rfl (subx_cons rfl (subx_dup rfl (subx_dup rfl (subx_cons rfl (subx_cons rfl (subx_cons rfl (subx_cons rfl (subx_cons rfl (subx_cons rfl (subx_cons rfl (subx_cons rfl (subx_cons rfl (subx_cons rfl (subx_cons rfl (subx_cons rfl (subx_cons rfl (subx_cons rfl (subx_cons rfl (subx_cons rfl (subx_cons rfl (subx_cons rfl (subx_dup rfl (subx_dup rfl (subx_cons rfl (subx_cons rfl subx_nil)))))))))))))))))))))))))), (Up.of (.take (.there .here) (.take (.there .here) (.dropT (Imp.refl _)))))⟩
          rotate_left
        rotate_left 2
        all_goals (refine hfin _ ?_; unfold bad2; grind)
      · focus
          refine J.seq ?_
          refine J.block ?_
          refine J.so ?_
          iterate 2 refine JT.c rfl ?_
          refine JT.y rfl (Ev.iC rfl rfl (by omega)) ?_
          refine JT.y rfl (Ev.LE rfl (by omega)) ?_
          refine JT.new (fun b8 => ?_)
          refine JT.w rfl rfl rfl rfl rfl ?_
          refine JT.done ?_
          refine J.seq ?_
          refine J.so ?_
          refine JT.y rfl (Ev.fa' 3 rfl rfl) ?_
          refine JT.y rfl (Ev.L rfl rfl) ?_
          refine JT.c rfl ?_
          refine JT.yg rfl rfl (fun h3 => Ev.fa' 3 rfl rfl) ?_
          refine JT.yg rfl rfl (fun h3 => by simp only [h3, gd_true, gd_false, Bool.not_false, Bool.not_true, Bool.true_and, Bool.and_true]; exact Ev.L rfl rfl) ?_
          refine JT.y rfl (Ev.pickA rfl rfl rfl) ?_
          refine JT.c rfl ?_
          refine JT.yg rfl rfl (fun h3 => Ev.fa' 2 rfl rfl) ?_
          refine JT.yg rfl rfl (fun h3 => by simp only [h3, gd_true, gd_false, Bool.not_false, Bool.not_true, Bool.true_and, Bool.and_true]; exact Ev.L rfl rfl) ?_
          refine JT.yg rfl rfl (fun h3 => Ev.fa' 2 rfl rfl) ?_
          refine JT.yg rfl rfl (fun h3 => by simp only [h3, gd_true, gd_false, Bool.not_false, Bool.not_true, Bool.true_and, Bool.and_true]; exact Ev.L rfl rfl) ?_
          refine JT.yg rfl rfl (fun h3 => by simp only [h3, gd_true, gd_false, Bool.not_false, Bool.not_true, Bool.true_and, Bool.and_true]; exact Ev.int rfl rfl rfl) ?_
          refine JT.y rfl (Ev.pickA rfl rfl rfl) ?_
          refine JT.c rfl ?_
          refine JT.yg rfl rfl (fun h3 => Ev.fa' 0 rfl rfl) ?_
          refine JT.yg rfl rfl (fun h3 => by simp only [h3, gd_true, gd_false, Bool.not_false, Bool.not_true, Bool.true_and, Bool.and_true]; exact Ev.Lp (us := [_, _]) rfl (Nat.le_of_ble_eq_true rfl) rfl) ?_
          refine JT.yg rfl rfl (fun h3 => Ev.fa' 0 rfl rfl) ?_
          refine JT.yg rfl rfl (fun h3 => by simp only [h3, gd_true, gd_false, Bool.not_false, Bool.not_true, Bool.true_and, Bool.and_true]; exact Ev.Lp (us := [_, _]) rfl (Nat.le_of_ble_eq_true rfl) rfl) ?_
          refine JT.yg rfl rfl (fun h3 => by simp only [h3, gd_true, gd_false, Bool.not_false, Bool.not_true, Bool.true_and, Bool.and_true]; exact Ev.eqs rfl rfl (by repeat (first | exact EqC.nil | apply EqC.i | apply EqC.b | apply EqC.s))) ?_
          refine JT.y rfl (Ev.pickA rfl rfl rfl) ?_
          refine JT.done ?_
          refine J.c rfl (fun h3 => ?_) (fun h3 => ?_)
          refine J.ops ?_
          refine JT.c rfl ?_
          refine JT.done ?_
          refine seqQ_n ?_
          refine J.so ?_
          refine JT.y rfl (Ev.fa' 0 rfl rfl) ?_
          refine JT.y rfl (Ev.Lp (us := [_, _]) rfl (Nat.le_of_ble_eq_true rfl) rfl) ?_
          refine JT.y rfl (Ev.fa' 0 rfl rfl) ?_
          refine JT.y rfl (Ev.Lp (us := [_, _]) rfl (Nat.le_of_ble_eq_true rfl) rfl) ?_
          refine JT.y rfl (Ev.eqs rfl rfl (by repeat (first | exact EqC.nil | apply EqC.i | apply EqC.b | apply EqC.s))) ?_
          refine JT.c rfl ?_
          iterate 3 refine JT.gTs rfl (by first | assumption | omega) ?_
          iterate 3 refine JT.skipU rfl ?_
          iterate 2 refine JT.gTs rfl (by first | assumption | omega) ?_
          iterate 5 refine JT.skipU rfl ?_
          iterate 2 refine JT.gTs rfl (by first | assumption | omega) ?_
          iterate 14 refine JT.skipU rfl ?_
          refine JT.gTs rfl (by first | assumption | omega) ?_
          refine JT.y rfl (Ev.pickFp rfl (by first | assumption | omega) rfl) ?_
          refine JT.done ?_
          refine J.condF rfl ?_
          refine J.skip ?_
          refine blockQ_n ?_
          refine seqQ_n ?_
          refine J.ops ?_
          refine JT.c rfl ?_
          refine JT.y rfl (Ev.addN rfl rfl (by omega)) ?_
          refine JT.c rfl ?_
          refine JT.done ?_
          refine seqQ_n ?_
          refine ⟨⟨_, _⟩, ?_, (by omega), (subx_cons rfl (subx_cons rfl (subx_dup rfl (subx_dup rfl (subx_cons rfl (subx_cons rfl (subx_cons rfl (subx_cons rfl (subx_cons rfl (subx_cons rfl (subx_cons rfl (subx_cons rfl (subx_cons rfl (subx_cons rfl (subx_cons rfl (subx_cons rfl (subx_cons rfl (subx_cons rfl (subx_cons rfl (subx_cons rfl (subx_cons rfl (subx_cons rfl (subx_dup rfl (subx_dup rfl (subx_cons rfl (subx_cons rfl subx_nil)))))))))))))))))))))))))), (Up.of (.take (.there .here) (.take (.there .here) (.dropT (Imp.refl _)))))⟩
          rotate_left
          refine J.skip ?_
          refine seqQ_n ?_
          refine J.so ?_
          refine JT.y rfl (Ev.fa' 0 rfl rfl) ?_
          refine JT.y rfl (Ev.Lp (us := [_, _]) rfl (Nat.le_of_ble_eq_true rfl) rfl) ?_
          refine JT.y rfl (Ev.fa' 0 rfl rfl) ?_
          refine JT.y rfl (Ev.Lp (us := [_, _]) rfl (Nat.le_of_ble_eq_true rfl) rfl) ?_
          refine JT.y rfl (Ev.eqs rfl rfl (by repeat (first | exact EqC.nil | apply EqC.i | apply EqC.b | apply EqC.s))) ?_
          refine JT.c rfl ?_
          iterate 3 refine JT.gTs rfl (by first | assumption | omega) ?_
          iterate 3 refine JT.skipU rfl ?_
          iterate 2 refine JT.gTs rfl (by first | assumption | omega) ?_
          iterate 5 refine JT.skipU rfl ?_
          iterate 2 refine JT.gTs rfl (by first | assumption | omega) ?_
          iterate 14 refine JT.skipU rfl ?_
          refine JT.gTs rfl (by first | assumption | omega) ?_
          refine JT.y rfl (Ev.pickFp rfl (by first | assumption | omega) rfl) ?_
          refine JT.done ?_
          refine J.condF rfl ?_
          refine J.skip ?_
          refine blockQ_n ?_
          refine seqQ_n ?_
          refine J.ops ?_
          refine JT.c rfl ?_
          refine JT.y rfl (Ev.addN rfl rfl (by omega)) ?_
          refine JT.c rfl ?_
          refine JT.done ?_
          refine seqQ_n ?_
          refine ⟨⟨_, _⟩, ?_, (by omega), (subx_cons rfl (subx_cons rfl (subx_dup rfl (subx_dup rfl (subx_cons rfl (subx_cons rfl (subx_cons rfl (subx_cons rfl (subx_cons rfl (subx_cons rfl (subx_cons rfl (subx_cons rfl (subx_cons rfl (subx_cons rfl (subx_cons rfl (subx_cons rfl (subx_cons rfl (subx_cons rfl (subx_cons rfl (subx_cons rfl (subx_cons rfl (subx_cons rfl (subx_dup rfl (subx_dup rfl (subx_cons rfl (subx_cons rfl subx_nil)))))))))))))))))))))))))), (Up.of (.take (.there .here) (.take (.there .here) (.dropT (Imp.refl _)))))⟩
          rotate_left
        all_goals (refine hfin _ ?_; unfold bad2; grind)
    · exact ⟨by simp only; omega, by simp only [List.length_append, List.length_cons, List.length_nil]; omega, by simp only; omega, I.snoc (hz h3).1 fun i hi => (hz h3).2 i (by omega)⟩
    · exact ⟨by simp only; omega, by simp only; omega, by simp only; omega, I⟩
end Go.Proofs.Ytojegknfbgflnaa
