/- The law LockTurns: what its functions do. Conditions: none. -/
import Derived.Test.YtojegknfbgflnaaLr
import Derived.Test.YtojegknfbgflnaaLf
set_option linter.unusedSimpArgs false
set_option linter.unusedVariables false
set_option maxRecDepth 100000
set_option maxHeartbeats 4000000
namespace Go.Proofs.Ytojegknfbgflnaa
open Go Go.SL
attribute [local irreducible] pc rc SlT Me Mt It pt ro pur ex sep old Meets
attribute [local irreducible] LockP RlockP

theorem LockTurns_fn {a1 : Option Addr} {c1 : Nat} {xs : List LOp} {F : List Assn} [Hs : HS F (.slice a1 xs.length c1) LOp lopC 3 c1 xs] : Meets Try.prog 4 [.slice a1 xs.length c1] F (Det (.bool true) F) := by
  refine Meets.intro b4 k4 (by simp) ?_
  refine J.sl Hs (fun hC hL _ => ?_)
  focus
    refine J.so ?_
    refine JT.c rfl ?_
    refine JT.done ?_
    refine J.so ?_
    refine JT.callS rfl rfl (Up.of (Imp.refl _)) (lkNew_fn _) (fun x18 _ => ?_)
    refine JT.c rfl ?_
    refine JT.done ?_
    refine J.seq ?_
    refine J.so ?_
    iterate 2 refine JT.c rfl ?_
    refine JT.done ?_
    refine J.condF rfl ?_
    refine J.skip ?_
    refine seqQ_n ?_
    refine J.so ?_
    refine JT.c rfl ?_
    refine JT.done ?_
    refine J.seq ?_
    refine J.so ?_
    refine JT.c rfl ?_
    refine JT.done ?_
    refine J.block ?_
  refine J.keep [(0, .slice a1 xs.length c1), (3, ptr x18), (4, .slice none 0 0), (5, i64 0)] (by (repeat (first | exact subx_nil | apply subx_dup rfl | apply subx_cons rfl))) ?_
  refine J.lp (ι := Nat × LS × List Owner × Option Addr × Nat) (fun i => i.1 ≤ xs.length ∧ i.2.1.Inv ∧ i.2.1.row = i.2.2.1) (fun i => [(4, .slice i.2.2.2.1 i.2.2.1.length i.2.2.2.2), (5, i64 (i.1 : Int))])
    (fun i => LockP x18 i.2.1 :: SlT true ownerC 2 (.slice i.2.2.2.1 i.2.2.1.length i.2.2.2.2) i.2.2.2.2 i.2.2.1 :: F) (fun i => xs.length - i.1) (0, LS.new, [], none, 0) ⟨by simp, LS.Inv.new, rfl⟩ (by (repeat (first | exact subx_nil | apply subx_dup rfl | apply subx_cons rfl)))
    (Up.nilS (enc := ownerC) (sz := 2) true (by decide) (by (first | (refine Up.of ?_; (repeat (first | exact Imp.refl _ | (apply Imp.take; (· (repeat (first | exact Has.here | assumption | apply Has.there)))) | fail | apply Imp.dropT | exact Imp.nil _)); done) | (refine Up.frz (by (repeat (first | exact Has.here | assumption | apply Has.there))) ?_; refine Up.of ?_; (repeat (first | exact Imp.refl _ | (apply Imp.take; (· (repeat (first | exact Has.here | assumption | apply Has.there)))) | fail | apply Imp.dropT | exact Imp.nil _)); done)))) (fun i hi => ?_)
  obtain ⟨k, s, row, a2, c2⟩ := i
  obtain ⟨hk, I, hrow⟩ := hi
  simp only at hk I hrow ⊢
  have hrl : row.length ≤ 65 := by
    have h1 := I.le
    rw [← hrow, LS.row]; split <;> simp <;> omega
  refine J.slF (Has.there Has.here) (fun hc2 hl2 _ => ?_)
  focus
    refine J.seq ?_
    refine J.so ?_
    iterate 3 refine JT.c rfl ?_
    refine JT.y rfl (Ev.int rfl rfl rfl) ?_
    refine JT.c rfl ?_
    refine JT.yg rfl rfl (fun h1 => Ev.calc rfl) ?_
    refine JT.yg rfl rfl (fun h1 => by simp only [h1, gd_true, gd_false, Bool.not_false, Bool.not_true, Bool.true_and, Bool.and_true]; exact Ev.int rfl rfl rfl) ?_
    refine JT.y rfl (Ev.pickA rfl rfl rfl) ?_
    refine JT.done ?_
    refine J.c rfl (fun h1 => ?_) (fun h1 => ?_)
    refine J.skip ?_
    refine seqQ_n ?_
    refine J.seq ?_
    refine J.block ?_
    refine J.so ?_
    iterate 2 refine JT.c rfl ?_
    refine JT.y rfl (Ev.iC rfl rfl (by omega)) ?_
    refine JT.y rfl (Ev.LE rfl (by omega)) ?_
    refine JT.new (fun b6 => ?_)
    refine JT.w rfl rfl rfl rfl rfl ?_
    refine JT.done ?_
    refine J.so ?_
    refine JT.c rfl ?_
    refine JT.done ?_
    refine J.seq ?_
    refine J.so ?_
    refine JT.c rfl ?_
    refine JT.done ?_
    refine J.block ?_
    rotate_left
    refine J.exit ?_
    iterate 2 refine seqQ_x ?_
    refine blockQ_hit ?_
    refine seqQ_n ?_
    refine J.so ?_
    refine JT.callD rfl rfl (Up.of (Imp.refl _)) (l07alive_fn _) ?_
    refine JT.c rfl ?_
    refine JT.done ?_
    refine J.ret ?_
    refine retQD (.t rfl .nil) rfl (Up.of (.dropT (.dropT (Imp.refl _))))
  · refine J.lp (ι := Nat × Int) (fun i => i.1 ≤ row.length ∧ ((i.2 = -1 ∧ ∀ j, j < i.1 → nth row j ≠ (nth xs k).o) ∨ ∃ m : Nat, i.2 = m ∧ m < i.1 ∧ nth row m = (nth xs k).o))
      (fun i => [(7, i64 i.2), (8, i64 (i.1 : Int))])
      (fun i => pc b6 35 (lopC (nth xs k)) :: LockP x18 s :: SlT true ownerC 2 (.slice a2 row.length c2) c2 row :: F) (fun i => row.length - i.1) (0, -1) ⟨by simp, .inl ⟨rfl, fun j hj => by omega⟩⟩ (by (repeat (first | exact subx_nil | apply subx_dup rfl | apply subx_cons rfl))) (by (first | (refine Up.of ?_; (repeat (first | exact Imp.refl _ | (apply Imp.take; (· (repeat (first | exact Has.here | assumption | apply Has.there)))) | fail | apply Imp.dropT | exact Imp.nil _)); done) | (refine Up.frz (by (repeat (first | exact Has.here | assumption | apply Has.there))) ?_; refine Up.of ?_; (repeat (first | exact Imp.refl _ | (apply Imp.take; (· (repeat (first | exact Has.here | assumption | apply Has.there)))) | fail | apply Imp.dropT | exact Imp.nil _)); done))) (fun i hi => ?_)
    obtain ⟨j, z⟩ := i
    obtain ⟨hj, hz⟩ := hi
    simp only at hj hz ⊢
    focus
      refine J.seq ?_
      refine J.so ?_
      iterate 3 refine JT.c rfl ?_
      refine JT.y rfl (Ev.int rfl rfl rfl) ?_
      refine JT.done ?_
      refine J.c rfl (fun h2 => ?_) (fun h2 => ?_)
      refine J.skip ?_
      refine seqQ_n ?_
      refine J.seq ?_
      refine J.block ?_
      refine J.so ?_
      iterate 2 refine JT.c rfl ?_
      refine JT.y rfl (Ev.iC rfl rfl (by omega)) ?_
      refine JT.y rfl (Ev.LE rfl (by omega)) ?_
      refine JT.y rfl (Ev.fa' 1 rfl rfl) ?_
      refine JT.y rfl (Ev.Lf rfl (Nat.le_of_ble_eq_true rfl)) ?_
      refine JT.y rfl (Ev.eqT rfl rfl) ?_
      refine JT.done ?_
      refine J.c rfl (fun h3 => ?_) (fun h3 => ?_)
      refine J.ops ?_
      iterate 2 refine JT.c rfl ?_
      refine JT.done ?_
      refine blockQ_n ?_
      refine seqQ_n ?_
      refine J.ops ?_
      refine JT.c rfl ?_
      refine JT.y rfl (Ev.addN rfl rfl (by omega)) ?_
      refine JT.c rfl ?_
      refine JT.done ?_
      refine seqQ_n ?_
      refine ⟨⟨_, _⟩, ?_, (by omega), (subx_cons rfl (subx_cons rfl (subx_dup rfl (subx_dup rfl (subx_cons rfl (subx_cons rfl (subx_cons rfl (subx_cons rfl (subx_cons rfl (subx_cons rfl (subx_cons rfl (subx_cons rfl (subx_cons rfl (subx_cons rfl (subx_cons rfl (subx_cons rfl (subx_cons rfl (subx_cons rfl (subx_cons rfl (subx_cons rfl (subx_cons rfl (subx_dup rfl (subx_dup rfl subx_nil))))))))))))))))))))))), (Up.of (.take .here (.take .here (.take .here (Imp.refl _)))))⟩
      rotate_left
      refine J.skip ?_
      refine blockQ_n ?_
      refine seqQ_n ?_
      refine J.ops ?_
      refine JT.c rfl ?_
      refine JT.y rfl (Ev.addN rfl rfl (by omega)) ?_
      refine JT.c rfl ?_
      refine JT.done ?_
      refine seqQ_n ?_
      refine ⟨⟨_, _⟩, ?_, (by omega), (subx_cons rfl (subx_cons rfl (subx_dup rfl (subx_dup rfl (subx_cons rfl (subx_cons rfl (subx_cons rfl (subx_cons rfl (subx_cons rfl (subx_cons rfl (subx_cons rfl (subx_cons rfl (subx_cons rfl (subx_cons rfl (subx_cons rfl (subx_cons rfl (subx_cons rfl (subx_cons rfl (subx_cons rfl (subx_cons rfl (subx_cons rfl (subx_dup rfl (subx_dup rfl subx_nil))))))))))))))))))))))), (Up.of (.take .here (.take .here (.take .here (Imp.refl _)))))⟩
      rotate_left
      refine J.exit ?_
      iterate 2 refine seqQ_x ?_
      refine blockQ_hit ?_
      refine seqQ_n ?_
      rotate_left
    · refine ⟨by simp only; omega, .inr ⟨j, rfl, by simp only; omega, by assumption⟩⟩
    · refine ⟨by simp only; omega, ?_⟩
      rcases hz with ⟨rfl, hz⟩ | ⟨m, rfl, hm, he⟩
      · exact .inl ⟨rfl, all_lt_succ hz (by assumption)⟩
      · exact .inr ⟨m, rfl, by simp only; omega, he⟩
    have hix : z = ix s.row (nth xs k).o := by
      rw [hrow]
      rcases hz with ⟨rfl, hz⟩ | ⟨m, rfl, hm, he⟩
      · rw [ix_no fun i hi => hz i (by omega)]
      · have hnd := I.nd
        rw [hrow] at hnd
        refine (ix_at (by omega) (fun i hi e => ?_) he).symm
        rw [← he, nth_eq (by omega), nth_eq (by omega)] at e
        have := (List.getElem_inj hnd).1 e
        omega
    rw [hrow] at hix
    subst hix
    clear hz hj h2
    refine J.cutE (ι := LS × List Owner × Option Addr × Nat) (fun i => i.1.Inv ∧ i.1.row = i.2.1) (fun i => [(0, .slice a1 xs.length c1), (3, ptr x18), (4, .slice i.2.2.1 i.2.1.length i.2.2.2), (5, i64 (k : Int))])
      (fun i => LockP x18 i.1 :: SlT true ownerC 2 (.slice i.2.2.1 i.2.1.length i.2.2.2) i.2.2.2 i.2.1 :: F) ?_ (fun i I' => ?_)
    · refine J.keep [(0, .slice a1 xs.length c1), (3, ptr x18), (4, .slice a2 row.length c2), (5, i64 (k : Int)), (6, ptr b6), (7, i64 (ix row (nth xs k).o))] (by (repeat (first | exact subx_nil | apply subx_dup rfl | apply subx_cons rfl))) ?_
      by_cases k1 : (nth xs k).kind = 1
      · obtain ⟨s', pb, pe, e, I', hc⟩ := LS.turn_ask I (nth xs k).o
        rw [hrow] at hc
        have hA : ∀ F, Meets Try.prog 16 [ptr x18, ov (nth xs k).o] (LockP x18 s :: F) (Det (.tuple #[.bool pb, i64 pe]) (LockP x18 s' :: F)) := fun F => by have := lkAsk_fn x18 s (nth xs k).o F; rw [e] at this; exact this
        clear e I hrow
        rcases hc with ⟨he, hz0, hr⟩ | ⟨hn, hr⟩
        · focus
            refine J.so ?_
            refine JT.y rfl (Ev.fa' 0 rfl rfl) ?_
            refine JT.y rfl (Ev.L rfl rfl) ?_
            refine JT.done ?_
            refine J.block ?_
            refine J.so ?_
            refine JT.y rfl (Ev.ceqT rfl rfl (by omega)) ?_
            refine JT.c rfl ?_
            refine JT.done ?_
            refine J.condT rfl ?_
            refine J.so ?_
            refine JT.c rfl ?_
            refine JT.y rfl (Ev.fa' 1 rfl rfl) ?_
            refine JT.y rfl (Ev.Lf rfl (Nat.le_of_ble_eq_true rfl)) ?_
            refine JT.callD rfl rfl (Up.of (.take (.there .here) (Imp.refl _))) (hA _) ?_
            iterate 5 refine JT.c rfl ?_
            refine JT.done ?_
            refine J.so ?_
            refine JT.c rfl ?_
            refine JT.y rfl (Ev.ceqT rfl rfl (by omega)) ?_
            refine JT.c rfl ?_
            refine JT.gk rfl ?_
            refine JT.c rfl ?_
            refine JT.gk rfl ?_
            refine JT.y rfl (Ev.cltT rfl rfl (by omega)) ?_
            refine JT.y rfl (Ev.pickT rfl rfl) ?_
            refine JT.done ?_
            refine J.condT rfl ?_
            refine J.ops ?_
            refine JT.c rfl ?_
            refine JT.y rfl (Ev.fa' 1 rfl rfl) ?_
            refine JT.y rfl (Ev.Lf rfl (Nat.le_of_ble_eq_true rfl)) ?_
            refine JT.bsl1 (by repeat (first | exact Cells.nil | apply Cells.z | (apply Cells.cl; rfl; rfl; rfl))) (by simp only [List.length_cons, List.length_nil, Nat.reduceAdd]; rfl) (by decide) (by rfl) (fun a69 => ?_)
            (refine JT.A1 rfl rfl (by rfl) rfl (by decide) (by (try simp only [List.length_nil, List.length_cons, List.length_append, List.length_take, List.length_drop, List.length_set]); omega) (fun a70 c70 hc70 => ?_))
            refine JT.c rfl ?_
            refine JT.done ?_
            refine blockQ_n ?_
            refine seqQ_n ?_
            refine ⟨⟨_, ⟨_, ⟨_, _⟩⟩⟩, ?_, (subx_cons rfl (subx_cons rfl (subx_cons rfl (subx_cons rfl subx_nil)))), (Up.of (.take (.there (.there .here)) (.take .here (.dropT (.dropT (Imp.refl _))))))⟩
            exact ⟨by omega, by assumption⟩
        · focus
            refine J.so ?_
            refine JT.y rfl (Ev.fa' 0 rfl rfl) ?_
            refine JT.y rfl (Ev.L rfl rfl) ?_
            refine JT.done ?_
            refine J.block ?_
            refine J.so ?_
            refine JT.y rfl (Ev.ceqT rfl rfl (by omega)) ?_
            refine JT.c rfl ?_
            refine JT.done ?_
            refine J.condT rfl ?_
            refine J.so ?_
            refine JT.c rfl ?_
            refine JT.y rfl (Ev.fa' 1 rfl rfl) ?_
            refine JT.y rfl (Ev.Lf rfl (Nat.le_of_ble_eq_true rfl)) ?_
            refine JT.callD rfl rfl (Up.of (.take (.there .here) (Imp.refl _))) (hA _) ?_
            iterate 5 refine JT.c rfl ?_
            refine JT.done ?_
            refine J.so ?_
            refine JT.c rfl ?_
            refine JT.y rfl (Ev.int rfl rfl rfl) ?_
            refine JT.c rfl ?_
            refine JT.yg rfl rfl (fun h2 => Ev.calc rfl) ?_
            refine JT.yg rfl rfl (fun h2 => by simp only [h2, gd_true, gd_false, Bool.not_false, Bool.not_true, Bool.true_and, Bool.and_true]; exact Ev.int rfl rfl rfl) ?_
            refine JT.y rfl (Ev.pickA rfl rfl rfl) ?_
            refine JT.done ?_
            refine J.c rfl (fun h2 => ?_) (fun h2 => ?_)
            (exfalso; omega)
            refine J.skip ?_
            refine blockQ_n ?_
            refine seqQ_n ?_
            refine ⟨⟨_, ⟨_, ⟨_, _⟩⟩⟩, ?_, (subx_cons rfl (subx_cons rfl (subx_cons rfl (subx_cons rfl subx_nil)))), (Up.of (.take .here (.take (.there .here) (.dropT (Imp.refl _)))))⟩
            exact ⟨by omega, by assumption⟩
      by_cases k2 : (nth xs k).kind = 2
      · obtain ⟨s', pp, pb, pe, e, I', hc⟩ := LS.turn_free I (nth xs k).o
        rw [hrow] at hc
        have hA : ∀ F, Meets Try.prog 18 [ptr x18, ov (nth xs k).o] (LockP x18 s :: F) (Det (.tuple #[ov pp, .bool pb, i64 pe]) (LockP x18 s' :: F)) := fun F => by have := lkFree_fn x18 s (nth xs k).o F; rw [e] at this; exact this
        clear e I hrow
        rcases hc with ⟨he, hz0, hr⟩ | ⟨he, hz0, hr⟩
        · have hrp := ix_pos hz0
          focus
            refine J.so ?_
            refine JT.y rfl (Ev.fa' 0 rfl rfl) ?_
            refine JT.y rfl (Ev.L rfl rfl) ?_
            refine JT.done ?_
            refine J.block ?_
            refine J.so ?_
            refine JT.y rfl (Ev.ceqF rfl rfl (by omega)) ?_
            refine JT.c rfl ?_
            refine JT.done ?_
            refine J.condF rfl ?_
            refine J.so ?_
            refine JT.y rfl (Ev.ceqT rfl rfl (by omega)) ?_
            refine JT.c rfl ?_
            refine JT.done ?_
            refine J.condT rfl ?_
            refine J.so ?_
            refine JT.c rfl ?_
            refine JT.y rfl (Ev.fa' 1 rfl rfl) ?_
            refine JT.y rfl (Ev.Lf rfl (Nat.le_of_ble_eq_true rfl)) ?_
            refine JT.callD rfl rfl (Up.of (.take (.there .here) (Imp.refl _))) (hA _) ?_
            iterate 4 refine JT.c rfl ?_
            refine JT.new (fun b11 => ?_)
            refine JT.w rfl rfl rfl rfl rfl ?_
            iterate 2 refine JT.c rfl ?_
            refine JT.done ?_
            refine J.seq ?_
            refine J.so ?_
            refine JT.c rfl ?_
            refine JT.y rfl (Ev.ceqT rfl rfl (by omega)) ?_
            refine JT.c rfl ?_
            refine JT.y rfl (Ev.ceqT rfl rfl (by omega)) ?_
            refine JT.c rfl ?_
            refine JT.done ?_
            refine J.condF rfl ?_
            refine J.skip ?_
            refine seqQ_n ?_
            refine J.so ?_
            refine JT.c rfl ?_
            refine JT.y rfl (Ev.ceqT rfl rfl (by omega)) ?_
            refine JT.done ?_
            refine J.condT rfl ?_
            refine J.ops ?_
            refine JT.b0 (fun a88 => ?_)
            refine JT.c rfl ?_
            refine JT.V rfl (by first | exact Bd.no | exact Bd.c rfl | exact Bd.si rfl (by omega)) (by first | exact Bd.no | exact Bd.c rfl | exact Bd.si rfl (by omega)) (by first | exact Bd.no | exact Bd.c rfl | exact Bd.si rfl (by omega)) (by decide) (by (try simp only [List.length_nil, List.length_cons, List.length_append, List.length_take, List.length_drop, List.length_set]); omega) (by (try simp only [List.length_nil, List.length_cons, List.length_append, List.length_take, List.length_drop, List.length_set]); omega) (by (try simp only [List.length_nil, List.length_cons, List.length_append, List.length_take, List.length_drop, List.length_set]); omega) (by (try simp only [List.length_nil, List.length_cons, List.length_append, List.length_take, List.length_drop, List.length_set]); omega) (fun a90 => ?_)
            (refine JT.A3 rfl rfl rfl (by decide) (by (try simp only [List.length_nil, List.length_cons, List.length_append, List.length_take, List.length_drop, List.length_set]); omega) (fun a91 c91 hc91 => ?_))
            refine JT.c rfl ?_
            refine JT.done ?_
            refine blockQ_n ?_
            refine seqQ_n ?_
            refine ⟨⟨_, ⟨_, ⟨_, _⟩⟩⟩, ?_, (subx_cons rfl (subx_cons rfl (subx_cons rfl (subx_cons rfl subx_nil)))), (Up.of (.take (.there (.there (.there .here))) (.take .here (.dropT (.dropT (.dropT (.dropT (Imp.refl _))))))))⟩
          exact ⟨I', by simpa using hr⟩
        · focus
            refine J.so ?_
            refine JT.y rfl (Ev.fa' 0 rfl rfl) ?_
            refine JT.y rfl (Ev.L rfl rfl) ?_
            refine JT.done ?_
            refine J.block ?_
            refine J.so ?_
            refine JT.y rfl (Ev.ceqF rfl rfl (by omega)) ?_
            refine JT.c rfl ?_
            refine JT.done ?_
            refine J.condF rfl ?_
            refine J.so ?_
            refine JT.y rfl (Ev.ceqT rfl rfl (by omega)) ?_
            refine JT.c rfl ?_
            refine JT.done ?_
            refine J.condT rfl ?_
            refine J.so ?_
            refine JT.c rfl ?_
            refine JT.y rfl (Ev.fa' 1 rfl rfl) ?_
            refine JT.y rfl (Ev.Lf rfl (Nat.le_of_ble_eq_true rfl)) ?_
            refine JT.callD rfl rfl (Up.of (.take (.there .here) (Imp.refl _))) (hA _) ?_
            iterate 4 refine JT.c rfl ?_
            refine JT.new (fun b11 => ?_)
            refine JT.w rfl rfl rfl rfl rfl ?_
            iterate 2 refine JT.c rfl ?_
            refine JT.done ?_
            refine J.seq ?_
            refine J.so ?_
            refine JT.c rfl ?_
            refine JT.y rfl (Ev.ceqF rfl rfl (by omega)) ?_
            refine JT.c rfl ?_
            refine JT.y rfl (Ev.ceqF rfl rfl (by omega)) ?_
            refine JT.c rfl ?_
            refine JT.done ?_
            refine J.condF rfl ?_
            refine J.skip ?_
            refine seqQ_n ?_
            refine J.so ?_
            refine JT.c rfl ?_
            refine JT.y rfl (Ev.ceqF rfl rfl (by omega)) ?_
            refine JT.done ?_
            refine J.condF rfl ?_
            refine J.skip ?_
            refine blockQ_n ?_
            refine seqQ_n ?_
            refine ⟨⟨_, ⟨_, ⟨_, _⟩⟩⟩, ?_, (subx_cons rfl (subx_cons rfl (subx_cons rfl (subx_cons rfl subx_nil)))), (Up.of (.take (.there .here) (.take (.there (.there .here)) (.dropT (.dropT (Imp.refl _))))))⟩
            exact ⟨by omega, by assumption⟩
      by_cases k3 : (nth xs k).kind = 3
      · obtain ⟨s', pb, pe, e, I', hc⟩ := LS.turn_leave I (nth xs k).o
        rw [hrow] at hc
        have hA : ∀ F, Meets Try.prog 19 [ptr x18, ov (nth xs k).o] (LockP x18 s :: F) (Det (.tuple #[.bool pb, i64 pe]) (LockP x18 s' :: F)) := fun F => by have := lkLeave_fn x18 s (nth xs k).o F (Nat.le_trans I.le (by decide)); rw [e] at this; exact this
        clear e I hrow
        rcases hc with ⟨rfl, hz0, hz1, hr⟩ | ⟨rfl, hz0, hr⟩
        · focus
            refine J.so ?_
            refine JT.y rfl (Ev.fa' 0 rfl rfl) ?_
            refine JT.y rfl (Ev.L rfl rfl) ?_
            refine JT.done ?_
            refine J.block ?_
            refine J.so ?_
            refine JT.y rfl (Ev.ceqF rfl rfl (by omega)) ?_
            refine JT.c rfl ?_
            refine JT.done ?_
            refine J.condF rfl ?_
            refine J.so ?_
            refine JT.y rfl (Ev.ceqF rfl rfl (by omega)) ?_
            refine JT.c rfl ?_
            refine JT.done ?_
            refine J.condF rfl ?_
            refine J.so ?_
            refine JT.y rfl (Ev.ceqT rfl rfl (by omega)) ?_
            refine JT.c rfl ?_
            refine JT.done ?_
            refine J.condT rfl ?_
            refine J.so ?_
            refine JT.c rfl ?_
            refine JT.y rfl (Ev.fa' 1 rfl rfl) ?_
            refine JT.y rfl (Ev.Lf rfl (Nat.le_of_ble_eq_true rfl)) ?_
            refine JT.callD rfl rfl (Up.of (.take (.there .here) (Imp.refl _))) (hA _) ?_
            iterate 5 refine JT.c rfl ?_
            refine JT.done ?_
            refine J.seq ?_
            refine J.so ?_
            iterate 2 refine JT.c rfl ?_
            refine JT.y rfl (Ev.cgtT rfl rfl (by omega)) ?_
            refine JT.c rfl ?_
            refine JT.done ?_
            refine J.condF rfl ?_
            refine J.skip ?_
            refine seqQ_n ?_
            refine J.so ?_
            refine JT.c rfl ?_
            refine JT.y rfl (Ev.cgtT rfl rfl (by omega)) ?_
            refine JT.done ?_
            refine J.condT rfl ?_
            refine J.ops ?_
            iterate 2 refine JT.c rfl ?_
            refine JT.V rfl (by first | exact Bd.no | exact Bd.c rfl | exact Bd.si rfl (by omega)) (by first | exact Bd.no | exact Bd.c rfl | exact Bd.si rfl (by omega)) (by first | exact Bd.no | exact Bd.c rfl | exact Bd.si rfl (by omega)) (by decide) (by (try simp only [List.length_nil, List.length_cons, List.length_append, List.length_take, List.length_drop, List.length_set]); omega) (by (try simp only [List.length_nil, List.length_cons, List.length_append, List.length_take, List.length_drop, List.length_set]); omega) (by (try simp only [List.length_nil, List.length_cons, List.length_append, List.length_take, List.length_drop, List.length_set]); omega) (by (try simp only [List.length_nil, List.length_cons, List.length_append, List.length_take, List.length_drop, List.length_set]); omega) (fun a110 => ?_)
            iterate 2 refine JT.c rfl ?_
            refine JT.y rfl (Ev.add rfl rfl (Wr.i64 (by omega) (by omega))) ?_
            refine JT.V rfl (by first | exact Bd.no | exact Bd.c rfl | exact Bd.si rfl (by omega)) (by first | exact Bd.no | exact Bd.c rfl | exact Bd.si rfl (by omega)) (by first | exact Bd.no | exact Bd.c rfl | exact Bd.si rfl (by omega)) (by decide) (by (try simp only [List.length_nil, List.length_cons, List.length_append, List.length_take, List.length_drop, List.length_set]); omega) (by (try simp only [List.length_nil, List.length_cons, List.length_append, List.length_take, List.length_drop, List.length_set]); omega) (by (try simp only [List.length_nil, List.length_cons, List.length_append, List.length_take, List.length_drop, List.length_set]); omega) (by (try simp only [List.length_nil, List.length_cons, List.length_append, List.length_take, List.length_drop, List.length_set]); omega) (fun a115 => ?_)
            refine JT.b0 (fun a107 => ?_)
            (refine JT.A3 rfl rfl rfl (by decide) (by (try simp only [List.length_nil, List.length_cons, List.length_append, List.length_take, List.length_drop, List.length_set]); omega) (fun a111 c111 hc111 => ?_))
            (refine JT.A3 rfl rfl rfl (by decide) (by (try simp only [List.length_nil, List.length_cons, List.length_append, List.length_take, List.length_drop, List.length_set]); omega) (fun a116 c116 hc116 => ?_))
            refine JT.c rfl ?_
            refine JT.done ?_
            refine blockQ_n ?_
            refine seqQ_n ?_
            refine ⟨⟨_, ⟨_, ⟨_, _⟩⟩⟩, ?_, (subx_cons rfl (subx_cons rfl (subx_cons rfl (subx_cons rfl subx_nil)))), (Up.of (.take (.there (.there (.there .here))) (.take .here (.dropT (.dropT (.dropT (.dropT (Imp.refl _))))))))⟩
          exact ⟨I', by simpa using hr⟩
        · focus
            refine J.so ?_
            refine JT.y rfl (Ev.fa' 0 rfl rfl) ?_
            refine JT.y rfl (Ev.L rfl rfl) ?_
            refine JT.done ?_
            refine J.block ?_
            refine J.so ?_
            refine JT.y rfl (Ev.ceqF rfl rfl (by omega)) ?_
            refine JT.c rfl ?_
            refine JT.done ?_
            refine J.condF rfl ?_
            refine J.so ?_
            refine JT.y rfl (Ev.ceqF rfl rfl (by omega)) ?_
            refine JT.c rfl ?_
            refine JT.done ?_
            refine J.condF rfl ?_
            refine J.so ?_
            refine JT.y rfl (Ev.ceqT rfl rfl (by omega)) ?_
            refine JT.c rfl ?_
            refine JT.done ?_
            refine J.condT rfl ?_
            refine J.so ?_
            refine JT.c rfl ?_
            refine JT.y rfl (Ev.fa' 1 rfl rfl) ?_
            refine JT.y rfl (Ev.Lf rfl (Nat.le_of_ble_eq_true rfl)) ?_
            refine JT.callD rfl rfl (Up.of (.take (.there .here) (Imp.refl _))) (hA _) ?_
            iterate 5 refine JT.c rfl ?_
            refine JT.done ?_
            refine J.seq ?_
            refine J.so ?_
            iterate 2 refine JT.c rfl ?_
            refine JT.y rfl (Ev.cgtF rfl rfl (by omega)) ?_
            refine JT.c rfl ?_
            refine JT.done ?_
            refine J.condF rfl ?_
            refine J.skip ?_
            refine seqQ_n ?_
            refine J.so ?_
            refine JT.c rfl ?_
            refine JT.y rfl (Ev.cgtF rfl rfl (by omega)) ?_
            refine JT.done ?_
            refine J.condF rfl ?_
            refine J.skip ?_
            refine blockQ_n ?_
            refine seqQ_n ?_
            refine ⟨⟨_, ⟨_, ⟨_, _⟩⟩⟩, ?_, (subx_cons rfl (subx_cons rfl (subx_cons rfl (subx_cons rfl subx_nil)))), (Up.of (.take .here (.take (.there .here) (.dropT (Imp.refl _)))))⟩
            exact ⟨by omega, by assumption⟩
      · focus
          refine J.so ?_
          refine JT.y rfl (Ev.fa' 0 rfl rfl) ?_
          refine JT.y rfl (Ev.L rfl rfl) ?_
          refine JT.done ?_
          refine J.block ?_
          refine J.so ?_
          refine JT.y rfl (Ev.ceqF rfl rfl (by omega)) ?_
          refine JT.c rfl ?_
          refine JT.done ?_
          refine J.condF rfl ?_
          refine J.so ?_
          refine JT.y rfl (Ev.ceqF rfl rfl (by omega)) ?_
          refine JT.c rfl ?_
          refine JT.done ?_
          refine J.condF rfl ?_
          refine J.so ?_
          refine JT.y rfl (Ev.ceqF rfl rfl (by omega)) ?_
          refine JT.c rfl ?_
          refine JT.done ?_
          refine J.condF rfl ?_
          refine J.exit ?_
          refine blockQ_miss rfl ?_
          refine seqQ_x ?_
          refine blockQ_hit ?_
          refine seqQ_n ?_
          refine J.ops ?_
          refine JT.c rfl ?_
          refine JT.y rfl (Ev.addN rfl rfl (by omega)) ?_
          refine JT.c rfl ?_
          refine JT.done ?_
          refine seqQ_n ?_
          refine ⟨⟨_, ⟨_, ⟨_, ⟨_, _⟩⟩⟩⟩, ?_, (by omega), (subx_cons rfl (subx_cons rfl (subx_cons rfl (subx_cons rfl (subx_dup rfl (subx_dup rfl subx_nil)))))), (Up.of (.take (.there .here) (.take (.there .here) (.dropT (Imp.refl _)))))⟩
        exact ⟨by simp only; omega, I, hrow⟩
    · obtain ⟨s', R, a', c'⟩ := i
      obtain ⟨I', hr⟩ := I'
      simp only at I' hr ⊢
      refine J.slF (Has.there Has.here) (fun hc3 hl3 _ => ?_)
      cases hh : s'.held with
      | true =>
        have e : R = s'.holder :: s'.w := by rw [← hr, LS.row, if_pos hh]
        have hl : R.length = s'.w.length + 1 := by rw [e]; rfl
        have hn : s'.holder = nth R 0 := by rw [e]; rfl
        have hn' : ¬ s'.holder ≠ nth R 0 := fun h => h hn
        have hdr : s'.w = (R.take R.length).drop (1 : Int).toNat := by rw [List.take_length, e]; rfl
        have hdr' : s'.w = (R.take R.length).drop 1 := hdr
        have hw1 := I'.le
        have hH : ∀ F, Meets Try.prog 20 [ptr x18] (LockP x18 s' :: F) (Det (.tuple #[ov s'.holder, .bool true]) (LockP x18 s' :: F)) := fun F => by have := lkHolder_fn x18 s' F; rw [hh] at this; exact this
        focus
          refine J.so ?_
          refine JT.c rfl ?_
          refine JT.callD rfl rfl (Up.of (.take .here (Imp.refl _))) (hH _) ?_
          iterate 3 refine JT.c rfl ?_
          refine JT.new (fun b16 => ?_)
          refine JT.w rfl rfl rfl rfl rfl ?_
          refine JT.c rfl ?_
          refine JT.done ?_
          refine J.so ?_
          iterate 3 refine JT.c rfl ?_
          refine JT.y rfl (Ev.cgtT rfl rfl (by omega)) ?_
          iterate 2 refine JT.c rfl ?_
          refine JT.gk rfl ?_
          refine JT.c rfl ?_
          refine JT.gk rfl ?_
          refine JT.c rfl ?_
          refine JT.gk rfl ?_
          refine JT.y rfl (Ev.Lw rfl rfl) ?_
          refine JT.gk rfl ?_
          refine JT.c rfl ?_
          refine JT.gk rfl ?_
          refine JT.y rfl (Ev.iC rfl rfl (by omega)) ?_
          refine JT.gk rfl ?_
          refine JT.y rfl (Ev.LE rfl (by omega)) ?_
          refine JT.gk rfl ?_
          refine JT.y rfl (Ev.neTf rfl rfl (by assumption)) ?_
          refine JT.gk rfl ?_
          refine JT.c rfl ?_
          refine JT.gk rfl ?_
          refine JT.c rfl ?_
          refine JT.gk rfl ?_
          refine JT.c rfl ?_
          refine JT.gk rfl ?_
          refine JT.V rfl (by first | exact Bd.no | exact Bd.c rfl | exact Bd.si rfl (by omega)) (by first | exact Bd.no | exact Bd.c rfl | exact Bd.si rfl (by omega)) (by first | exact Bd.no | exact Bd.c rfl | exact Bd.si rfl (by omega)) (by decide) (by (try simp only [List.length_nil, List.length_cons, List.length_append, List.length_take, List.length_drop, List.length_set]); omega) (by (try simp only [List.length_nil, List.length_cons, List.length_append, List.length_take, List.length_drop, List.length_set]); omega) (by (try simp only [List.length_nil, List.length_cons, List.length_append, List.length_take, List.length_drop, List.length_set]); omega) (by (try simp only [List.length_nil, List.length_cons, List.length_append, List.length_take, List.length_drop, List.length_set]); omega) (fun a139 => ?_)
          refine JT.gk rfl ?_
          refine JT.callS rfl rfl (Up.of (.take (.there (.there .here)) (Imp.refl _))) (lkWaits_fn _ _ _ (by first | assumption | omega | decide)) (fun ⟨a137, c137⟩ _ => ?_)
          refine JT.gk rfl ?_
          refine JT.callD rfl rfl (Up.of (Imp.refl _)) r7Same_fn ?_
          refine JT.gk rfl ?_
          refine JT.c rfl ?_
          refine JT.gk rfl ?_
          refine JT.y rfl (Ev.pickF rfl rfl) ?_
          refine JT.gk rfl ?_
          refine JT.y rfl (Ev.pickT rfl rfl) ?_
          refine JT.y rfl (Ev.pickF rfl rfl) ?_
          refine JT.c rfl ?_
          refine JT.yh rfl rfl (fun h2 => Ev.calc rfl) ?_
          iterate 2 refine JT.yh rfl rfl (fun h2 => by simp only [h2, gd_true, gd_false, Bool.not_false, Bool.not_true, Bool.true_and, Bool.and_true]; exact Ev.calc rfl) ?_
          refine JT.yg2 rfl rfl (fun h2 h2' => Ev.calc rfl) ?_
          refine JT.gs2 rfl (fun h2 h2' => ?_) (fun h2 h2' => ?_) (fun h2 => ?_)
          contradiction
          refine JT.gs2 rfl (fun h3 h3' => ?_) (fun h3 h3' => ?_) (fun h3 => ?_)
          contradiction
          refine JT.gs2 rfl (fun h4 h4' => ?_) (fun h4 h4' => ?_) (fun h4 => ?_)
          contradiction
          refine JT.yh rfl rfl (fun h5 => by simp only [h5, gd_true, gd_false, Bool.not_false, Bool.not_true, Bool.true_and, Bool.and_true]; exact Ev.pickF rfl rfl) ?_
          refine JT.y rfl (Ev.pickO rfl rfl rfl) ?_
          refine JT.done ?_
          refine J.c rfl (fun h5 => ?_) (fun h5 => ?_)
          contradiction
          refine J.skip ?_
          refine blockQ_n ?_
          refine seqQ_n ?_
          refine J.ops ?_
          refine JT.c rfl ?_
          refine JT.y rfl (Ev.addN rfl rfl (by omega)) ?_
          refine JT.c rfl ?_
          refine JT.done ?_
          refine seqQ_n ?_
          refine ⟨⟨_, ⟨_, ⟨_, ⟨_, _⟩⟩⟩⟩, ?_, (by omega), (subx_cons rfl (subx_cons rfl (subx_cons rfl (subx_cons rfl (subx_dup rfl (subx_dup rfl subx_nil)))))), (Up.of (.take (.there .here) (.take (.there (.there (.there .here))) (.dropT (.dropT (.dropT (Imp.refl _)))))))⟩
          rotate_left
          refine JT.yh rfl rfl (fun h5 => by simp only [h5, gd_true, gd_false, Bool.not_false, Bool.not_true, Bool.true_and, Bool.and_true]; exact Ev.pickF rfl rfl) ?_
          refine JT.y rfl (Ev.pickO rfl rfl rfl) ?_
          refine JT.done ?_
          refine J.c rfl (fun h5 => ?_) (fun h5 => ?_)
          contradiction
          refine J.skip ?_
          refine blockQ_n ?_
          refine seqQ_n ?_
          refine J.ops ?_
          refine JT.c rfl ?_
          refine JT.y rfl (Ev.addN rfl rfl (by omega)) ?_
          refine JT.c rfl ?_
          refine JT.done ?_
          refine seqQ_n ?_
          refine ⟨⟨_, ⟨_, ⟨_, ⟨_, _⟩⟩⟩⟩, ?_, (by omega), (subx_cons rfl (subx_cons rfl (subx_cons rfl (subx_cons rfl (subx_dup rfl (subx_dup rfl subx_nil)))))), (Up.of (.take (.there .here) (.take (.there (.there (.there .here))) (.dropT (.dropT (.dropT (Imp.refl _)))))))⟩
          rotate_left
          refine JT.gs2 rfl (fun h4 h4' => ?_) (fun h4 h4' => ?_) (fun h4 => ?_)
          contradiction
          refine JT.yh rfl rfl (fun h5 => by simp only [h5, gd_true, gd_false, Bool.not_false, Bool.not_true, Bool.true_and, Bool.and_true]; exact Ev.pickF rfl rfl) ?_
          refine JT.y rfl (Ev.pickO rfl rfl rfl) ?_
          refine JT.done ?_
          refine J.c rfl (fun h5 => ?_) (fun h5 => ?_)
          contradiction
          refine J.skip ?_
          refine blockQ_n ?_
          refine seqQ_n ?_
          refine J.ops ?_
          refine JT.c rfl ?_
          refine JT.y rfl (Ev.addN rfl rfl (by omega)) ?_
          refine JT.c rfl ?_
          refine JT.done ?_
          refine seqQ_n ?_
          refine ⟨⟨_, ⟨_, ⟨_, ⟨_, _⟩⟩⟩⟩, ?_, (by omega), (subx_cons rfl (subx_cons rfl (subx_cons rfl (subx_cons rfl (subx_dup rfl (subx_dup rfl subx_nil)))))), (Up.of (.take (.there .here) (.take (.there (.there (.there .here))) (.dropT (.dropT (.dropT (Imp.refl _)))))))⟩
          rotate_left
          refine JT.yh rfl rfl (fun h5 => by simp only [h5, gd_true, gd_false, Bool.not_false, Bool.not_true, Bool.true_and, Bool.and_true]; exact Ev.pickF rfl rfl) ?_
          refine JT.y rfl (Ev.pickO rfl rfl rfl) ?_
          refine JT.done ?_
          refine J.c rfl (fun h5 => ?_) (fun h5 => ?_)
          contradiction
          refine J.skip ?_
          refine blockQ_n ?_
          refine seqQ_n ?_
          refine J.ops ?_
          refine JT.c rfl ?_
          refine JT.y rfl (Ev.addN rfl rfl (by omega)) ?_
          refine JT.c rfl ?_
          refine JT.done ?_
          refine seqQ_n ?_
          refine ⟨⟨_, ⟨_, ⟨_, ⟨_, _⟩⟩⟩⟩, ?_, (by omega), (subx_cons rfl (subx_cons rfl (subx_cons rfl (subx_cons rfl (subx_dup rfl (subx_dup rfl subx_nil)))))), (Up.of (.take (.there .here) (.take (.there (.there (.there .here))) (.dropT (.dropT (.dropT (Imp.refl _)))))))⟩
          rotate_left
          refine JT.gs2 rfl (fun h3 h3' => ?_) (fun h3 h3' => ?_) (fun h3 => ?_)
          contradiction
          refine JT.gs2 rfl (fun h4 h4' => ?_) (fun h4 h4' => ?_) (fun h4 => ?_)
          contradiction
          refine JT.yh rfl rfl (fun h5 => by simp only [h5, gd_true, gd_false, Bool.not_false, Bool.not_true, Bool.true_and, Bool.and_true]; exact Ev.pickF rfl rfl) ?_
          refine JT.y rfl (Ev.pickO rfl rfl rfl) ?_
          refine JT.done ?_
          refine J.c rfl (fun h5 => ?_) (fun h5 => ?_)
          contradiction
          refine J.skip ?_
          refine blockQ_n ?_
          refine seqQ_n ?_
          refine J.ops ?_
          refine JT.c rfl ?_
          refine JT.y rfl (Ev.addN rfl rfl (by omega)) ?_
          refine JT.c rfl ?_
          refine JT.done ?_
          refine seqQ_n ?_
          refine ⟨⟨_, ⟨_, ⟨_, ⟨_, _⟩⟩⟩⟩, ?_, (by omega), (subx_cons rfl (subx_cons rfl (subx_cons rfl (subx_cons rfl (subx_dup rfl (subx_dup rfl subx_nil)))))), (Up.of (.take (.there .here) (.take (.there (.there (.there .here))) (.dropT (.dropT (.dropT (Imp.refl _)))))))⟩
          rotate_left
          refine JT.yh rfl rfl (fun h5 => by simp only [h5, gd_true, gd_false, Bool.not_false, Bool.not_true, Bool.true_and, Bool.and_true]; exact Ev.pickF rfl rfl) ?_
          refine JT.y rfl (Ev.pickO rfl rfl rfl) ?_
          refine JT.done ?_
          refine J.c rfl (fun h5 => ?_) (fun h5 => ?_)
          contradiction
          refine J.skip ?_
          refine blockQ_n ?_
          refine seqQ_n ?_
          refine J.ops ?_
          refine JT.c rfl ?_
          refine JT.y rfl (Ev.addN rfl rfl (by omega)) ?_
          refine JT.c rfl ?_
          refine JT.done ?_
          refine seqQ_n ?_
          refine ⟨⟨_, ⟨_, ⟨_, ⟨_, _⟩⟩⟩⟩, ?_, (by omega), (subx_cons rfl (subx_cons rfl (subx_cons rfl (subx_cons rfl (subx_dup rfl (subx_dup rfl subx_nil)))))), (Up.of (.take (.there .here) (.take (.there (.there (.there .here))) (.dropT (.dropT (.dropT (Imp.refl _)))))))⟩
          rotate_left
          refine JT.gs2 rfl (fun h4 h4' => ?_) (fun h4 h4' => ?_) (fun h4 => ?_)
          contradiction
          refine JT.yh rfl rfl (fun h5 => by simp only [h5, gd_true, gd_false, Bool.not_false, Bool.not_true, Bool.true_and, Bool.and_true]; exact Ev.pickF rfl rfl) ?_
          refine JT.y rfl (Ev.pickO rfl rfl rfl) ?_
          refine JT.done ?_
          refine J.c rfl (fun h5 => ?_) (fun h5 => ?_)
          contradiction
          refine J.skip ?_
          refine blockQ_n ?_
          refine seqQ_n ?_
          refine J.ops ?_
          refine JT.c rfl ?_
          refine JT.y rfl (Ev.addN rfl rfl (by omega)) ?_
          refine JT.c rfl ?_
          refine JT.done ?_
          refine seqQ_n ?_
          refine ⟨⟨_, ⟨_, ⟨_, ⟨_, _⟩⟩⟩⟩, ?_, (by omega), (subx_cons rfl (subx_cons rfl (subx_cons rfl (subx_cons rfl (subx_dup rfl (subx_dup rfl subx_nil)))))), (Up.of (.take (.there .here) (.take (.there (.there (.there .here))) (.dropT (.dropT (.dropT (Imp.refl _)))))))⟩
          rotate_left
          refine JT.yh rfl rfl (fun h5 => by simp only [h5, gd_true, gd_false, Bool.not_false, Bool.not_true, Bool.true_and, Bool.and_true]; exact Ev.pickF rfl rfl) ?_
          refine JT.y rfl (Ev.pickO rfl rfl rfl) ?_
          refine JT.done ?_
          refine J.c rfl (fun h5 => ?_) (fun h5 => ?_)
          contradiction
          refine J.skip ?_
          refine blockQ_n ?_
          refine seqQ_n ?_
          refine J.ops ?_
          refine JT.c rfl ?_
          refine JT.y rfl (Ev.addN rfl rfl (by omega)) ?_
          refine JT.c rfl ?_
          refine JT.done ?_
          refine seqQ_n ?_
          refine ⟨⟨_, ⟨_, ⟨_, ⟨_, _⟩⟩⟩⟩, ?_, (by omega), (subx_cons rfl (subx_cons rfl (subx_cons rfl (subx_cons rfl (subx_dup rfl (subx_dup rfl subx_nil)))))), (Up.of (.take (.there .here) (.take (.there (.there (.there .here))) (.dropT (.dropT (.dropT (Imp.refl _)))))))⟩
          rotate_left
        all_goals exact ⟨by simp only; omega, I', hr⟩
      | false =>
        have e : R = [] := by rw [← hr, LS.row, if_neg (by simp [hh])]
        have hl : R.length = 0 := by rw [e]; rfl
        have hw1 := I'.le
        have hw0 : s'.w.length = 0 := by rw [I'.fr hh]; rfl
        have hH : ∀ F, Meets Try.prog 20 [ptr x18] (LockP x18 s' :: F) (Det (.tuple #[ov s'.holder, .bool false]) (LockP x18 s' :: F)) := fun F => by have := lkHolder_fn x18 s' F; rw [hh] at this; exact this
        focus
          refine J.so ?_
          refine JT.c rfl ?_
          refine JT.callD rfl rfl (Up.of (.take .here (Imp.refl _))) (hH _) ?_
          iterate 3 refine JT.c rfl ?_
          refine JT.new (fun b16 => ?_)
          refine JT.w rfl rfl rfl rfl rfl ?_
          refine JT.c rfl ?_
          refine JT.done ?_
          refine J.so ?_
          iterate 3 refine JT.c rfl ?_
          refine JT.y rfl (Ev.cgtF rfl rfl (by omega)) ?_
          iterate 2 refine JT.c rfl ?_
          refine JT.gk rfl ?_
          refine JT.c rfl ?_
          refine JT.gk rfl ?_
          refine JT.c rfl ?_
          iterate 6 refine JT.skip rfl rfl ?_
          iterate 6 refine JT.skipU rfl ?_
          refine JT.skip rfl rfl ?_
          refine JT.gk rfl ?_
          iterate 2 refine JT.y rfl (Ev.pickF rfl rfl) ?_
          refine JT.c rfl ?_
          refine JT.gk rfl ?_
          refine JT.c rfl ?_
          refine JT.gk rfl ?_
          refine JT.c rfl ?_
          refine JT.gk rfl ?_
          refine JT.c rfl ?_
          refine JT.gk rfl ?_
          refine JT.c rfl ?_
          refine JT.gk rfl ?_
          refine JT.callS rfl rfl (Up.of (.take (.there .here) (Imp.refl _))) (lkWaits_fn _ _ _ (by first | assumption | omega | decide)) (fun ⟨a150, c150⟩ _ => ?_)
          refine JT.gk rfl ?_
          refine JT.c rfl ?_
          refine JT.gk rfl ?_
          refine JT.y rfl (Ev.cgtF rfl rfl (by omega)) ?_
          refine JT.gk rfl ?_
          refine JT.y rfl (Ev.pickT rfl rfl) ?_
          refine JT.y rfl (Ev.pickF rfl rfl) ?_
          refine JT.done ?_
          refine J.condF rfl ?_
          refine J.skip ?_
          refine blockQ_n ?_
          refine seqQ_n ?_
          refine J.ops ?_
          refine JT.c rfl ?_
          refine JT.y rfl (Ev.addN rfl rfl (by omega)) ?_
          refine JT.c rfl ?_
          refine JT.done ?_
          refine seqQ_n ?_
          refine ⟨⟨_, ⟨_, ⟨_, ⟨_, _⟩⟩⟩⟩, ?_, (by omega), (subx_cons rfl (subx_cons rfl (subx_cons rfl (subx_cons rfl (subx_dup rfl (subx_dup rfl subx_nil)))))), (Up.of (.take (.there .here) (.take (.there (.there .here)) (.dropT (.dropT (Imp.refl _))))))⟩
        exact ⟨by simp only; omega, I', hr⟩
end Go.Proofs.Ytojegknfbgflnaa
