/- The law LinkRuns: what its functions do. Conditions: none. -/
import Derived.Test.YtnipmjpdklbbcaaGreatMv
set_option linter.unusedSimpArgs false
set_option linter.unusedVariables false
set_option maxRecDepth 100000
set_option maxHeartbeats 4000000
namespace Go.Proofs.YtnipmjpdklbbcaaGreat
open Go Go.SL
attribute [local irreducible] pc rc SlT Me Mt It pt ro pur ex sep old Meets
attribute [local irreducible] LockP RecP RecsA LinksP LinksH WaitsA RlockP RfP

theorem r8New_ok (me : Ref) (F : List Assn) (h1 : keyOk me.key) (h2 : vecOk me.vec) : Meets Tryz.prog 25 [rv me] F (Some' (fun _ : Nat => True) (fun b => .tuple #[ptr b, i64 0]) (fun b => RfP b ⟨me, []⟩ :: F)) := by
  refine Meets.intro b25 k25 (by simp) ?_
  have R : RRel ⟨me, []⟩ (([] : List RecE).map (fun y : RecE => y.s)) := RRel.new me
  refine J.imp WaitsA.nil ?_
  refine J.nilS recEC 16 false (by decide) ?_
  focus
   refine zs <| yB rfl fun b1 => zc rfl <| zc rfl <| zfw [_, _] rfl rfl rfl rfl <| yD rfl rfl (.of .rf) (r2Check_fn _ _) <| zj rfl rfl rfl <| yF rfl (by assumption) <| zf 3 rfl rfl <| yF rfl (by assumption) <| zy (.Lf rfl (Nat.le_of_ble_eq_true rfl)) <| yF rfl (by assumption) ?_
   refine yD rfl rfl (.of .rf) (r1Right_fn _ _) <| yF rfl (by assumption) <| zc rfl <| zy (.pickFp rfl (by assumption) rfl) <| zd <| zq <| zi rfl (fun h3 => ?_) (fun h3 => ?_)
   contradiction
   refine zk <| zs <| zw rfl rfl <| zg rfl <| yB rfl fun b2 => zc rfl <| zd <| zr ?_
  exact retQS b2 (.t rfl (.t rfl .nil)) trivial rfl (Up.of (RfP.fold (l := ⟨me, []⟩) (T := 143) (a := none) (c := 0) (xs := []) .here (.there .here) (.there .here) R (.d .rf)))
theorem r8New_no (me : Ref) (F : List Assn) (h : ¬ (keyOk me.key ∧ vecOk me.vec)) : Meets Tryz.prog 25 [rv me] F (Det (.tuple #[.pointer none, i64 80]) F) := by
  refine Meets.intro b25 k25 (by simp) ?_
  by_cases h1 : keyOk me.key
  · have h2 : ¬ vecOk me.vec := fun h2 => h ⟨h1, h2⟩
    focus
     refine zs <| yB rfl fun b1 => zc rfl <| zc rfl <| zfw [_, _] rfl rfl rfl rfl <| yD rfl rfl (.of .rf) (r2Check_fn _ _) <| zj rfl rfl rfl <| yF rfl (by assumption) <| zf 3 rfl rfl <| yF rfl (by assumption) <| zy (.Lf rfl (Nat.le_of_ble_eq_true rfl)) <| yF rfl (by assumption) ?_
     refine yD rfl rfl (.of .rf) (r1Right_fn _ _) <| yF rfl (by assumption) <| zc rfl <| zy (.pickFp rfl (by assumption) rfl) <| zd <| zq <| zi rfl (fun h3 => ?_) (fun h3 => ?_)
     refine zs <| zc rfl <| zc rfl <| zd <| zr <| yR (.t rfl (.t rfl .nil)) rfl (.of (.d .rf))
     contradiction
  · focus
     refine zs <| yB rfl fun b1 => zc rfl <| zc rfl <| zfw [_, _] rfl rfl rfl rfl <| yD rfl rfl (.of .rf) (r2Check_fn _ _) <| zj rfl rfl rfl <| yFs rfl (by assumption) <| yFs rfl (by assumption) <| yFs rfl (by assumption) <| yFs rfl (by assumption) <| zy (.pickTp rfl (by assumption) rfl) ?_
     refine zd <| zq <| zt rfl <| zs <| zc rfl <| zc rfl <| zd <| zr <| yR (.t rfl (.t rfl .nil)) rfl (.of (.d .rf))
theorem r8All_fn (b : Nat) (l : LK) (F : List Assn) (h : RGood l) : Meets Tryz.prog 35 [ptr b] (RfP b l :: F)
    (Some' (fun x : Option Addr × Nat × List RecE => ∃ m, RRel l m ∧ x.2.2.map (·.s) = rall l m) (fun x => .slice x.1 x.2.2.length x.2.1)
      (fun x => SlT true recEC 16 (.slice x.1 x.2.2.length x.2.1) x.2.1 x.2.2 :: WaitsA x.2.2 :: RfP b l :: F)) := by
  refine Meets.intro b35 k35 (by simp) ?_
  refine J.openRf Has.here (fun T a c xs R hC hL => ?_)
  have hk := h.key
  have hn := h.len
  have hlen : (xs.map (·.s)).length = xs.length := by simp
  have hl2 := R.len
  focus
   refine zs <| zc rfl <| zc rfl <| zc rfl <| zd <| zq <| zb ?_
  refine J.lp (ι := Nat × List RecE × Option Addr × Nat) (fun i => i.1 ≤ xs.length ∧ i.2.1 = (xs.take i.1).filter (fun y => rsel l y.s)) (fun i => [(3, .slice i.2.2.1 i.2.1.length i.2.2.2), (4, i64 (i.1 : Int))])
    (fun i => SlT true recEC 16 (.slice i.2.2.1 i.2.1.length i.2.2.2) i.2.2.2 i.2.1 :: pc b T (rfC l.me xs.length a c) :: SlT false recEC 16 (.slice a xs.length c) c xs :: WaitsA xs :: F) (fun i => xs.length - i.1) (0, [], none, 0) ⟨by simp, by simp⟩ (by exact subxR rfl)
    (Up.nilS (enc := recEC) (sz := 16) true (by decide) (.of (.t0 (.t0 (.t0 (.t0 .rf)))))) (fun i hi => ?_)
  obtain ⟨k, ys, a3, c3⟩ := i
  obtain ⟨hk1, hk2⟩ := hi
  simp only at hk1 hk2 ⊢
  have hyl : ys.length ≤ xs.length := by
    have e1 := List.length_filter_le (fun y : RecE => rsel l y.s) (xs.take k)
    rw [← hk2, List.length_take] at e1
    omega
  by_cases hlt : k < xs.length
  · have hsnoc : (xs.take (k + 1)).filter (fun y => rsel l y.s) = ys ++ (if rsel l (nth xs k).s then [nth xs k] else []) := by
      rw [List.take_add_one, List.getElem?_eq_getElem hlt, ← nth_eq hlt, List.filter_append, ← hk2]
      simp only [Option.toList_some, List.filter_cons, List.filter_nil]
    refine J.imp (Imp.take (c := WaitsA xs) (by (repeat (first | exact Has.here | assumption | apply Has.there))) (Imp.refl _)) ?_
    refine J.imp (WaitsA.get hlt) ?_
    have hw0 : (l.first.state (nth xs k).s.w).waits = [] := by unfold LK.first; split <;> rfl
    refine J.nilS ownerC 2 false (by decide) ?_
    refine J.imp (cs' := SlT false ownerC 2 (.slice none (l.first.state (nth xs k).s.w).waits.length 0) 0 (l.first.state (nth xs k).s.w).waits :: _) (by rw [hw0]; exact Imp.refl _) ?_
    by_cases hE : l.isEnd
    · by_cases hs : (nth xs k).s = l.first.state (nth xs k).s.w
      · have hr : rsel l (nth xs k).s = false := by unfold rsel; rw [← hs]; simp [hE]
        rw [hr] at hsnoc
        focus
         refine zs <| zfl rfl rfl rfl <| zc rfl <| zy (.cltT rfl rfl (by omega)) <| zd <| zq <| zt rfl <| zk <| zq <| zb <| zs <| yD rfl rfl (.of .rf) (r8end_fn (by first | assumption | omega | decide | exact rfl)) ?_
         refine zc rfl <| yF rfl (by assumption) <| zf 5 rfl rfl <| yF rfl (by assumption) <| zl rfl rfl <| yF rfl (by assumption) <| zy (.iC rfl rfl (by omega)) <| yF rfl (by assumption) <| zy (.LE rfl (by omega)) <| yF rfl (by assumption) <| zf 5 rfl rfl <| yF rfl (by assumption) ?_
         refine zl rfl rfl <| yF rfl (by assumption) <| zy (.iC rfl rfl (by omega)) <| yF rfl (by assumption) <| zy (.fe rfl) <| yF rfl (by assumption) <| zy (.LEf rfl (by omega) (by decide)) <| yF rfl (by assumption) <| yD rfl rfl (.of .rf) (r8first_fn _) <| JT.gaF rfl (by assumption) rfl (Ev.L rfl rfl) ?_
         refine JT.gaF rfl (by assumption) rfl (Ev.LE rfl (by omega)) ?_
         refine yF rfl (by assumption) <| yD rfl rfl (.of .rf) r8Same_fn <| yF rfl (by assumption) <| zc rfl <| zy (.pickFp rfl (by assumption) rfl) <| zd <| zi rfl (fun h1 => ?_) (fun h1 => ?_)
         contradiction
         refine zk <| zo <| zy (.addN rfl rfl (by omega)) <| zd <| ⟨⟨_, ⟨_, ⟨_, _⟩⟩⟩, ?_, (by omega), (subxR rfl), (.of (.t3 (.t3 (.t3 (.t2 (.d (.d .rf)))))))⟩
        exact ⟨by simp only; omega, by simp only; rw [hsnoc]; simp⟩
      · have hr : rsel l (nth xs k).s = true := by unfold rsel; simp [hs]
        rw [hr] at hsnoc
        focus
         refine zs <| zfl rfl rfl rfl <| zc rfl <| zy (.cltT rfl rfl (by omega)) <| zd <| zq <| zt rfl <| zk <| zq <| zb <| zs <| yD rfl rfl (.of .rf) (r8end_fn (by first | assumption | omega | decide | exact rfl)) ?_
         refine zc rfl <| yF rfl (by assumption) <| zf 5 rfl rfl <| yF rfl (by assumption) <| zl rfl rfl <| yF rfl (by assumption) <| zy (.iC rfl rfl (by omega)) <| yF rfl (by assumption) <| zy (.LE rfl (by omega)) <| yF rfl (by assumption) <| zf 5 rfl rfl <| yF rfl (by assumption) ?_
         refine zl rfl rfl <| yF rfl (by assumption) <| zy (.iC rfl rfl (by omega)) <| yF rfl (by assumption) <| zy (.fe rfl) <| yF rfl (by assumption) <| zy (.LEf rfl (by omega) (by decide)) <| yF rfl (by assumption) <| yD rfl rfl (.of .rf) (r8first_fn _) <| JT.gaF rfl (by assumption) rfl (Ev.L rfl rfl) ?_
         refine JT.gaF rfl (by assumption) rfl (Ev.LE rfl (by omega)) ?_
         refine yF rfl (by assumption) <| yD rfl rfl (.of .rf) r8Same_fn <| yF rfl (by assumption) <| zc rfl <| zy (.pickFp rfl (by assumption) rfl) <| zd <| zi rfl (fun h1 => ?_) (fun h1 => ?_)
         refine zo <| zfl rfl rfl rfl <| zy (.iC rfl rfl (by omega)) <| zy (.LE rfl (by omega)) <| JT.bsl1 (by repeat (first | exact Cells.nil | apply Cells.z | (apply Cells.cl; rfl; rfl; rfl))) (by simp only [List.length_cons, List.length_nil, Nat.reduceAdd]; rfl) (by decide) (by rfl) fun a46 => ?_
         (refine JT.A1 rfl rfl (by rfl) rfl (by decide) (by omega) (fun a3_1 c3_1 hc3 => ?_))
         refine zd <| zo <| zy (.addN rfl rfl (by omega)) <| zd <| ⟨⟨_, ⟨_, ⟨_, _⟩⟩⟩, ?_, (by omega), (subxR rfl), (.of (.t0 (.t4 (.t4 (.t3 (.d (.d (.d .rf))))))))⟩
         rotate_left
         contradiction
        exact ⟨by simp only; omega, by simp only; rw [hsnoc]; simp⟩
    · have hr : rsel l (nth xs k).s = true := by unfold rsel; simp [hE]
      rw [hr] at hsnoc
      focus
       refine zs <| zfl rfl rfl rfl <| zc rfl <| zy (.cltT rfl rfl (by omega)) <| zd <| zq <| zt rfl <| zk <| zq <| zb <| zs <| yD rfl rfl (.of .rf) (r8end_fn (by first | assumption | omega | decide | exact rfl)) ?_
       refine zc rfl <| yFs rfl (by assumption) <| yFs rfl (by assumption) <| yFs rfl (by assumption) <| yFs rfl (by assumption) <| yFs rfl (by assumption) <| yFs rfl (by assumption) <| yFs rfl (by assumption) <| yFs rfl (by assumption) <| yFs rfl (by assumption) <| yFs rfl (by assumption) <| JT.gaFs rfl (by assumption) rfl ?_
       refine JT.gaFs rfl (by assumption) rfl ?_
       refine yFs rfl (by assumption) <| yFs rfl (by assumption) <| zy (.pickTp rfl (by assumption) rfl) <| zd <| zt rfl <| zo <| zfl rfl rfl rfl <| zy (.iC rfl rfl (by omega)) <| zy (.LE rfl (by omega)) <| JT.bsl1 (by repeat (first | exact Cells.nil | apply Cells.z | (apply Cells.cl; rfl; rfl; rfl))) (by simp only [List.length_cons, List.length_nil, Nat.reduceAdd]; rfl) (by decide) (by rfl) fun a46 => ?_
       (refine JT.A1 rfl rfl (by rfl) rfl (by decide) (by omega) (fun a3_1 c3_1 hc3 => ?_))
       refine zd <| zo <| zy (.addN rfl rfl (by omega)) <| zd <| ⟨⟨_, ⟨_, ⟨_, _⟩⟩⟩, ?_, (by omega), (subxR rfl), (.of (.t0 (.t4 (.t4 (.t3 (.d (.d (.d .rf))))))))⟩
      exact ⟨by simp only; omega, by simp only; rw [hsnoc]; simp⟩
  · focus
     refine zs <| zfl rfl rfl rfl <| zc rfl <| zy (.cltF rfl rfl (by omega)) <| zd <| zq <| zu rfl <| zx <| zs <| zc rfl <| zd <| zr ?_
    have hy : ys = xs.filter (fun y => rsel l y.s) := by rw [hk2, show k = xs.length by omega, List.take_length]
    refine retQ_up (Up.of (Imp.trans (Imp.take (c := WaitsA xs) (by (repeat (first | exact Has.here | assumption | apply Has.there))) (Imp.refl _)) (WaitsA.of (ys := ys) (fun y h => by rw [hy] at h; exact (List.mem_filter.1 h).1)))) ?_
    refine retQS (a3, c3, ys) (.t rfl .nil) ⟨_, R, ?_⟩ rfl (.of (.t2 (.t0 (RfP.fold (.there .here) (.there .here) .here (by first | assumption | omega | rfl | decide) .rf))))
    unfold rall; rw [List.filter_map, hy]; rfl
theorem r8SameAll_fn {a1 a2 : Option Addr} {c1 c2 : Nat} {xs ys : List RecE} {F : List Assn} [H1 : HS F (.slice a1 xs.length c1) RecE recEC 16 c1 xs] [H2 : HS F (.slice a2 ys.length c2) RecE recEC 16 c2 ys] :
    Meets Tryz.prog 33 [.slice a1 xs.length c1, .slice a2 ys.length c2] (WaitsA xs :: WaitsA ys :: F) (Det (.bool (decide (xs.map (·.s) = ys.map (·.s)))) F) := by
  refine Meets.intro b33 k33 (by simp) ?_
  refine J.sl (inferInstance : HS (WaitsA xs :: WaitsA ys :: F) (.slice a1 xs.length c1) RecE recEC 16 c1 xs) (fun hC hL _ => ?_)
  have e1 : (xs.map (·.s)).length = xs.length := by simp
  have e2 : (ys.map (·.s)).length = ys.length := by simp
  focus
   refine zs <| zc rfl <| zc rfl <| zc rfl <| zj rfl rfl rfl <| zd <| zq <| zi rfl (fun h1 => ?_) (fun h1 => ?_)
   refine zs <| zc rfl <| zd <| zr <| yR (.t rfl .nil) ?_ (.of (.d (.d .rf)))
   rotate_left
   refine zk <| zs <| zc rfl <| zd <| zq <| zb ?_
   rotate_left
  · simp only [mkRet]; rw [decide_eq_false (ne_of_len (by omega))]
  refine J.lp (ι := Nat) (fun k => k ≤ xs.length ∧ ∀ j, j < k → nth (xs.map (·.s)) j = nth (ys.map (·.s)) j) (fun k => [(5, i64 k)]) (fun _ => WaitsA xs :: WaitsA ys :: F) (fun k => xs.length - k) 0 ⟨by omega, fun j hj => by omega⟩ (by exact subxR rfl) (Up.refl _) (fun k hk => ?_)
  obtain ⟨hk, hn⟩ := hk
  by_cases hlt : k < xs.length
  · have n1 := nth_map (f := fun x : RecE => x.s) hlt
    have n2 := nth_map (f := fun x : RecE => x.s) (show k < ys.length by omega)
    refine J.imp (WaitsA.get hlt) ?_
    refine J.imp (Imp.take (c := WaitsA ys) (by (repeat (first | exact Has.here | assumption | apply Has.there))) (Imp.refl _)) ?_
    refine J.imp (WaitsA.get (show k < ys.length by omega)) ?_
    by_cases hs : (nth xs k).s = (nth ys k).s
    · focus
       refine zs <| zc rfl <| zy (.cltT rfl rfl (by omega)) <| zd <| zq <| zt rfl <| zk <| zq <| zb <| zs <| zy (.iC rfl rfl (by omega)) <| zy (.LE rfl (by omega)) ?_
       refine zy (.iC rfl rfl (by omega)) <| zy (.LE rfl (by omega)) <| yD rfl rfl (.of .rf) r8Same_fn <| zc rfl <| zd <| zi rfl (fun h2 => ?_) (fun h2 => ?_)
       contradiction
       refine zk <| zo <| zy (.addN rfl rfl (by omega)) <| zd <| ⟨_, ?_, (by omega), (subxR rfl), (.of (.t3 (.t1 (.d (.d .rf)))))⟩
      exact ⟨by omega, all_lt_succ hn (by rw [n1, n2]; exact hs)⟩
    · focus
       refine zs <| zc rfl <| zy (.cltT rfl rfl (by omega)) <| zd <| zq <| zt rfl <| zk <| zq <| zb <| zs <| zy (.iC rfl rfl (by omega)) <| zy (.LE rfl (by omega)) ?_
       refine zy (.iC rfl rfl (by omega)) <| zy (.LE rfl (by omega)) <| yD rfl rfl (.of .rf) r8Same_fn <| zc rfl <| zd <| zi rfl (fun h2 => ?_) (fun h2 => ?_)
       refine zs <| zc rfl <| zd <| zr <| yR (.t rfl .nil) ?_ (.of (.d (.d (.d (.d .rf)))))
       rotate_left
       contradiction
      simp only [mkRet]; rw [decide_eq_false (ne_of_nth (j := k) (fun e => hs (by rw [n1, n2] at e; exact e)))]
  · focus
     refine zs <| zc rfl <| zy (.cltF rfl rfl (by omega)) <| zd <| zq <| zu rfl <| zx <| zs <| zc rfl <| zd <| zr <| yR (.t rfl .nil) ?_ (.of (.d (.d .rf)))
    simp only [mkRet]; rw [decide_eq_true (eq_of_nth (by omega) fun j hj => hn j (by omega))]
theorem l08step_fn (p b : Nat) (l : LK) (x : KOp) (F : List Assn) (h : RGood l) (hb : 0 ≤ x.w.bits) : Meets Tryz.prog 32 [ptr p, ptr b, kov x] (LinksP p l :: RfP b l :: F) (Det (.bool true) (LinksP p (l.act x).1 :: RfP b (l.act x).1 :: F)) := by
  refine Meets.intro b32 k32 (by simp) ?_
  have hl := h.inv
  unfold LK.act
  focus
   refine zs <| yB rfl fun b5 => zc rfl <| zfl rfl rfl rfl <| zd <| zq <| zb <| zs <| zj rfl rfl rfl <| zd <| zi rfl (fun h1 => ?_) (fun h1 => ?_)
   refine zs <| zfw [_, _] rfl rfl rfl rfl <| zfw [_, _, _, _, _] rfl rfl rfl rfl <| zfw [_, _, _, _, _] rfl rfl rfl rfl <| zfw [_, _] rfl rfl rfl rfl <| zf 1 rfl rfl <| zy (.Lf rfl (Nat.le_of_ble_eq_true rfl)) <| zf 3 rfl rfl <| zy (.Lf rfl (Nat.le_of_ble_eq_true rfl)) <| zf 8 rfl rfl <| zy (.Lf rfl (Nat.le_of_ble_eq_true rfl)) <| zf 13 rfl rfl ?_
   refine zy (.Lf rfl (Nat.le_of_ble_eq_true rfl)) <| yD rfl rfl (.of (.t1 .rf)) (lnPut_fn _ _ _ _ _ _ _) <| JT.yA rfl (Ev.Lf rfl (Nat.le_of_ble_eq_true rfl)) <| JT.yA rfl (Ev.Lf rfl (Nat.le_of_ble_eq_true rfl)) <| JT.yA rfl (Ev.Lf rfl (Nat.le_of_ble_eq_true rfl)) <| JT.yA rfl (Ev.Lf rfl (Nat.le_of_ble_eq_true rfl)) <| yD rfl rfl (.of (.t2 .rf)) (r8Put_fn _ _ _ _ _ _ _ (by assumption) (by assumption)) <| zy (.ceqT rfl rfl (by omega)) <| zd <| zr <| blockQ_r <| seqQ_r ?_
   rotate_left
   refine zs <| zj rfl rfl rfl <| zd <| zi rfl (fun h2 => ?_) (fun h2 => ?_)
   refine zs <| zfw [_, _] rfl rfl rfl rfl <| zfw [_, _] rfl rfl rfl rfl <| yE rfl rfl (.of (.t1 .rf)) (lnOut_fn _ _ _ _ _ (by assumption)) fun ⟨a54, c54⟩ _ => zc rfl <| zc rfl <| zfw [_, _] rfl rfl rfl rfl <| zfw [_, _] rfl rfl rfl rfl <| yE rfl rfl (.of (.t3 .rf)) (r8Out_fn _ _ _ _ _ (by assumption) (by assumption)) fun ⟨a63, c63⟩ _ => zc rfl <| zc rfl <| yD rfl rfl (.of .rf) r8SameO_fn ?_
   refine zm rfl rfl (fun h3 => .ceqT rfl rfl (by omega)) <| zy (.pickA rfl rfl rfl) <| zd <| zr <| blockQ_r <| seqQ_r ?_
   rotate_left
   refine zs <| zj rfl rfl rfl <| zd <| zi rfl (fun h3 => ?_) (fun h3 => ?_)
   refine zs <| zfw [_, _] rfl rfl rfl rfl <| zfw [_, _, _, _, _] rfl rfl rfl rfl <| zf 1 rfl rfl <| zy (.Lf rfl (Nat.le_of_ble_eq_true rfl)) <| zf 3 rfl rfl <| zy (.Lf rfl (Nat.le_of_ble_eq_true rfl)) <| yD rfl rfl (.of (.t1 .rf)) (lnLeft_fn _ _ _ _ _) <| JT.yA rfl (Ev.Lf rfl (Nat.le_of_ble_eq_true rfl)) <| JT.yA rfl (Ev.Lf rfl (Nat.le_of_ble_eq_true rfl)) <| yD rfl rfl (.of (.t2 .rf)) (r8Left_fn _ _ _ _ _ (by assumption) (by assumption)) <| zy (.ceqT rfl rfl (by omega)) ?_
   refine zd <| zr <| blockQ_r <| seqQ_r ?_
   rotate_left
   refine zs <| zj rfl rfl rfl <| zd <| zi rfl (fun h4 => ?_) (fun h4 => ?_)
   refine zs <| zfw [_, _] rfl rfl rfl rfl <| zfw [_, _, _, _, _] rfl rfl rfl rfl <| zfw [_, _] rfl rfl rfl rfl <| zf 1 rfl rfl <| zy (.Lf rfl (Nat.le_of_ble_eq_true rfl)) <| zf 3 rfl rfl <| zy (.Lf rfl (Nat.le_of_ble_eq_true rfl)) <| zf 13 rfl rfl <| zy (.Lf rfl (Nat.le_of_ble_eq_true rfl)) <| yD rfl rfl (.of (.t1 .rf)) (lnRight_fn _ _ _ _ _ _) <| JT.yA rfl (Ev.Lf rfl (Nat.le_of_ble_eq_true rfl)) ?_
   refine JT.yA rfl (Ev.Lf rfl (Nat.le_of_ble_eq_true rfl)) <| JT.yA rfl (Ev.Lf rfl (Nat.le_of_ble_eq_true rfl)) <| yD rfl rfl (.of (.t2 .rf)) (r8Right_fn _ _ _ _ _ _ (by assumption) (by assumption)) <| zy (.ceqT rfl rfl (by omega)) <| zd <| zr <| blockQ_r <| seqQ_r ?_
   rotate_left
   refine zs <| zj rfl rfl rfl <| zd <| zi rfl (fun h5 => ?_) (fun h5 => ?_)
   refine zs <| zfw [_, _] rfl rfl rfl rfl <| zfw [_, _] rfl rfl rfl rfl <| yD rfl rfl (.of (.t1 .rf)) (lnLock_fn _ _ _ _ _) <| zc rfl <| zc rfl <| zfw [_, _] rfl rfl rfl rfl <| zfw [_, _] rfl rfl rfl rfl <| yD rfl rfl (.of (.t2 .rf)) (r8Lock_fn _ _ _ _ _ (by assumption) (by assumption)) <| zc rfl <| zc rfl <| zc rfl ?_
   refine zm rfl rfl (fun h6 => .ceqT rfl rfl (by omega)) <| zy (.pickA rfl rfl rfl) <| zd <| zr <| blockQ_r <| seqQ_r ?_
   rotate_left
   refine zs <| zj rfl rfl rfl <| zd <| zi rfl (fun h6 => ?_) (fun h6 => ?_)
   refine zs <| zfw [_, _] rfl rfl rfl rfl <| zfw [_, _] rfl rfl rfl rfl <| yD rfl rfl (.of (.t1 .rf)) (lnFree_fn _ _ _ _ _) <| zc rfl <| zc rfl <| zc rfl <| yN fun b15 => yW rfl rfl rfl rfl rfl <| zfw [_, _] rfl rfl rfl rfl <| zfw [_, _] rfl rfl rfl rfl <| yD rfl rfl (.of (.t3 .rf)) (r8Free_fn _ _ _ _ _ (by assumption) (by assumption)) ?_
   refine zc rfl <| zc rfl <| zc rfl <| yN fun b18 => yW rfl rfl rfl rfl rfl <| zw rfl rfl <| zw rfl rfl <| zy (.eqT rfl rfl) <| zm rfl rfl (fun h7 => .calc rfl) <| zy (.pickA rfl rfl rfl) <| zm rfl rfl (fun h7 => .ceqT rfl rfl (by omega)) <| zy (.pickA rfl rfl rfl) ?_
   refine zd <| zr <| blockQ_r <| seqQ_r ?_
   rotate_left
   refine zk <| zs <| zc rfl <| zd <| zr ?_
   rotate_left
  all_goals (try (repeat (first | rw [if_pos (by (first | assumption | omega | grind))] | rw [if_neg (by (first | assumption | omega | grind))])))
  focus
   refine yR (.t rfl .nil) rfl (.of (.t1 (.t0 (.d .rf))))
  focus
   refine yR (.t rfl .nil) ?_ (.of (.t3 (.t1 (.d (.d (.d .rf))))))
   rotate_left
  rotate_left 1
  focus
   refine yR (.t rfl .nil) rfl (.of (.t1 (.t0 (.d .rf))))
  focus
   refine yR (.t rfl .nil) rfl (.of (.t1 (.t0 (.d .rf))))
  focus
   refine yR (.t rfl .nil) ?_ (.of (.t1 (.t0 (.d .rf))))
   rotate_left
  rotate_left 1
  focus
   refine yR (.t rfl .nil) ?_ (.of (.t3 (.t1 (.d (.d (.d .rf))))))
   rotate_left
  rotate_left 1
  focus
   refine yR (.t rfl .nil) rfl (.of (.t1 (.t1 (.d .rf))))
  all_goals simp [mkRet]

structure RAt (me : Ref) (l : LK) (k : Nat) : Prop where
  inv : l.Inv
  srt : l.Srt
  me : l.me = me
  len : l.m.length ≤ 2 * k
theorem RAt.good {me : Ref} {l : LK} {k : Nat} (h : RAt me l k) (h1 : keyOk me.key) (h2 : 0 ≤ me.vec.bits) (hk : k ≤ 60) : RGood l := ⟨h.inv, h.srt, by rw [h.me]; exact h1, by rw [h.me]; exact h2, by have := h.len; omega⟩
theorem rall_map {l : LK} {m : List RecS} {xs ys : List RecE} (R : RRel l m) (I : l.Inv) (h1 : ys.map (·.s) = rall l m) (h2 : (xs.map (·.s)).Perm l.allS) (h3 : xs.Pairwise (fun x y => ¬ vcmp y.s.w x.s.w < 0)) : xs.map (·.s) = ys.map (·.s) := by
  rw [h1]; exact all_eq R I h2 (by rw [List.pairwise_map]; exact h3)
theorem LinkRuns_fn {a1 : Option Addr} {c1 : Nat} {xs : List KOp} (me : Ref) {F : List Assn} [Hs : HS F (.slice a1 xs.length c1) KOp kopC 15 c1 xs] (hx : ∀ x ∈ xs, 0 ≤ x.w.bits) (hv : 0 ≤ me.vec.bits) :
    Meets Tryz.prog 6 [rv me, .slice a1 xs.length c1] F (Det (.bool true) F) := by
  refine Meets.intro b6 k6 (by simp) ?_
  refine J.sl Hs (fun hC hL _ => ?_)
  by_cases hme : keyOk me.key ∧ vecOk me.vec
  · obtain ⟨h1, h2⟩ := hme
    focus
     refine zs <| yB rfl fun b2 => zc rfl <| yD rfl rfl (.of .rf) (l08awake_fn _) <| zc rfl <| zd <| zq <| zu rfl <| zk <| zs <| zw rfl rfl <| yE rfl rfl (.of .rf) (lnNew_ok _ _ (by assumption) (by assumption)) fun x18 _ => ?_
     refine zc rfl <| zc rfl <| zc rfl <| zw rfl rfl <| yE rfl rfl (.of .rf) (r8New_ok _ _ (by assumption) (by assumption)) fun x23 _ => zc rfl <| zc rfl <| zc rfl <| zy (.cneF rfl rfl (by decide)) <| yG rfl <| zc rfl <| yG rfl ?_
     refine zc rfl <| yG rfl <| zc rfl <| zy (.pickF rfl rfl) <| zd <| zq <| zi rfl (fun h3 => ?_) (fun h3 => ?_)
     refine zs <| zc rfl <| zd <| zr <| yR (.t rfl .nil) ?_ (.of (.d (.d (.d .rf))))
     rotate_left
     refine zk <| zs <| zc rfl <| zd <| zq <| zb ?_
     rotate_left
    · exfalso; rcases h3 with ⟨e, _⟩ | ⟨_, e⟩ <;> cases e
    refine J.lp (ι := Nat × LK) (fun i => i.1 ≤ xs.length ∧ i.1 ≤ 60 ∧ RAt me i.2 i.1) (fun i => [(9, i64 (i.1 : Int))]) (fun i => LinksP x18 i.2 :: RfP x23 i.2 :: pc b2 38 (refC me) :: F) (fun i => xs.length - i.1) (0, ⟨me, []⟩) ⟨by simp, by simp, .new me, by intro x hx; simp at hx, rfl, by simp⟩ (by exact subxR rfl) (.of (.t1 (.t0 (.t0 .rf)))) (fun i hi => ?_)
    obtain ⟨k, L⟩ := i
    obtain ⟨hk, hk6, hR⟩ := hi
    simp only at hk hk6 hR ⊢
    by_cases hlt : k < xs.length ∧ k < 60
    · obtain ⟨hlt, hk60⟩ := hlt
      have hb : 0 ≤ (nth xs k).w.bits := hx _ (by rw [nth_eq hlt]; exact List.getElem_mem hlt)
      have hg := hR.good h1 hv hk6
      have hI := hg.inv
      have gk := hg.key
      have gv := hg.vec
      have hT : RAt me (L.touch (nth xs k).w) (k + 1) := ⟨hR.inv.touch _, hR.srt.touch hb, by rw [touch_me]; exact hR.me, by have := touch_len L (nth xs k).w; have := hR.len; omega⟩
      have hgT := hT.good h1 hv (by omega)
      have hT2 : RAt me ((L.touch (nth xs k).w).act (nth xs k)).1 (k + 1) := ⟨hT.inv.act _, hT.srt.act _ hb, by rw [act_me]; exact hT.me, by have := act_len (L.touch (nth xs k).w) (nth xs k); have := touch_len L (nth xs k).w; have := hR.len; omega⟩
      have hg2 := hT2.good h1 hv (by omega)
      have hA : ∀ F, Meets Tryz.prog 34 [ptr x18] (LinksP x18 ((L.touch (nth xs k).w).act (nth xs k)).1 :: F) _ := fun F => lnAll_fn x18 _ F hg2.inv (fun x hx => (hg2.srt x hx).g) (by have := hg2.len; omega)
      focus
       refine zs <| zc rfl <| zy (.cltT rfl rfl (by omega)) <| yG rfl <| zy (.cltT rfl rfl (by omega)) <| zy (.pickT rfl rfl) <| yG rfl <| zc rfl <| zy (.pickT rfl rfl) <| zd <| zq <| zi rfl (fun h4 => ?_) (fun h4 => ?_)
       refine zk <| zq <| zb <| zs <| zy (.iC rfl rfl (by omega)) <| zy (.fe rfl) <| zy (.LEf rfl (by omega) (by decide)) <| yE rfl rfl (.of (.t0 .rf)) (lnGet_I _ _ _ _ (by assumption)) fun ⟨a57, c57⟩ _ => zc rfl <| zc rfl <| yN fun b10 => yW rfl rfl rfl rfl rfl ?_
       refine zy (.iC rfl rfl (by omega)) <| zy (.fe rfl) <| zy (.LEf rfl (by omega) (by decide)) <| yE rfl rfl (.of (.t3 .rf)) (r8Get_fn _ _ _ _ (by assumption) (by assumption) (by assumption)) fun ⟨a67, c67⟩ _ => zc rfl <| zc rfl <| yN fun b12 => yW rfl rfl rfl rfl rfl <| zw rfl rfl <| zw rfl rfl <| yD rfl rfl (.of .rf) r8Same_fn <| zc rfl ?_
       refine zn rfl (fun h5 => ?_) (fun h5 => ?_)
       refine zw rfl rfl <| yF rfl (by assumption) <| zw rfl rfl <| yF rfl (by assumption) <| yD rfl rfl (.of .rf) lnSame_fn <| yF rfl (by assumption) <| zc rfl <| zy (.pickFp rfl (by assumption) rfl) <| yF rfl (by assumption) <| zc rfl <| zy (.pickFp rfl (by assumption) rfl) <| yF rfl (by assumption) ?_
       refine zy (.iC rfl rfl (by omega)) <| yF rfl (by assumption) <| zy (.fe rfl) <| yF rfl (by assumption) <| zy (.LEf rfl (by omega) (by decide)) <| yF rfl (by assumption) <| zy (.iC rfl rfl (by omega)) <| yF rfl (by assumption) <| zy (.fe rfl) <| yF rfl (by assumption) <| zy (.LEf rfl (by omega) (by decide)) <| yF rfl (by assumption) ?_
       refine yD rfl rfl (.of (.t5 .rf)) (lnMay_P _ _ _ _) <| JT.gaF rfl (by assumption) rfl (Ev.LEf rfl (by omega) (by decide)) ?_
       refine yF rfl (by assumption) <| yD rfl rfl (.of (.t3 .rf)) (r8May_P _ _ _ _ (by assumption) (by assumption)) <| yF rfl (by assumption) <| zc rfl <| zy (.pickFp rfl (by assumption) rfl) <| yF rfl (by assumption) <| zy (.iC rfl rfl (by omega)) <| yF rfl (by assumption) <| zy (.LE rfl (by omega)) <| yF rfl (by assumption) <| yD rfl rfl (.of (.t1 (.t0 .rf))) (l08step_fn _ _ _ _ _ (by assumption) (by assumption)) <| yF rfl (by assumption) ?_
       refine zc rfl <| zy (.pickFp rfl (by assumption) rfl) <| yG rfl <| yE rfl rfl (.of (.t0 .rf)) (hA _) fun ⟨a114, c114⟩ hx114 => yG rfl <| yE rfl rfl (.of (.t3 .rf)) (r8All_fn _ _ _ (by assumption)) fun ⟨a116, c116⟩ hx116 => yG rfl <| yD rfl rfl (.of (.t4 (.t1 .rf))) r8SameAll_fn <| yG rfl <| zc rfl <| zy (.pickF rfl rfl) <| zd ?_
       refine zi rfl (fun h6 => ?_) (fun h6 => ?_)
       refine zs <| zc rfl <| zd <| zr <| yR (.t rfl .nil) ?_ (.of (.d (.d (.d (.d (.d (.d (.d (.d (.d .rf))))))))))
       rotate_left
       refine zk <| zo <| zy (.addN rfl rfl (by omega)) <| zd <| ⟨⟨_, _⟩, ?_, (by omega), (subxR rfl), (.of (.t3 (.t1 (.t6 (.d (.d (.d (.d (.d (.d .rf))))))))))⟩
       rotate_left
       contradiction
       contradiction
      · obtain ⟨m, R, e⟩ := hx116
        exact absurd (rall_map R hg2.inv e hx114.1 hx114.2) h6
      · exact ⟨by simp only; omega, by simp only; omega, hT2⟩
    · focus
       refine zs <| zc rfl <| zj rfl rfl rfl <| zm rfl rfl (fun h4 => .int rfl rfl rfl) <| zy (.pickA rfl rfl rfl) <| yTs rfl (by omega) <| zy (.pickFp rfl (by omega) rfl) <| zd <| zq <| zu rfl <| zx <| zs ?_
       refine zc rfl <| zd <| zr <| yR (.t rfl .nil) rfl (.of (.d (.d (.d .rf))))
  · focus
     refine zs <| yB rfl fun b2 => zc rfl <| yD rfl rfl (.of .rf) (l08awake_fn _) <| zc rfl <| zd <| zq <| zu rfl <| zk <| zs <| zw rfl rfl <| yD rfl rfl (.of .rf) (lnNew_no _ _ (by assumption)) ?_
     refine zc rfl <| zc rfl <| zc rfl <| zw rfl rfl <| yD rfl rfl (.of .rf) (r8New_no _ _ (by assumption)) <| zc rfl <| zc rfl <| zc rfl <| zy (.cneF rfl rfl (by decide)) <| yG rfl <| zc rfl <| yG rfl ?_
     refine zc rfl <| yG rfl <| zc rfl <| zy (.pickF rfl rfl) <| zd <| zq <| zu rfl <| zk <| zs <| zc rfl <| zd <| zq ?_
     refine zb ?_
    refine J.lp (ι := Unit) (fun _ => True) (fun _ => []) (fun _ => pc b2 38 (refC me) :: F) (fun _ => 0) () trivial (by exact subxR rfl) (.of (.t0 .rf)) (fun _ _ => ?_)
    focus
     refine zs <| zc rfl <| zj rfl rfl rfl <| zm rfl rfl (fun h1 => .cltT rfl rfl (by decide)) <| zy (.pickA rfl rfl rfl) <| zm rfl rfl (fun h1 => .calc rfl) <| zy (.pickA rfl rfl rfl) <| zd <| zq <| zi rfl (fun h1 => ?_) (fun h1 => ?_)
     refine zk <| zq <| zb <| zs <| zy (.iC rfl rfl (by omega)) <| zy (.fe2 1 rfl rfl) ?_
     rotate_left
     refine zx <| zs <| zc rfl <| zd <| zr <| yR (.t rfl .nil) rfl (.of (.d .rf))
    exact absurd h1.2 (by decide)
end Go.Proofs.YtnipmjpdklbbcaaGreat
