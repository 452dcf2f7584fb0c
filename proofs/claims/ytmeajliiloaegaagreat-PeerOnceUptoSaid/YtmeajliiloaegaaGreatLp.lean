/- The lock of the program: what its functions do. Conditions: none. -/
import Derived.Test.YtmeajliiloaegaaGreatBj
import Derived.Test.YtmeajliiloaegaaGreatTy
import Derived.Test.YtmeajliiloaegaaGreatSlQ
set_option linter.unusedSimpArgs false
set_option linter.unusedVariables false
set_option maxRecDepth 100000
set_option maxHeartbeats 2000000
namespace Go.Proofs.YtmeajliiloaegaaGreat
open Go Go.SL
attribute [local irreducible] pc rc SlT Me Mt It pt ro pur ex sep old Meets

instance : TE 45 Owner ownerC 2 := ⟨ownerC_one, by decide⟩
/-! ### Slices of owners -/
theorem slIndexO_fn {a : Option Addr} {c : Nat} {xs : List Owner} (o : Owner) {F : List Assn} [Hs : HS F (.slice a xs.length c) Owner ownerC 2 c xs] : Meets Tryz.prog 86 [.slice a xs.length c, ov o] F (Det (i64 (ix xs o)) F) := by
  refine Meets.intro b86 k86 (by simp) ?_
  refine J.sl Hs (fun hC hL hN => ?_)
  focus
   refine zs <| yB rfl fun b3 => zc rfl <| zc rfl <| zc rfl <| zd <| zq <| zb ?_
  refine J.lp (ι := Nat) (fun k => k ≤ xs.length ∧ ∀ j, j < k → nth xs j ≠ o) (fun k => [(8, i64 k)]) (fun _ => pc b3 45 (ownerC o) :: F) (fun k => xs.length - k) 0 ⟨by omega, fun j hj => by omega⟩ (by exact subxR rfl) (Up.refl _) (fun k hk => ?_)
  obtain ⟨hk, hn⟩ := hk
  focus
   refine zs <| zj rfl rfl rfl <| zd <| zq <| zi rfl (fun h1 => ?_) (fun h1 => ?_)
   refine zk <| zq <| zb <| zs <| zc rfl <| zw rfl rfl <| zy (.iC rfl rfl (by omega)) <| zy (.LE rfl (by omega)) ?_
   refine zy (.eqT rfl rfl) <| zd <| zi rfl (fun h2 => ?_) (fun h2 => ?_)
   refine zs <| zc rfl <| zd <| zr <| yR (.t rfl .nil) ?_ (.of (.d .rf))
   rotate_left
   refine zk <| zo <| zy (.addN rfl rfl (by omega)) <| zd <| ⟨_, ?_, (by omega), (subxR rfl), (.of (.t0 .rf))⟩
   rotate_left
   refine zx <| zs <| zc rfl <| zd <| zr <| yR (.t rfl .nil) ?_ (.of (.d .rf))
   rotate_left
  · simp only [mkRet]; rw [ix_at (by omega) hn (Eq.symm h2)]
  · exact ⟨by omega, all_lt_succ hn (fun e => h2 e.symm)⟩
  · simp only [mkRet]; rw [ix_no fun j hj => hn j (by omega)]

theorem slContO_fn {a : Option Addr} {c : Nat} {xs : List Owner} (o : Owner) {F : List Assn} [Hs : HS F (.slice a xs.length c) Owner ownerC 2 c xs] : Meets Tryz.prog 53 [.slice a xs.length c, ov o] F (Det (.bool (decide (o ∈ xs))) F) := by
  refine Meets.intro b53 k53 (by simp) ?_
  focus
   refine zs <| yB rfl fun b3 => zc rfl <| zw rfl rfl <| yD rfl rfl (.of .rf) (slIndexO_fn _) <| zj rfl rfl rfl <| zd <| zr <| yR (.t rfl .nil) ?_ (.of (.d .rf))
  simp only [mkRet, ix_ge]

theorem slCloneO_fn {a : Option Addr} {c : Nat} {xs : List Owner} {F : List Assn} [Hs : HS F (.slice a xs.length c) Owner ownerC 2 c xs] (hL : xs.length ≤ 8388608) : Meets Tryz.prog 108 [.slice a xs.length c] F
    (Some' (fun _ : Option Addr × Nat => True) (fun x => .slice x.1 xs.length x.2) (fun x => SlT true ownerC 2 (.slice x.1 xs.length x.2) x.2 xs :: F)) := by
  refine Meets.intro b108 k108 (by simp) ?_
  refine J.sl Hs (fun hC hL' hN => ?_)
  focus
   refine zs <| zc rfl <| zc rfl <| zd <| zq <| zi rfl (fun h1 => ?_) (fun h1 => ?_)
   refine zs <| zc rfl <| zd <| zr <| seqQ_r ?_
   rotate_left
   refine zk <| zs <| JT.b0 fun a5 => ?_
   (refine JT.A3 rfl rfl rfl (by decide) (by simp; omega) (fun a2 c2 hc2 => ?_))
   refine zd <| zr <| yQ ⟨_, _⟩ (.t rfl .nil) trivial rfl (.of (.t0 .rf))
  · obtain rfl : xs = [] := hN (by simpa using h1)
    exact retQS (none, 0) (.t rfl .nil) trivial rfl (Up.nilS true (by decide) (Up.refl _))

theorem lkCheck_fn (o : Owner) (F : List Assn) : Meets Tryz.prog 65 [ov o] F (Det (i64 (ckE o)) F) := by
  refine Meets.intro b65 k65 (by simp) ?_
  focus
   refine zs <| yB rfl fun b1 => zc rfl <| zfl rfl rfl rfl <| zj rfl rfl rfl <| zh rfl rfl (fun h1 => .fa' 0 rfl rfl) <| zh rfl rfl (fun h1 => by rw [h1]; exact .L rfl rfl) <| zh rfl rfl (fun h1 => by rw [h1]; exact .int rfl rfl rfl) <| zy (.pickO rfl rfl rfl) <| zh rfl rfl (fun h1 => .fa' 1 rfl rfl) <| zh rfl rfl (fun h1 => by rw [h1]; exact .L rfl rfl) <| zh rfl rfl (fun h1 => by rw [h1]; exact .int rfl rfl rfl) ?_
   refine zy (.pickO rfl rfl rfl) <| zh rfl rfl (fun h1 => .fa' 1 rfl rfl) <| zh rfl rfl (fun h1 => by rw [h1]; exact .L rfl rfl) <| zh rfl rfl (fun h1 => by rw [h1]; exact .int rfl rfl rfl) <| zy (.pickO rfl rfl rfl) <| zd <| zq <| zi rfl (fun h1 => ?_) (fun h1 => ?_)
   refine zs <| zc rfl <| zd <| zr <| yR (.t rfl .nil) ?_ (.of (.d .rf))
   rotate_left
   refine zk <| zs <| zc rfl <| zd <| zr <| yR (.t rfl .nil) ?_ (.of (.d .rf))
   rotate_left
  all_goals simp only [mkRet]
  · rw [ckE, if_neg (by unfold okO; omega)]
  · rw [ckE, if_pos (by unfold okO; omega)]

theorem lkThere_nil (F : List Assn) : Meets Tryz.prog 105 [.pointer none] F (Det (.bool false) F) := by
  refine Meets.intro b105 k105 (by simp) ?_
  focus
   refine zs <| zc rfl <| zc rfl <| zv rfl rfl <| zv rfl rfl <| zy (.pickF rfl rfl) <| zd <| zr <| yR (.t rfl .nil) rfl (.of .rf)
theorem lkThere_fn {b T : Nat} {m : Bool} {l : List Value} {F r : List Assn} [Hs : HP F b T (.bool m :: l) r] : Meets Tryz.prog 105 [ptr b] F (Det (.bool m) F) := by
  refine Meets.intro b105 k105 (by simp) ?_
  focus
   refine zs <| zc rfl <| zc rfl <| zm rfl rfl (fun h1 => .fa' 0 rfl rfl) <| zm rfl rfl (fun h1 => by rw [h1]; exact .L rfl rfl) <| zy (.pickT rfl rfl) <| zd <| zr <| yR (.t rfl .nil) rfl (.of .rf)

theorem lkAsked_nil (o : Owner) (F : List Assn) : Meets Tryz.prog 93 [.pointer none, ov o] F (Det (i64 4) F) := by
  refine Meets.intro b93 k93 (by simp) ?_
  focus
   refine zs <| yB rfl fun b3 => zc rfl <| yD rfl rfl (.of .rf) (lkThere_nil _) <| zc rfl <| zd <| zq <| zt rfl <| zs <| zc rfl <| zd <| zr ?_
   refine yR (.t rfl .nil) rfl (.of (.d .rf))
theorem lkAsked_fn {b T : Nat} {l : List Value} (o : Owner) {F r : List Assn} [Hs : HP F b T (.bool true :: l) r] : Meets Tryz.prog 93 [ptr b, ov o] F (Det (i64 (ckE o)) F) := by
  refine Meets.intro b93 k93 (by simp) ?_
  focus
   refine zs <| yB rfl fun b3 => zc rfl <| yD rfl rfl (.of .rf) lkThere_fn <| zc rfl <| zd <| zq <| zu rfl <| zk <| zs <| zw rfl rfl <| yD rfl rfl (.of .rf) (lkCheck_fn _ _) ?_
   refine zd <| zr <| yR (.t rfl .nil) rfl (.of (.d .rf))
theorem lkAsked_no {b T : Nat} {l : List Value} (o : Owner) {F r : List Assn} [Hs : HP F b T (.bool false :: l) r] : Meets Tryz.prog 93 [ptr b, ov o] F (Det (i64 4) F) := by
  refine Meets.intro b93 k93 (by simp) ?_
  focus
   refine zs <| yB rfl fun b3 => zc rfl <| yD rfl rfl (.of .rf) lkThere_fn <| zc rfl <| zd <| zq <| zt rfl <| zs <| zc rfl <| zd <| zr ?_
   refine yR (.t rfl .nil) rfl (.of (.d .rf))

theorem lkAsk_fn (b : Nat) (s : LS) (o : Owner) (F : List Assn) : Meets Tryz.prog 67 [ptr b, ov o] (LockP b s :: F) (Det (.tuple #[.bool (s.ask o).2.1, i64 (s.ask o).2.2]) (LockP b (s.ask o).1 :: F)) := by
  refine Meets.intro b67 k67 (by simp) ?_
  refine J.openLock Has.here (fun T a c hC hL => ?_)
  focus
   refine zs <| yB rfl fun b3 => zc rfl <| zc rfl <| zw rfl rfl <| yD rfl rfl (.of .rf) (lkAsked_fn _) <| zj rfl rfl rfl <| zd <| zq <| zi rfl (fun h1 => ?_) (fun h1 => ?_)
   refine zs <| zc rfl <| zc rfl <| zd <| zr <| seqQ_r ?_
   rotate_left
   refine zk <| zq <| zb <| zs <| zfl rfl rfl rfl <| zm rfl rfl (fun h2 => .fa' 2 rfl rfl) <| zm rfl rfl (fun h2 => by rw [h2]; exact .Lp (us := [_, _]) rfl (Nat.le_of_ble_eq_true rfl) rfl) <| zm rfl rfl (fun h2 => .Lw rfl rfl) <| zm rfl rfl (fun h2 => by rw [h2]; exact .eqs rfl rfl (by repeat (first | exact EqC.nil | apply EqC.i | apply EqC.b | apply EqC.s))) ?_
   refine zy (.pickA rfl rfl rfl) <| zd <| zi rfl (fun h2 => ?_) (fun h2 => ?_)
   refine zs <| zc rfl <| zc rfl <| zd <| zr <| blockQ_r <| seqQ_r ?_
   rotate_left
   refine zs <| zfl rfl rfl rfl <| zw rfl rfl <| yD rfl rfl (.of .rf) (slContO_fn _) <| zd <| zi rfl (fun h3 => ?_) (fun h3 => ?_)
   refine zs <| zc rfl <| zc rfl <| zd <| zr <| blockQ_r <| seqQ_r ?_
   rotate_left
   refine zs <| zfl rfl rfl rfl <| zc rfl <| zd <| zi rfl (fun h4 => ?_) (fun h4 => ?_)
   refine zs <| zw rfl rfl <| zf 1 rfl rfl <| yS rfl rfl rfl rfl rfl (Nat.le_of_ble_eq_true rfl) rfl <| JT.yA rfl (Ev.Lw rfl rfl) <| zf 2 rfl rfl <| yS rfl rfl rfl rfl rfl (Nat.le_of_ble_eq_true rfl) rfl <| zc rfl <| zc rfl <| zd <| zr <| blockQ_r ?_
   refine seqQ_r ?_
   rotate_left
   refine zs <| zfl rfl rfl rfl <| zc rfl <| zj rfl rfl rfl <| zd <| zi rfl (fun h5 => ?_) (fun h5 => ?_)
   refine zs <| zc rfl <| zc rfl <| zd <| zr <| blockQ_r <| seqQ_r ?_
   rotate_left
   refine zk <| zs <| zfl rfl rfl rfl <| zfl rfl rfl rfl <| zc rfl <| zfl rfl rfl rfl <| zc rfl ?_
   ((refine JT.G rfl .no (.c rfl) (.c rfl) (by decide) (by omega) (by omega) (by omega) (by omega) (fun a68 => ?_)); (try simp only [List.take_length, List.drop_zero, Nat.sub_zero]))
   refine zw rfl rfl <| JT.bsl1 (by repeat (first | exact Cells.nil | apply Cells.z | (apply Cells.cl; rfl; rfl; rfl))) (by simp only [List.length_cons, List.length_nil, Nat.reduceAdd]; rfl) (by decide) (by rfl) fun a70 => ?_
   (refine JT.A2 rfl rfl (by rfl) rfl (by decide) (by omega) (by omega) (fun a71 c71 hc71 => ?_))
   refine zf 4 rfl rfl <| yS rfl rfl rfl rfl rfl (Nat.le_of_ble_eq_true rfl) rfl <| zc rfl <| zc rfl <| zd <| zr ?_
   rotate_left
  all_goals (unfold LS.ask; (repeat (first | rw [if_pos (by (first | assumption | omega | grind))] | rw [if_neg (by (first | assumption | omega | grind))])))
  focus
   refine yR (.t rfl (.t rfl .nil)) ?_ (.of (LockP.fold (.there .here) (.there .here) (.d .rf)))
   rotate_left
  rotate_left 1
  focus
   refine yR (.t rfl (.t rfl .nil)) rfl (.of (LockP.fold (.there .here) (.there .here) (.d .rf)))
  focus
   refine yR (.t rfl (.t rfl .nil)) rfl (.of (LockP.fold (.there .here) (.there .here) (.d .rf)))
  focus
   refine yR (.t rfl (.t rfl .nil)) rfl (.of (LockP.fold .here (.there .here) (.d .rf)))
  focus
   refine yR (.t rfl (.t rfl .nil)) rfl (.of (LockP.fold (.there .here) (.there .here) (.d .rf)))
  focus
   refine yR (.t rfl (.t rfl .nil)) rfl (.frz (.there .here) (.of (LockP.fold (.there .here) .here (.d (.d (.d (.d .rf)))))))
  rw [ckE, if_neg (by assumption)]; rfl

theorem lkFree_fn (b : Nat) (s : LS) (o : Owner) (F : List Assn) : Meets Tryz.prog 87 [ptr b, ov o] (LockP b s :: F) (Det (.tuple #[ov (s.free o).2.1, .bool (s.free o).2.2.1, i64 (s.free o).2.2.2]) (LockP b (s.free o).1 :: F)) := by
  refine Meets.intro b87 k87 (by simp) ?_
  refine J.openLock Has.here (fun T a c hC hL => ?_)
  focus
   refine zs <| yB rfl fun b3 => yN fun b4 => zc rfl <| zc rfl <| zw rfl rfl <| yD rfl rfl (.of .rf) (lkAsked_fn _) <| zj rfl rfl rfl <| zd <| zq <| zi rfl (fun h1 => ?_) (fun h1 => ?_)
   refine zs <| zg rfl <| yW rfl rfl rfl rfl rfl <| zc rfl <| zc rfl <| zd <| zr <| seqQ_r ?_
   rotate_left
   refine zk <| zs <| zfl rfl rfl rfl <| zc rfl <| zh rfl rfl (fun h2 => .fa' 2 rfl rfl) <| zh rfl rfl (fun h2 => by rw [h2]; exact .Lp (us := [_, _]) rfl (Nat.le_of_ble_eq_true rfl) rfl) <| zh rfl rfl (fun h2 => .Lw rfl rfl) <| zh rfl rfl (fun h2 => by rw [h2]; exact .eqs rfl rfl (by repeat (first | exact EqC.nil | apply EqC.i | apply EqC.b | apply EqC.s))) ?_
   refine zy (.pickO rfl rfl rfl) <| zd <| zq <| zi rfl (fun h2 => ?_) (fun h2 => ?_)
   refine zs <| zg rfl <| yW rfl rfl rfl rfl rfl <| zc rfl <| zc rfl <| zd <| zr <| seqQ_r ?_
   rotate_left
   refine zk <| zs <| zfl rfl rfl rfl <| zc rfl <| zj rfl rfl rfl <| zd <| zq <| zi rfl (fun h3 => ?_) (fun h3 => ?_)
   refine zs <| zg rfl <| zf 1 rfl rfl <| yS rfl rfl rfl rfl rfl (Nat.le_of_ble_eq_true rfl) rfl <| zf 2 rfl rfl <| yS rfl rfl rfl rfl rfl (Nat.le_of_ble_eq_true rfl) rfl <| zg rfl <| yW rfl rfl rfl rfl rfl <| zc rfl <| zc rfl <| zd <| zr ?_
   refine seqQ_r ?_
   rotate_left
   refine zk <| zs <| zfl rfl rfl rfl <| zy (.iC rfl rfl (by omega)) <| zy (.LE rfl (by omega)) <| zfl rfl rfl rfl <| zfl rfl rfl rfl <| zc rfl <| zfl rfl rfl rfl <| zc rfl ?_
   ((refine JT.G rfl (.c rfl) (.c rfl) (.c rfl) (by decide) (by omega) (by omega) (by omega) (by omega) (fun a65 => ?_)); (try simp only [List.take_length, List.drop_zero, Nat.sub_zero]))
   refine zf 2 rfl rfl <| yS rfl rfl rfl rfl rfl (Nat.le_of_ble_eq_true rfl) rfl <| zf 4 rfl rfl <| yS rfl rfl rfl rfl rfl (Nat.le_of_ble_eq_true rfl) rfl <| zfw [_, _] rfl rfl rfl rfl <| yW rfl rfl rfl rfl rfl <| zc rfl <| zc rfl <| zd <| zr ?_
   rotate_left
  all_goals (unfold LS.free; (repeat (first | rw [if_pos (by (first | assumption | omega | grind))] | rw [if_neg (by (first | assumption | omega | grind))])))
  focus
   refine yR (.w rfl rfl (.t rfl (.t rfl .nil))) ?_ (.of (LockP.fold (.there (.there .here)) (.there (.there .here)) (.d (.d .rf))))
   rotate_left
  rotate_left 1
  focus
   refine yR (.w rfl rfl (.t rfl (.t rfl .nil))) rfl (.of (LockP.fold (.there (.there .here)) (.there (.there .here)) (.d (.d .rf))))
  focus
   refine yR (.w rfl rfl (.t rfl (.t rfl .nil))) rfl (.of (LockP.fold (.there .here) (.there (.there .here)) (.d (.d .rf))))
  focus
   refine yR (.w rfl rfl (.t rfl (.t rfl .nil))) rfl (.of (LockP.fold (.there .here) (.there .here) (.d (.d (.d .rf)))))
  rw [ckE, if_neg (by assumption)]; rfl

theorem slIndexO_in {a : Option Addr} {c : Nat} {xs : List Owner} (o : Owner) {F : List Assn} [Hs : HS F (.slice a xs.length c) Owner ownerC 2 c xs] (hm : o ∈ xs) : Meets Tryz.prog 86 [.slice a xs.length c, ov o] F (Det (i64 ((xs.idxOf o : Nat) : Int)) F) := by
  rw [← (ix_lt hm).1]; exact slIndexO_fn o
theorem slIndexO_no {a : Option Addr} {c : Nat} {xs : List Owner} (o : Owner) {F : List Assn} [Hs : HS F (.slice a xs.length c) Owner ownerC 2 c xs] (hm : o ∉ xs) : Meets Tryz.prog 86 [.slice a xs.length c, ov o] F (Det (i64 (-1)) F) := by
  have : ix xs o = -1 := by rw [ix, if_neg hm]
  rw [← this]; exact slIndexO_fn o















theorem lkHolder_fn (b : Nat) (s : LS) (F : List Assn) : Meets Tryz.prog 88 [ptr b] (LockP b s :: F) (Det (.tuple #[ov s.holder, .bool s.held]) (LockP b s :: F)) := by
  refine Meets.intro b88 k88 (by simp) ?_
  refine J.openLock Has.here (fun T a c hC hL => ?_)
  focus
   refine zs <| yN fun b2 => zc rfl <| yD rfl rfl (.of .rf) lkThere_fn <| zc rfl <| zd <| zq <| zu rfl <| zk <| zs <| zfw [_, _] rfl rfl rfl rfl <| zf 1 rfl rfl ?_
   refine zl rfl rfl <| yW rfl rfl rfl rfl rfl <| JT.yA rfl (Ev.L rfl rfl) <| zc rfl <| zd <| zr <| yR (.w rfl rfl (.t rfl .nil)) rfl (.of (LockP.fold (.there .here) (.there .here) (.d .rf)))

theorem lkWaits_fn (b : Nat) (s : LS) (F : List Assn) (hS : s.w.length ≤ 8388608) : Meets Tryz.prog 95 [ptr b] (LockP b s :: F)
    (Some' (fun _ : Option Addr × Nat => True) (fun x => .slice x.1 s.w.length x.2) (fun x => SlT false ownerC 2 (.slice x.1 s.w.length x.2) x.2 s.w :: LockP b s :: F)) := by
  refine Meets.intro b95 k95 (by simp) ?_
  refine J.openLock Has.here (fun T a c hC hL => ?_)
  focus
   refine zs <| zc rfl <| yD rfl rfl (.of .rf) lkThere_fn <| zc rfl <| zd <| zq <| zu rfl <| zk <| zs <| zfl rfl rfl rfl <| yE rfl rfl (.of .rf) (slCloneO_fn (by assumption)) fun ⟨a2, c2⟩ _ => zd ?_
   refine zr <| yQ ⟨_, _⟩ (.t rfl .nil) trivial rfl (.frz .here (.of (.t0 (LockP.fold .here .here .rf))))

theorem lkEnd_fn (b : Nat) (s : LS) (F : List Assn) (hS : s.w.length ≤ 8388608) : Meets Tryz.prog 94 [ptr b] (LockP b s :: F)
    (Some' (fun _ : Option Addr × Nat => True) (fun x => .tuple #[.slice x.1 s.w.length x.2, i64 0]) (fun x => SlT false ownerC 2 (.slice x.1 s.w.length x.2) x.2 s.w :: LockP b s.fin :: F)) := by
  refine Meets.intro b94 k94 (by simp) ?_
  refine J.openLock Has.here (fun T a c hC hL => ?_)
  refine J.nilS ownerC 2 false (by decide) ?_
  focus
   refine zs <| zc rfl <| zc rfl <| yD rfl rfl (.of .rf) lkThere_fn <| zc rfl <| zd <| zq <| zu rfl <| zk <| zs <| zfl rfl rfl rfl <| zg rfl ?_
   refine zf 1 rfl rfl <| yS rfl rfl rfl rfl rfl (Nat.le_of_ble_eq_true rfl) rfl <| zf 2 rfl rfl <| yS rfl rfl rfl rfl rfl (Nat.le_of_ble_eq_true rfl) rfl <| zf 4 rfl rfl <| yS rfl rfl rfl rfl rfl (Nat.le_of_ble_eq_true rfl) rfl <| yE rfl rfl (.of .rf) (slCloneO_fn (by assumption)) fun ⟨a2, c2⟩ _ => zc rfl <| zd <| zr <| yQ ⟨_, _⟩ (.t rfl (.t rfl .nil)) trivial rfl (.frz .here (.of (.t0 (LockP.fold .here .here (.d .rf)))))

theorem lkNew_fn (F : List Assn) : Meets Tryz.prog 66 [] F (Some' (fun _ : Nat => True) (fun b => ptr b) (fun b => LockP b LS.new :: F)) := by
  refine Meets.intro b66 k66 (by simp) ?_
  refine J.nilS ownerC 2 false (by decide) ?_
  focus
   refine zs <| zc rfl <| zg rfl <| yB rfl fun b0 => zd <| zr <| yQ _ (.t rfl .nil) trivial rfl (.of (LockP.fold .here .here .rf))
end Go.Proofs.YtmeajliiloaegaaGreat
