/- The lock of the reference: what its functions do. Conditions: none. -/
import Derived.Test.YtnipmjpdklbbcaaGreatLp
set_option linter.unusedSimpArgs false
set_option linter.unusedVariables false
set_option maxRecDepth 100000
set_option maxHeartbeats 2000000
namespace Go.Proofs.YtnipmjpdklbbcaaGreat
open Go Go.SL
attribute [local irreducible] pc rc SlT Me Mt It pt ro pur ex sep old Meets

/-! ### The reference's -/
theorem r7IsOwner_fn (o : Owner) (F : List Assn) : Meets Tryz.prog 203 [ov o] F (Det (.bool (decide (okO o))) F) := by
  refine Meets.intro b203 k203 (by simp) ?_
  focus
   refine zs <| yB rfl fun b1 => zc rfl <| zfl rfl rfl rfl <| zj rfl rfl rfl <| zm rfl rfl (fun h1 => .fa' 0 rfl rfl) <| zm rfl rfl (fun h1 => by rw [h1]; exact .L rfl rfl) <| zm rfl rfl (fun h1 => by rw [h1]; exact .int rfl rfl rfl) <| zy (.pickA rfl rfl rfl) <| zm rfl rfl (fun h1 => .fa' 1 rfl rfl) <| zm rfl rfl (fun h1 => by rw [h1]; exact .L rfl rfl) <| zm rfl rfl (fun h1 => by rw [h1]; exact .int rfl rfl rfl) ?_
   refine zy (.pickA rfl rfl rfl) <| zm rfl rfl (fun h1 => .fa' 1 rfl rfl) <| zm rfl rfl (fun h1 => by rw [h1]; exact .L rfl rfl) <| zm rfl rfl (fun h1 => by rw [h1]; exact .int rfl rfl rfl) <| zy (.pickA rfl rfl rfl) <| zd <| zr <| yR (.t rfl .nil) ?_ (.of (.d .rf))
  simp only [mkRet]; congr 1; rw [Bool.eq_iff_iff]; simp [okO]; grind

theorem r7Same_fn {a1 a2 : Option Addr} {c1 c2 : Nat} {xs ys : List Owner} {F : List Assn} [H1 : HS F (.slice a1 xs.length c1) Owner ownerC 2 c1 xs] [H2 : HS F (.slice a2 ys.length c2) Owner ownerC 2 c2 ys] :
    Meets Tryz.prog 45 [.slice a1 xs.length c1, .slice a2 ys.length c2] F (Det (.bool (decide (xs = ys))) F) := by
  refine Meets.intro b45 k45 (by simp) ?_
  refine J.sl H1 (fun hC hL _ => ?_)
  focus
   refine zs <| zc rfl <| zc rfl <| zc rfl <| zj rfl rfl rfl <| zd <| zq <| zi rfl (fun h1 => ?_) (fun h1 => ?_)
   refine zs <| zc rfl <| zd <| zr <| yR (.t rfl .nil) ?_ (.of .rf)
   rotate_left
   refine zk <| zs <| zc rfl <| zd <| zq <| zb ?_
   rotate_left
  · simp only [mkRet]; rw [decide_eq_false (ne_of_len (by omega))]
  refine J.lp (ι := Nat) (fun k => k ≤ xs.length ∧ ∀ j, j < k → nth xs j = nth ys j) (fun k => [(5, i64 k)]) (fun _ => F) (fun k => xs.length - k) 0 ⟨by omega, fun j hj => by omega⟩ (by exact subxR rfl) (Up.refl _) (fun k hk => ?_)
  obtain ⟨hk, hn⟩ := hk
  focus
   refine zs <| zc rfl <| zj rfl rfl rfl <| zd <| zq <| zi rfl (fun h2 => ?_) (fun h2 => ?_)
   refine zk <| zq <| zb <| zs <| zy (.iC rfl rfl (by omega)) <| zy (.LE rfl (by omega)) <| zy (.iC rfl rfl (by omega)) <| zy (.LE rfl (by omega)) <| zy (.neT rfl rfl) <| zd <| zi rfl (fun h3 => ?_) (fun h3 => ?_)
   refine zs <| zc rfl <| zd <| zr <| yR (.t rfl .nil) ?_ (.of .rf)
   rotate_left
   refine zk <| zo <| zy (.addN rfl rfl (by omega)) <| zd <| ⟨_, ?_, (by omega), (subxR rfl), (.of .rf)⟩
   rotate_left
   refine zx <| zs <| zc rfl <| zd <| zr <| yR (.t rfl .nil) ?_ (.of .rf)
   rotate_left
  · simp only [mkRet]; rw [decide_eq_false (ne_of_nth (by assumption))]
  · exact ⟨by omega, all_lt_succ hn (by assumption)⟩
  · simp only [mkRet]; rw [decide_eq_true (eq_of_nth (by omega) fun j hj => hn j (by omega))]

theorem r7place_fn {p T : Nat} {s : LS} {a1 : Option Addr} {c1 : Nat} (o : Owner) {F r : List Assn} [H1 : HP F p T (rlockC s a1 c1) r] [H2 : HS F (.slice a1 s.w.length c1) Owner ownerC 2 c1 s.w] : Meets Tryz.prog 204 [ptr p, ov o] F (Det (i64 (ix s.w o)) F) := by
  refine Meets.intro b204 k204 (by simp) ?_
  refine J.sl H2 (fun hC hL _ => ?_)
  focus
   refine zs <| yB rfl fun b3 => zc rfl <| zc rfl <| zd <| zq <| zb ?_
  refine J.lp (ι := Nat) (fun k => k ≤ s.w.length ∧ ∀ j, j < k → nth s.w j ≠ o) (fun k => [(5, i64 k)]) (fun _ => pc b3 50 (ownerC o) :: F) (fun k => s.w.length - k) 0 ⟨by omega, fun j hj => by omega⟩ (by exact subxR rfl) (Up.refl _) (fun k hk => ?_)
  obtain ⟨hk, hn⟩ := hk
  focus
   refine zs <| zfl rfl rfl rfl <| zc rfl <| zj rfl rfl rfl <| zd <| zq <| zi rfl (fun h1 => ?_) (fun h1 => ?_)
   refine zk <| zq <| zb <| zs <| zfl rfl rfl rfl <| zy (.iC rfl rfl (by omega)) <| zy (.LE rfl (by omega)) <| zw rfl rfl <| zy (.eqT rfl rfl) <| zd <| zi rfl (fun h2 => ?_) (fun h2 => ?_)
   refine zs <| zc rfl <| zd <| zr <| yR (.t rfl .nil) ?_ (.of (.d .rf))
   rotate_left
   refine zk <| zo <| zy (.addN rfl rfl (by omega)) <| zd <| ⟨_, ?_, (by omega), (subxR rfl), (.of (.t0 .rf))⟩
   rotate_left
   refine zx <| zs <| zc rfl <| zd <| zr <| yR (.t rfl .nil) ?_ (.of (.d .rf))
   rotate_left
  · simp only [mkRet]; rw [ix_at (by omega) hn (by assumption)]
  · exact ⟨by omega, all_lt_succ hn (by assumption)⟩
  · simp only [mkRet]; rw [ix_no fun j hj => hn j (by omega)]

theorem r7place_in {p T : Nat} {s : LS} {a1 : Option Addr} {c1 : Nat} (o : Owner) {F r : List Assn} [H1 : HP F p T (rlockC s a1 c1) r] [H2 : HS F (.slice a1 s.w.length c1) Owner ownerC 2 c1 s.w] (hm : o ∈ s.w) : Meets Tryz.prog 204 [ptr p, ov o] F (Det (i64 ((s.w.idxOf o : Nat) : Int)) F) := by
  rw [← (ix_lt hm).1]; exact r7place_fn o
theorem r7place_no {p T : Nat} {s : LS} {a1 : Option Addr} {c1 : Nat} (o : Owner) {F r : List Assn} [H1 : HP F p T (rlockC s a1 c1) r] [H2 : HS F (.slice a1 s.w.length c1) Owner ownerC 2 c1 s.w] (hm : o ∉ s.w) : Meets Tryz.prog 204 [ptr p, ov o] F (Det (i64 (-1)) F) := by
  have : ix s.w o = -1 := by rw [ix, if_neg hm]
  rw [← this]; exact r7place_fn o

theorem r7Ask_fn (p : Nat) (s : LS) (o : Owner) (F : List Assn) : Meets Tryz.prog 156 [ptr p, ov o] (RlockP p s :: F) (Det (.tuple #[.bool (s.ask o).2.1, i64 (s.ask o).2.2]) (RlockP p (s.ask o).1 :: F)) := by
  refine Meets.intro b156 k156 (by simp) ?_
  refine J.openRlock Has.here (fun T a c hC hL => ?_)
  by_cases hm : o ∈ s.w
  all_goals (try have hlt := (ix_lt hm).2)
  focus
   refine zs <| yB rfl fun b3 => zc rfl <| zc rfl <| zd <| zq <| zb <| zs <| zw rfl rfl <| yD rfl rfl (.of .rf) (r7IsOwner_fn _ _) <| zc rfl <| zd ?_
   refine zi rfl (fun h1 => ?_) (fun h1 => ?_)
   refine zs <| zc rfl <| zc rfl <| zd <| zr <| blockQ_r <| seqQ_r ?_
   rotate_left
   refine zs <| zfl rfl rfl rfl <| zm rfl rfl (fun h2 => .fa' 1 rfl rfl) <| zm rfl rfl (fun h2 => by rw [h2]; exact .Lp (us := [_, _]) rfl (Nat.le_of_ble_eq_true rfl) rfl) <| zm rfl rfl (fun h2 => .Lw rfl rfl) <| zm rfl rfl (fun h2 => by rw [h2]; exact .eqs rfl rfl (by repeat (first | exact EqC.nil | apply EqC.i | apply EqC.b | apply EqC.s))) ?_
   refine zy (.pickA rfl rfl rfl) <| zd <| zi rfl (fun h2 => ?_) (fun h2 => ?_)
   refine zs <| zc rfl <| zc rfl <| zd <| zr <| blockQ_r <| seqQ_r ?_
   rotate_left
   refine zs <| zw rfl rfl <| yD rfl rfl (.of .rf) (r7place_in _ (by first | assumption | omega | decide | exact rfl)) ?_
   refine zy (.cgeT rfl rfl (by omega)) <| zd <| zt rfl <| zs <| zc rfl <| zc rfl <| zd <| zr <| blockQ_r <| seqQ_r ?_
   rotate_left
  rotate_left 3
  focus
   refine zs <| yB rfl fun b3 => zc rfl <| zc rfl <| zd <| zq <| zb <| zs <| zw rfl rfl <| yD rfl rfl (.of .rf) (r7IsOwner_fn _ _) <| zc rfl <| zd ?_
   refine zi rfl (fun h1 => ?_) (fun h1 => ?_)
   refine zs <| zc rfl <| zc rfl <| zd <| zr <| blockQ_r <| seqQ_r ?_
   rotate_left
   refine zs <| zfl rfl rfl rfl <| zm rfl rfl (fun h2 => .fa' 1 rfl rfl) <| zm rfl rfl (fun h2 => by rw [h2]; exact .Lp (us := [_, _]) rfl (Nat.le_of_ble_eq_true rfl) rfl) <| zm rfl rfl (fun h2 => .Lw rfl rfl) <| zm rfl rfl (fun h2 => by rw [h2]; exact .eqs rfl rfl (by repeat (first | exact EqC.nil | apply EqC.i | apply EqC.b | apply EqC.s))) ?_
   refine zy (.pickA rfl rfl rfl) <| zd <| zi rfl (fun h2 => ?_) (fun h2 => ?_)
   refine zs <| zc rfl <| zc rfl <| zd <| zr <| blockQ_r <| seqQ_r ?_
   rotate_left
   refine zs <| zw rfl rfl <| yD rfl rfl (.of .rf) (r7place_no _ (by first | assumption | omega | decide | exact rfl)) ?_
   refine zy (.cgeF rfl rfl (by decide)) <| zd <| zu rfl <| zs <| zfl rfl rfl rfl <| zc rfl <| zd <| zi rfl (fun h3 => ?_) (fun h3 => ?_)
   refine zs <| zw rfl rfl <| zf 0 rfl rfl <| yS rfl rfl rfl rfl rfl (Nat.le_of_ble_eq_true rfl) rfl <| JT.yA rfl (Ev.Lw rfl rfl) <| zf 1 rfl rfl <| yS rfl rfl rfl rfl rfl (Nat.le_of_ble_eq_true rfl) rfl <| zc rfl <| zc rfl <| zd <| zr <| blockQ_r ?_
   refine seqQ_r ?_
   rotate_left
   refine zs <| zfl rfl rfl rfl <| zc rfl <| zj rfl rfl rfl <| zd <| zi rfl (fun h4 => ?_) (fun h4 => ?_)
   refine zs <| zc rfl <| zc rfl <| zd <| zr <| blockQ_r <| seqQ_r ?_
   rotate_left
   refine zk <| zs <| zfl rfl rfl rfl <| zw rfl rfl <| JT.both ?_ ?_
   refine JT.b0 fun a49 => JT.both ?_ ?_
   (refine JT.A3 rfl rfl rfl (by decide) (by simp; omega) (fun a54 c54 hc54 => ?_))
   refine JT.yA rfl (Ev.Lw rfl rfl) <| JT.bsl1 (by repeat (first | exact Cells.nil | apply Cells.z | (apply Cells.cl; rfl; rfl; rfl))) (by simp only [List.length_cons, List.length_nil, Nat.reduceAdd]; rfl) (by decide) (by rfl) fun a56 => ?_
   (refine JT.A1 rfl rfl (by rfl) rfl (by decide) (by simp; omega) (fun a57 c57 hc57 => ?_))
   refine zc rfl <| zf 3 rfl rfl <| yS rfl rfl rfl rfl rfl (Nat.le_of_ble_eq_true rfl) rfl <| zd <| zs <| zc rfl <| zc rfl <| zd <| zr ?_
   rotate_left
   refine JT.bsl1 (by repeat (first | exact Cells.nil | apply Cells.z | (apply Cells.cl; rfl; rfl; rfl))) (by simp only [List.length_cons, List.length_nil, Nat.reduceAdd]; rfl) (by decide) (by rfl) fun a56 => ?_
   (refine JT.A3 rfl rfl rfl (by decide) (by simp; omega) (fun a54 c54 hc54 => ?_))
   refine JT.yA rfl (Ev.Lw rfl rfl) ?_
   (refine JT.A1 rfl rfl (by rfl) rfl (by decide) (by simp; omega) (fun a57 c57 hc57 => ?_))
   refine zc rfl <| zf 3 rfl rfl <| yS rfl rfl rfl rfl rfl (Nat.le_of_ble_eq_true rfl) rfl <| zd <| zs <| zc rfl <| zc rfl <| zd <| zr ?_
   rotate_left
   refine JT.bsl1 (by repeat (first | exact Cells.nil | apply Cells.z | (apply Cells.cl; rfl; rfl; rfl))) (by simp only [List.length_cons, List.length_nil, Nat.reduceAdd]; rfl) (by decide) (by rfl) fun a56 => ?_
   refine JT.b0 fun a49 => ?_
   (refine JT.A3 rfl rfl rfl (by decide) (by simp; omega) (fun a54 c54 hc54 => ?_))
   refine JT.yA rfl (Ev.Lw rfl rfl) ?_
   (refine JT.A1 rfl rfl (by rfl) rfl (by decide) (by simp; omega) (fun a57 c57 hc57 => ?_))
   refine zc rfl <| zf 3 rfl rfl <| yS rfl rfl rfl rfl rfl (Nat.le_of_ble_eq_true rfl) rfl <| zd <| zs <| zc rfl <| zc rfl <| zd <| zr ?_
   rotate_left
  rotate_left 7
  all_goals (unfold LS.ask; (repeat (first | rw [if_pos (by (first | assumption | omega | grind))] | rw [if_neg (by (first | assumption | omega | grind))])))
  focus
   refine yR (.t rfl (.t rfl .nil)) rfl (.of (RlockP.fold (.there .here) (.there .here) (.d .rf)))
  focus
   refine yR (.t rfl (.t rfl .nil)) rfl (.of (RlockP.fold (.there .here) (.there .here) (.d .rf)))
  focus
   refine yR (.t rfl (.t rfl .nil)) rfl (.of (RlockP.fold (.there .here) (.there .here) (.d .rf)))
  focus
   refine yR (.t rfl (.t rfl .nil)) rfl (.of (RlockP.fold (.there .here) (.there .here) (.d .rf)))
  focus
   refine yR (.t rfl (.t rfl .nil)) rfl (.of (RlockP.fold (.there .here) (.there .here) (.d .rf)))
  focus
   refine yR (.t rfl (.t rfl .nil)) rfl (.of (RlockP.fold .here (.there .here) (.d .rf)))
  focus
   refine yR (.t rfl (.t rfl .nil)) rfl (.of (RlockP.fold (.there .here) (.there .here) (.d .rf)))
  focus
   refine yR (.t rfl (.t rfl .nil)) rfl (.frz (.there .here) (.of (RlockP.fold (.there .here) .here (.d (.d (.d .rf))))))
  focus
   refine yR (.t rfl (.t rfl .nil)) rfl (.frz (.there .here) (.of (RlockP.fold (.there .here) .here (.d (.d (.d .rf))))))
  focus
   refine yR (.t rfl (.t rfl .nil)) rfl (.frz (.there .here) (.of (RlockP.fold (.there .here) .here (.d (.d (.d .rf))))))

theorem r7Free_fn (p : Nat) (s : LS) (o : Owner) (F : List Assn) (hS : s.w.length ≤ 8388608) : Meets Tryz.prog 159 [ptr p, ov o] (RlockP p s :: F) (Det (.tuple #[ov (s.free o).2.1, .bool (s.free o).2.2.1, i64 (s.free o).2.2.2]) (RlockP p (s.free o).1 :: F)) := by
  refine Meets.intro b159 k159 (by simp) ?_
  refine J.openRlock Has.here (fun T a c hC hL => ?_)
  focus
   refine zs <| yB rfl fun b3 => yN fun b4 => zc rfl <| zc rfl <| zw rfl rfl <| yD rfl rfl (.of .rf) (r7IsOwner_fn _ _) <| zc rfl <| zd <| zq <| zi rfl (fun h1 => ?_) (fun h1 => ?_)
   refine zs <| zg rfl <| yW rfl rfl rfl rfl rfl <| zc rfl <| zc rfl <| zd <| zr <| seqQ_r ?_
   rotate_left
   refine zk <| zs <| zfl rfl rfl rfl <| zc rfl <| zh rfl rfl (fun h2 => .fa' 1 rfl rfl) <| zh rfl rfl (fun h2 => by rw [h2]; exact .Lp (us := [_, _]) rfl (Nat.le_of_ble_eq_true rfl) rfl) <| zh rfl rfl (fun h2 => .Lw rfl rfl) <| zh rfl rfl (fun h2 => by rw [h2]; exact .eqs rfl rfl (by repeat (first | exact EqC.nil | apply EqC.i | apply EqC.b | apply EqC.s))) ?_
   refine zy (.pickO rfl rfl rfl) <| zd <| zq <| zi rfl (fun h2 => ?_) (fun h2 => ?_)
   refine zs <| zg rfl <| yW rfl rfl rfl rfl rfl <| zc rfl <| zc rfl <| zd <| zr <| seqQ_r ?_
   rotate_left
   refine zk <| zs <| zfl rfl rfl rfl <| zc rfl <| zj rfl rfl rfl <| zd <| zq <| zi rfl (fun h3 => ?_) (fun h3 => ?_)
   refine zs <| zg rfl <| zf 0 rfl rfl <| yS rfl rfl rfl rfl rfl (Nat.le_of_ble_eq_true rfl) rfl <| zf 1 rfl rfl <| yS rfl rfl rfl rfl rfl (Nat.le_of_ble_eq_true rfl) rfl <| zg rfl <| yW rfl rfl rfl rfl rfl <| zc rfl <| zc rfl <| zd <| zr ?_
   refine seqQ_r ?_
   rotate_left
   refine zk <| zs <| zfl rfl rfl rfl <| zy (.iC rfl rfl (by omega)) <| zy (.LE rfl (by omega)) <| zf 1 rfl rfl <| yS rfl rfl rfl rfl rfl (Nat.le_of_ble_eq_true rfl) rfl <| JT.b0 fun a49 => zfl rfl rfl rfl ?_
   ((refine JT.G rfl (.c rfl) .no .no (by decide) (by omega) (by omega) (by omega) (by omega) (fun a54 => ?_)); (try simp only [List.take_length, List.drop_zero, Nat.sub_zero]))
   (refine JT.A3 rfl rfl rfl (by decide) (by simp; omega) (fun a55 c55 hc55 => ?_))
   refine zf 3 rfl rfl <| yS rfl rfl rfl rfl rfl (Nat.le_of_ble_eq_true rfl) rfl <| zfw [_, _] rfl rfl rfl rfl <| yW rfl rfl rfl rfl rfl <| zc rfl <| zc rfl <| zd <| zr ?_
   rotate_left
  all_goals (unfold LS.free; (repeat (first | rw [if_pos (by (first | assumption | omega | grind))] | rw [if_neg (by (first | assumption | omega | grind))])))
  focus
   refine yR (.w rfl rfl (.t rfl (.t rfl .nil))) rfl (.of (RlockP.fold (.there (.there .here)) (.there (.there .here)) (.d (.d .rf))))
  focus
   refine yR (.w rfl rfl (.t rfl (.t rfl .nil))) rfl (.of (RlockP.fold (.there (.there .here)) (.there (.there .here)) (.d (.d .rf))))
  focus
   refine yR (.w rfl rfl (.t rfl (.t rfl .nil))) rfl (.of (RlockP.fold (.there .here) (.there (.there .here)) (.d (.d .rf))))
  focus
   refine yR (.w rfl rfl (.t rfl (.t rfl .nil))) rfl (.frz (.there (.there .here)) (.of (RlockP.fold (.there (.there .here)) .here (.d (.d (.d (.d .rf)))))))
end Go.Proofs.YtnipmjpdklbbcaaGreat
