/- Layer 8: the reference's sameness; plays of calls. Conditions: none. -/
import Derived.Test.YtnipmjpdklbbcaaBm
import Derived.Test.YtnipmjpdklbbcaaKe
import Derived.Test.YtnipmjpdklbbcaaKg
set_option linter.unusedSimpArgs false
set_option linter.unusedVariables false
set_option maxRecDepth 100000
set_option maxHeartbeats 2000000
namespace Go.Proofs.Ytnipmjpdklbbcaa
open Go Go.SL
attribute [local irreducible] pc rc SlT Me Mt It pt ro pur ex sep old Meets
attribute [local irreducible] LockP RecP RecsA LinksP LinksH

































theorem lnOut_fn (b : Nat) (l : LK) (w : Vec) (o : Owner) (F : List Assn) (hl : l.Inv) : Meets Try.prog 74 [ptr b, vv w, ov o] (LinksP b l :: F)
    (Some' (fun _ : Option Addr × Nat => True) (fun x => .tuple #[.slice x.1 (l.out w o).2.1.length x.2, i64 (l.out w o).2.2]) (fun x => SlT false ownerC 2 (.slice x.1 (l.out w o).2.1.length x.2) x.2 (l.out w o).2.1 :: LinksP b (l.out w o).1 :: F)) := by
  unfold LK.out
  cases e : l.rec? w with
  | none =>
    have h : l.ownE w o false ≠ 0 := by unfold LK.ownE; rw [e]; simp
    refine (lnOut_no b l w o F h).post ?_
    rintro v cs' ⟨rfl, rfl⟩
    exact ⟨_, Up.nilS (enc := ownerC) (sz := 2) false (by decide) (Up.refl _), (none, 0), trivial, rfl, rfl⟩
  | some a =>
    simp only
    by_cases h : l.ownE w o false = 0
    · rw [if_pos h]; exact lnOut_ok b l w o F a e h (Nat.le_trans (hl.at_ e).le (by decide))
    · rw [if_neg h]
      refine (lnOut_no b l w o F h).post ?_
      rintro v cs' ⟨rfl, rfl⟩
      exact ⟨_, Up.nilS (enc := ownerC) (sz := 2) false (by decide) (Up.refl _), (none, 0), trivial, rfl, rfl⟩

theorem lnGet_I (b : Nat) (l : LK) (w : Vec) (F : List Assn) (hl : l.Inv) : Meets Try.prog 72 [ptr b, vv w] (LinksP b l :: F)
    (Some' (fun _ : Option Addr × Nat => True) (fun x => .tuple #[rsv (l.getS w) x.1 x.2, .bool (l.getB w)]) (fun x => SlT false ownerC 2 (.slice x.1 (l.getS w).waits.length x.2) x.2 (l.getS w).waits :: LinksP b (l.touch w) :: F)) :=
  lnGet_fn b l w F fun a h => Nat.le_trans (hl.at_ h).le (by decide)

theorem l08do_fn (b : Nat) (l : LK) (x : KOp) (F : List Assn) (hl : l.Inv) : Meets Try.prog 75 [ptr b, kov x] (LinksP b l :: F) (Det (i64 (l.act x).2) (LinksP b (l.act x).1 :: F)) := by
  refine Meets.intro b75 k75 (by simp) ?_
  unfold LK.act
  focus
   refine zs <| yB rfl fun b3 => zc rfl <| zc rfl <| zfl rfl rfl rfl <| zd <| zq <| zb <| zs <| zj rfl rfl rfl <| zd <| zi rfl (fun h1 => ?_) (fun h1 => ?_)
   refine zo <| zfw [_, _] rfl rfl rfl rfl <| zfw [_, _, _, _, _] rfl rfl rfl rfl <| zfw [_, _, _, _, _] rfl rfl rfl rfl <| zfw [_, _] rfl rfl rfl rfl <| yD rfl rfl (.of (.t1 .rf)) (lnPut_fn _ _ _ _ _ _ _) <| zd <| zs <| zc rfl <| zd <| zr ?_
   rotate_left
   refine zs <| zj rfl rfl rfl <| zd <| zi rfl (fun h2 => ?_) (fun h2 => ?_)
   refine zo <| zfw [_, _] rfl rfl rfl rfl <| zfw [_, _] rfl rfl rfl rfl <| yE rfl rfl (.of (.t1 .rf)) (lnOut_fn _ _ _ _ _ (by assumption)) fun ⟨a28, c28⟩ _ => zc rfl <| zc rfl <| zd <| zs <| zc rfl <| zd <| zr ?_
   rotate_left
   refine zs <| zj rfl rfl rfl <| zd <| zi rfl (fun h3 => ?_) (fun h3 => ?_)
   refine zo <| zfw [_, _] rfl rfl rfl rfl <| zfw [_, _, _, _, _] rfl rfl rfl rfl <| yD rfl rfl (.of (.t1 .rf)) (lnLeft_fn _ _ _ _ _) <| zd <| zs <| zc rfl <| zd <| zr ?_
   rotate_left
   refine zs <| zj rfl rfl rfl <| zd <| zi rfl (fun h4 => ?_) (fun h4 => ?_)
   refine zo <| zfw [_, _] rfl rfl rfl rfl <| zfw [_, _, _, _, _] rfl rfl rfl rfl <| zfw [_, _] rfl rfl rfl rfl <| yD rfl rfl (.of (.t1 .rf)) (lnRight_fn _ _ _ _ _ _) <| zd <| zs <| zc rfl <| zd <| zr ?_
   rotate_left
   refine zs <| zj rfl rfl rfl <| zd <| zi rfl (fun h5 => ?_) (fun h5 => ?_)
   refine zo <| zfw [_, _] rfl rfl rfl rfl <| zfw [_, _] rfl rfl rfl rfl <| yD rfl rfl (.of (.t1 .rf)) (lnLock_fn _ _ _ _ _) <| zc rfl <| zc rfl <| zd <| zs <| zc rfl <| zd <| zr ?_
   rotate_left
   refine zs <| zj rfl rfl rfl <| zd <| zi rfl (fun h6 => ?_) (fun h6 => ?_)
   refine zo <| zfw [_, _] rfl rfl rfl rfl <| zfw [_, _] rfl rfl rfl rfl <| yD rfl rfl (.of (.t1 .rf)) (lnFree_fn _ _ _ _ _) <| zc rfl <| zc rfl <| zc rfl <| zd <| zs <| zc rfl <| zd <| zr ?_
   rotate_left
   refine zk <| zs <| zc rfl <| zd <| zr ?_
   rotate_left
  all_goals (repeat (first | rw [if_pos (by (first | assumption | omega | grind))] | rw [if_neg (by (first | assumption | omega | grind))]))
  focus
   refine yR (.t rfl .nil) rfl (.of (.t0 (.d .rf)))
  focus
   refine yR (.t rfl .nil) rfl (.of (.t1 (.d (.d .rf))))
  focus
   refine yR (.t rfl .nil) rfl (.of (.t0 (.d .rf)))
  focus
   refine yR (.t rfl .nil) rfl (.of (.t0 (.d .rf)))
  focus
   refine yR (.t rfl .nil) rfl (.of (.t0 (.d .rf)))
  focus
   refine yR (.t rfl .nil) rfl (.of (.t0 (.d .rf)))
  focus
   refine yR (.t rfl .nil) rfl (.of (.t1 (.d .rf)))

instance : TE 135 KOp kopC 15 := ⟨kopC_one, by decide⟩
theorem l08play_no {a1 : Option Addr} {c1 : Nat} {xs : List KOp} (me : Ref) {F : List Assn} [Hs : HS F (.slice a1 xs.length c1) KOp kopC 15 c1 xs] (h : ¬ (keyOk me.key ∧ vecOk me.vec)) :
    Meets Try.prog 31 [rv me, .slice a1 xs.length c1] F (Det (.pointer none) F) := by
  refine Meets.intro b31 k31 (by simp) ?_
  focus
   refine zs <| yB rfl fun b2 => zc rfl <| zw rfl rfl <| yD rfl rfl (.of .rf) (lnNew_no _ _ (by assumption)) <| zc rfl <| zc rfl <| zc rfl <| zy (.cneT rfl rfl (by decide)) <| zd <| zq <| zt rfl ?_
   refine zs <| zc rfl <| zd <| zr <| yR (.t rfl .nil) rfl (.of (.d .rf))
theorem l08play_ok {a1 : Option Addr} {c1 : Nat} {xs : List KOp} (me : Ref) {F : List Assn} [Hs : HS F (.slice a1 xs.length c1) KOp kopC 15 c1 xs] (h1 : keyOk me.key) (h2 : vecOk me.vec) :
    Meets Try.prog 31 [rv me, .slice a1 xs.length c1] F (Some' (fun _ : Nat => True) (fun b => ptr b) (fun b => LinksP b (LK.run me xs (min xs.length 60)) :: F)) := by
  refine Meets.intro b31 k31 (by simp) ?_
  refine J.sl Hs (fun hC hL _ => ?_)
  focus
   refine zs <| yB rfl fun b2 => zc rfl <| zw rfl rfl <| yE rfl rfl (.of .rf) (lnNew_ok _ _ (by assumption) (by assumption)) fun x10 _ => zc rfl <| zc rfl <| zc rfl <| zy (.cneF rfl rfl (by decide)) <| zd <| zq <| zu rfl ?_
   refine zk <| zs <| zc rfl <| zd <| zq <| zb ?_
  refine J.lp (ι := Nat) (fun k => k ≤ xs.length ∧ k ≤ 60) (fun k => [(7, i64 k)]) (fun k => LinksP x10 (LK.run me xs k) :: F) (fun k => xs.length - k) 0 ⟨by omega, by omega⟩ (by exact subxR rfl) (Up.of (Imp.take (by (repeat (first | exact Has.here | assumption | apply Has.there))) (Imp.dropT (Imp.refl _)))) (fun k hk => ?_)
  obtain ⟨hk, hk2⟩ := hk
  have I := LK.run_inv me xs k hk
  focus
   refine zs <| zc rfl <| zj rfl rfl rfl <| zm rfl rfl (fun h3 => .int rfl rfl rfl) <| zy (.pickA rfl rfl rfl) <| zd <| zq <| zi rfl (fun h3 => ?_) (fun h3 => ?_)
   refine zk <| zq <| zb <| zo <| zy (.iC rfl rfl (by omega)) <| zy (.LE rfl (by omega)) <| yD rfl rfl (.of (.t0 .rf)) (l08do_fn _ _ _ _ (by assumption)) <| zd <| zo <| zy (.addN rfl rfl (by omega)) <| zd <| seqQ_n ?_
   rotate_left
   refine zx <| zs <| zc rfl <| zd <| zr ?_
   rotate_left
  · rw [← LK.run_succ (by omega)]
    focus
     refine ⟨_, ?_, (by omega), (subxR rfl), (.of (.t0 .rf))⟩
     omega
  · rw [show min xs.length 60 = k by omega]
    focus
     refine yQ _ (.t rfl .nil) trivial rfl (.of (.t0 .rf))



















end Go.Proofs.Ytnipmjpdklbbcaa
