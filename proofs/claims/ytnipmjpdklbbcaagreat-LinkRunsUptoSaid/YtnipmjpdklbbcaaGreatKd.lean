/- Layer 8, a peer's records: what the calls do. Conditions: none. -/
import Derived.Test.YtnipmjpdklbbcaaGreatKc
set_option linter.unusedSimpArgs false
set_option linter.unusedVariables false
set_option maxRecDepth 100000
set_option maxHeartbeats 2000000
namespace Go.Proofs.YtnipmjpdklbbcaaGreat
open Go Go.SL
attribute [local irreducible] pc rc SlT Me Mt It pt ro pur ex sep old Meets
attribute [local irreducible] LockP RecP RecsA LinksP LinksH

theorem lnPut_fn (b : Nat) (l : LK) (w : Vec) (x y : Ref) (o : Owner) (F : List Assn) : Meets Tryz.prog 70 [ptr b, vv w, rv x, rv y, ov o] (LinksP b l :: F) (Det (i64 (l.put w x y o).2) (LinksP b (l.put w x y o).1 :: F)) := by
  refine Meets.intro b70 k70 (by simp) ?_
  unfold LK.put
  focus
   refine zs <| yB rfl fun b6 => yB rfl fun b7 => yB rfl fun b8 => yB rfl fun b9 => zc rfl <| zd <| zq <| zb <| zs <| yD rfl rfl (.of (.t4 .rf)) (lnIs_P _ _ _) <| zc rfl ?_
   refine zd <| zu rfl <| zs <| yD rfl rfl (.of (.t0 .rf)) (lnEnd_P _ _ _) <| zn rfl (fun h1 => ?_) (fun h1 => ?_)
   refine zw rfl rfl <| yF rfl (by assumption) <| yD rfl rfl (.of (.t0 .rf)) (lnMay_P _ _ _ _) <| yF rfl (by assumption) <| zc rfl <| zy (.pickFp rfl (by assumption) rfl) <| zd <| zi rfl (fun h2 => ?_) (fun h2 => ?_)
   refine zs <| zc rfl <| zd <| zr <| blockQ_r <| seqQ_r ?_
   rotate_left
   refine zs <| zf 5 rfl rfl ?_
   rotate_left
   refine yFs rfl (by assumption) <| yFs rfl (by assumption) <| zy (.pickTp rfl (by assumption) rfl) <| zd <| zt rfl <| zs <| zc rfl <| zd <| zr <| blockQ_r <| seqQ_r ?_
   rotate_left
  · (repeat (first | rw [if_pos (by (first | assumption | omega | grind))] | rw [if_neg (by (first | assumption | omega | grind))]))
    focus
     refine yR (.t rfl .nil) rfl (.of (.t0 (.d (.d (.d (.d .rf))))))
  · refine JT.openLinks (b := b) (l := l) (by (repeat (first | exact Has.here | assumption | apply Has.there))) (fun T mb g hg => ?_)
    have hkk := er_alk g w
    rw [hg] at hkk
    focus
     refine zl rfl rfl <| zw rfl rfl <| JT.lk1 rfl (by rfl) (fun v32 h3 => ?_) (fun h3 => ?_)
     refine zc rfl <| zd <| zi rfl (fun h4 => ?_) (fun h4 => ?_)
     refine zs <| zc rfl <| zd <| zr <| blockQ_r <| seqQ_r ?_
     rotate_left
     contradiction
     refine zc rfl <| zd <| zu rfl <| zs <| zw rfl rfl <| yD rfl rfl (.of (LinksP.fold .here .here .here (by first | assumption | omega | rfl | decide) .rf)) (lnToLeft_P _ _ _ _) ?_
     refine zc rfl <| zn rfl (fun h4 => ?_) (fun h4 => ?_)
     refine zw rfl rfl <| yF rfl (by assumption) <| yD rfl rfl (.of (.t0 .rf)) (lnToRight_P _ _ _ _) <| yF rfl (by assumption) <| zc rfl <| zy (.pickFp rfl (by assumption) rfl) <| zd <| zi rfl (fun h5 => ?_) (fun h5 => ?_)
     refine zs <| zc rfl <| zd <| zr <| blockQ_r <| seqQ_r ?_
     rotate_left
     refine zk <| zs <| zw rfl rfl <| yD rfl rfl (.of .rf) (lkCheck_fn _ _) <| zj rfl rfl rfl <| zd <| zq <| zi rfl (fun h6 => ?_) (fun h6 => ?_)
     refine zs <| zc rfl <| zd <| zr <| seqQ_r ?_
     rotate_left
     refine zk <| zs <| zw rfl rfl <| zw rfl rfl <| yE rfl rfl (.of .rf) (lkNew_fn _) fun x52 _ => JT.yA rfl (Ev.Lw rfl rfl) <| JT.yA rfl (Ev.Lw rfl rfl) <| zg rfl <| yB rfl fun b54 => zfl rfl rfl rfl <| zw rfl rfl <| yD rfl rfl (.of (.t1 .rf)) (lkAsk_fn _ _ _ _) ?_
     refine zf 5 rfl rfl ?_
     rotate_left
     refine yFs rfl (by assumption) <| yFs rfl (by assumption) <| zy (.pickTp rfl (by assumption) rfl) <| zd <| zt rfl <| zs <| zc rfl <| zd <| zr <| blockQ_r <| seqQ_r ?_
     rotate_left
    · rw [h3] at hkk
      have : (alk l.m w).isSome = true := by rw [hkk]; rfl
      (repeat (first | rw [if_pos (by (first | assumption | omega | grind))] | rw [if_neg (by (first | assumption | omega | grind))]))
      focus
       refine yR (.t rfl .nil) rfl (.of (LinksP.fold .here .here .here (by first | assumption | omega | rfl | decide) (.d (.d (.d (.d .rf))))))
    all_goals (rw [h3] at hkk; have hs : ¬ (alk l.m w).isSome = true := by rw [hkk]; simp)
    · (repeat (first | rw [if_pos (by (first | assumption | omega | grind))] | rw [if_neg (by (first | assumption | omega | grind))]))
      focus
       refine yR (.t rfl .nil) rfl (.of (.t0 (.d (.d (.d (.d .rf))))))
    · have hc : ckE o = 70 := if_neg h6
      simp only [hc]
      (repeat (first | rw [if_pos (by (first | assumption | omega | grind))] | rw [if_neg (by (first | assumption | omega | grind))]))
      focus
       refine yR (.t rfl .nil) rfl (.of (.t0 (.d (.d (.d (.d .rf))))))
    · refine JT.openLinks (b := b) (l := l) (by (repeat (first | exact Has.here | assumption | apply Has.there))) (fun T2 mb2 g2 hg2 => ?_)
      have hk2 := er_alk g2 w
      rw [hg2, hkk] at hk2
      have hk2' : alk g2 w = none := by simpa using hk2.symm
      have hn := alk_none_aix hk2'
      have hc : ckE o = 0 := if_pos h6
      focus
       refine zl rfl rfl <| zw rfl rfl ?_
      refine JT.mu (v := (b54, (⟨x, y, (LS.new.ask o).1⟩ : RecA))) rfl (by rfl) rfl ?_
      have e : aput g2 w (b54, (⟨x, y, (LS.new.ask o).1⟩ : RecA)) = g2 ++ [(w, (b54, ⟨x, y, (LS.new.ask o).1⟩))] := by unfold aput; rw [hn]
      rw [e]
      have he := er_snoc g2 w (b54, ⟨x, y, (LS.new.ask o).1⟩) l hg2 hn
      focus
       refine zc rfl <| zd <| zr ?_
      refine retQ_up (Up.of (RecP.fold (p := b54) (a := ⟨x, y, (LS.new.ask o).1⟩) (by (repeat (first | exact Has.here | assumption | apply Has.there))) (by (repeat (first | exact Has.here | assumption | apply Has.there))) (Imp.refl _))) ?_
      refine retQ_up (Up.of (Imp.trans (Imp.take (c := RecP b54 ⟨x, y, (LS.new.ask o).1⟩) (by (repeat (first | exact Has.here | assumption | apply Has.there))) (Imp.take (c := RecsA g2) (by (repeat (first | exact Has.here | assumption | apply Has.there))) (Imp.refl _))) (RecsA.snoc (w := w)))) ?_
      simp only [hc]
      (repeat (first | rw [if_pos (by (first | assumption | omega | grind))] | rw [if_neg (by (first | assumption | omega | grind))]))
      focus
       refine yR (.t rfl .nil) rfl (.of (LinksP.fold (.there (.there .here)) (.there .here) .here (by first | assumption | omega | rfl | decide) (.d (.d (.d (.d .rf))))))
    · (repeat (first | rw [if_pos (by (first | assumption | omega | grind))] | rw [if_neg (by (first | assumption | omega | grind))]))
      focus
       refine yR (.t rfl .nil) rfl (.of (.t0 (.d (.d (.d (.d .rf))))))
  · (repeat (first | rw [if_pos (by (first | assumption | omega | grind))] | rw [if_neg (by (first | assumption | omega | grind))]))
    focus
     refine yR (.t rfl .nil) rfl (.of (.t0 (.d (.d (.d (.d .rf))))))
theorem lnOut_no (b : Nat) (l : LK) (w : Vec) (o : Owner) (F : List Assn) (h : l.ownE w o false ≠ 0) : Meets Tryz.prog 75 [ptr b, vv w, ov o] (LinksP b l :: F) (Det (.tuple #[.slice none 0 0, i64 (l.ownE w o false)]) (LinksP b (l.touch w) :: F)) := by
  refine Meets.intro b75 k75 (by simp) ?_
  focus
   refine zs <| yB rfl fun b4 => yB rfl fun b5 => zc rfl <| zc rfl <| zw rfl rfl <| zw rfl rfl <| yD rfl rfl (.of (.t2 .rf)) (lnOwned_none _ _ _ _ _ _ (by assumption)) <| zc rfl <| zc rfl <| zc rfl <| zc rfl ?_
   refine zy (.cneT rfl rfl (by omega)) <| zd <| zq <| zt rfl <| zs <| zc rfl <| zc rfl <| zd <| zr <| yR (.t rfl (.t rfl .nil)) rfl (.of (.t0 (.d (.d .rf))))
theorem lnOut_ok (b : Nat) (l : LK) (w : Vec) (o : Owner) (F : List Assn) (a : RecA) (ha : l.rec? w = some a) (h : l.ownE w o false = 0) (hS : a.lk.w.length ≤ 8388608) : Meets Tryz.prog 75 [ptr b, vv w, ov o] (LinksP b l :: F)
    (Some' (fun _ : Option Addr × Nat => True) (fun x => .tuple #[.slice x.1 a.lk.w.length x.2, i64 0]) (fun x => SlT false ownerC 2 (.slice x.1 a.lk.w.length x.2) x.2 a.lk.w :: LinksP b ((l.touch w).del w) :: F)) := by
  refine Meets.intro b75 k75 (by simp) ?_
  focus
   refine zs <| yB rfl fun b4 => yB rfl fun b5 => zc rfl <| zc rfl <| zw rfl rfl <| zw rfl rfl <| yE rfl rfl (.of (.t2 .rf)) (lnOwned_some _ _ _ _ _ _ _ (by first | assumption | omega | decide | exact rfl) (by assumption)) fun x14 _ => ?_
   refine zc rfl <| zc rfl <| zc rfl <| zc rfl <| zy (.cneF rfl rfl (by decide)) <| zd <| zq <| zu rfl <| zk <| zs <| zf 5 rfl rfl ?_
  refine JT.openLinksH (b := b) (l := l.touch w) (w := w) (p := x14) (by (repeat (first | exact Has.here | assumption | apply Has.there))) (fun T mb g i he hi hp => ?_)
  obtain ⟨a0, hg⟩ := hp
  have hd : adel g w = g.eraseIdx i := by unfold adel; rw [hi]
  have he' : GM.er (g.eraseIdx i) = ((l.touch w).del w).m := by rw [← hd, er_del, he]; rfl
  focus
   refine zl rfl rfl <| zw rfl rfl <| JT.dl rfl (by rfl) ?_
   refine zf 10 rfl rfl ?_
  rw [hd]
  refine JT.openRec (p := x14) (a := a) (by (repeat (first | exact Has.here | assumption | apply Has.there))) (fun T2 lb => ?_)
  focus
   refine zl rfl rfl <| yE rfl rfl (.of (.t1 .rf)) (lkEnd_fn _ _ _ (by assumption)) fun ⟨a29, c29⟩ _ => zc rfl <| zc rfl <| zc rfl <| zc rfl <| zd <| zr <| yQ ⟨_, _⟩ (.t rfl (.t rfl .nil)) trivial rfl (.of (.t0 (LinksP.fold (.there (.there (.there .here))) (.there (.there .here)) (.there (.there .here)) (by first | assumption | omega | rfl | decide) (.d (.d (.d (.d .rf)))))))
theorem lnLeft_fn (b : Nat) (l : LK) (w : Vec) (x : Ref) (F : List Assn) : Meets Tryz.prog 91 [ptr b, vv w, rv x] (LinksP b l :: F) (Det (i64 (l.left w x).2) (LinksP b (l.left w x).1 :: F)) := by
  refine Meets.intro b91 k91 (by simp) ?_
  unfold LK.left
  cases hr : l.rec? w with
  | none =>
    simp only [(rec?_none hr).2.2]
    focus
     refine zs <| yB rfl fun b4 => yB rfl fun b5 => zc rfl <| yD rfl rfl (.of (.t2 .rf)) (lnIs_P _ _ _) <| zc rfl <| zd <| zq <| zu rfl <| zk <| zs <| zw rfl rfl ?_
     refine yD rfl rfl (.of (.t0 .rf)) (lnIn_none _ _ _ _ (by assumption)) <| zd <| zq <| zb <| zs <| zc rfl <| zd <| zt rfl <| zs <| zc rfl <| zd <| zr ?_
     refine yR (.t rfl .nil) rfl (.of (.t0 (.d (.d .rf))))
  | some a =>
    simp only
    focus
     refine zs <| yB rfl fun b4 => yB rfl fun b5 => zc rfl <| yD rfl rfl (.of (.t2 .rf)) (lnIs_P _ _ _) <| zc rfl <| zd <| zq <| zu rfl <| zk <| zs <| zw rfl rfl ?_
     refine yE rfl rfl (.of (.t0 .rf)) (lnIn_some _ _ _ _ _ (by first | assumption | omega | decide | exact rfl)) fun x7 _ => ?_
     refine zd <| zq <| zb <| zs <| zc rfl <| zd <| zu rfl <| zs <| zw rfl rfl <| yD rfl rfl (.of (.t1 .rf)) (lnToLeft_H _ _ _ _ _ _) <| zc rfl <| zd ?_
     refine zi rfl (fun h1 => ?_) (fun h1 => ?_)
     refine zs <| zc rfl <| zd <| zr <| blockQ_r <| seqQ_r ?_
     rotate_left
     refine zk <| zs <| zw rfl rfl <| zf 0 rfl rfl ?_
     rotate_left
    · refine retQ_up (LinksH.up (by (repeat (first | exact Has.here | assumption | apply Has.there))) (by (repeat (first | exact Has.here | assumption | apply Has.there))) (touch_upd hr)) ?_
      (repeat (first | rw [if_pos (by (first | assumption | omega | grind))] | rw [if_neg (by (first | assumption | omega | grind))]))
      focus
       refine yR (.t rfl .nil) rfl (.of (.t0 (.d (.d .rf))))
    · refine JT.openRec (p := x7) (a := a) (by (repeat (first | exact Has.here | assumption | apply Has.there))) (fun T lb => ?_)
      focus
       refine yS rfl rfl rfl rfl rfl (Nat.le_of_ble_eq_true rfl) rfl <| zc rfl <| zd <| zr ?_
      (repeat (first | rw [if_pos (by (first | assumption | omega | grind))] | rw [if_neg (by (first | assumption | omega | grind))]))
      refine retQ_up (Up.of (RecP.fold (p := x7) (a := { a with left := x }) (by (repeat (first | exact Has.here | assumption | apply Has.there))) (by (repeat (first | exact Has.here | assumption | apply Has.there))) (Imp.refl _))) ?_
      refine retQ_up (LinksH.up (by (repeat (first | exact Has.here | assumption | apply Has.there))) (by (repeat (first | exact Has.here | assumption | apply Has.there))) rfl) ?_
      focus
       refine yR (.t rfl .nil) rfl (.of (.t0 (.d (.d .rf))))
theorem lnRight_fn (b : Nat) (l : LK) (w : Vec) (x : Ref) (o : Owner) (F : List Assn) : Meets Tryz.prog 73 [ptr b, vv w, rv x, ov o] (LinksP b l :: F) (Det (i64 (l.right w x o).2) (LinksP b (l.right w x o).1 :: F)) := by
  refine Meets.intro b73 k73 (by simp) ?_
  unfold LK.right
  cases hr : l.rec? w with
  | none =>
    have h : l.ownE w o true ≠ 0 := by unfold LK.ownE; rw [hr]; simp
    focus
     refine zs <| yB rfl fun b5 => yB rfl fun b6 => yB rfl fun b7 => zc rfl <| zw rfl rfl <| zw rfl rfl <| yD rfl rfl (.of (.t3 .rf)) (lnOwned_none _ _ _ _ _ _ (by assumption)) <| zc rfl <| zc rfl <| zc rfl <| zc rfl ?_
     refine zy (.cneT rfl rfl (by omega)) <| zd <| zq <| zt rfl <| zs <| zc rfl <| zd <| zr <| yR (.t rfl .nil) rfl (.of (.t0 (.d (.d (.d .rf)))))
  | some a =>
    simp only
    by_cases h : l.ownE w o true = 0
    · focus
       refine zs <| yB rfl fun b5 => yB rfl fun b6 => yB rfl fun b7 => zc rfl <| zw rfl rfl <| zw rfl rfl <| yE rfl rfl (.of (.t3 .rf)) (lnOwned_some _ _ _ _ _ _ _ (by first | assumption | omega | decide | exact rfl) (by assumption)) fun x15 _ => ?_
       refine zc rfl <| zc rfl <| zc rfl <| zc rfl <| zy (.cneF rfl rfl (by decide)) <| zd <| zq <| zu rfl <| zk <| zs <| zw rfl rfl <| yD rfl rfl (.of (.t1 .rf)) (lnToRight_H _ _ _ _ _ _) ?_
       refine zc rfl <| zd <| zq <| zi rfl (fun h1 => ?_) (fun h1 => ?_)
       refine zs <| zc rfl <| zd <| zr <| seqQ_r ?_
       rotate_left
       refine zk <| zs <| zw rfl rfl <| zf 5 rfl rfl ?_
       rotate_left
      · refine retQ_up (LinksH.up (by (repeat (first | exact Has.here | assumption | apply Has.there))) (by (repeat (first | exact Has.here | assumption | apply Has.there))) (touch_upd hr)) ?_
        (repeat (first | rw [if_pos (by (first | assumption | omega | grind))] | rw [if_neg (by (first | assumption | omega | grind))]))
        focus
         refine yR (.t rfl .nil) rfl (.of (.t0 (.d (.d (.d .rf)))))
      · refine JT.openRec (p := x15) (a := a) (by (repeat (first | exact Has.here | assumption | apply Has.there))) (fun T lb => ?_)
        focus
         refine yS rfl rfl rfl rfl rfl (Nat.le_of_ble_eq_true rfl) rfl <| zc rfl <| zd <| zr ?_
        (repeat (first | rw [if_pos (by (first | assumption | omega | grind))] | rw [if_neg (by (first | assumption | omega | grind))]))
        refine retQ_up (Up.of (RecP.fold (p := x15) (a := { a with right := x }) (by (repeat (first | exact Has.here | assumption | apply Has.there))) (by (repeat (first | exact Has.here | assumption | apply Has.there))) (Imp.refl _))) ?_
        refine retQ_up (LinksH.up (by (repeat (first | exact Has.here | assumption | apply Has.there))) (by (repeat (first | exact Has.here | assumption | apply Has.there))) rfl) ?_
        focus
         refine yR (.t rfl .nil) rfl (.of (.t0 (.d (.d (.d .rf)))))
    · (repeat (first | rw [if_pos (by (first | assumption | omega | grind))] | rw [if_neg (by (first | assumption | omega | grind))]))
      focus
       refine zs <| yB rfl fun b5 => yB rfl fun b6 => yB rfl fun b7 => zc rfl <| zw rfl rfl <| zw rfl rfl <| yD rfl rfl (.of (.t3 .rf)) (lnOwned_none _ _ _ _ _ _ (by assumption)) <| zc rfl <| zc rfl <| zc rfl <| zc rfl ?_
       refine zy (.cneT rfl rfl (by omega)) <| zd <| zq <| zt rfl <| zs <| zc rfl <| zd <| zr <| yR (.t rfl .nil) rfl (.of (.t0 (.d (.d (.d .rf)))))
theorem lnLock_fn (b : Nat) (l : LK) (w : Vec) (o : Owner) (F : List Assn) : Meets Tryz.prog 74 [ptr b, vv w, ov o] (LinksP b l :: F) (Det (.tuple #[.bool (l.lock w o).2.1, i64 (l.lock w o).2.2]) (LinksP b (l.lock w o).1 :: F)) := by
  refine Meets.intro b74 k74 (by simp) ?_
  unfold LK.lock
  cases hr : l.rec? w with
  | none =>
    simp only [(rec?_none hr).2.2]
    focus
     refine zs <| yB rfl fun b4 => yB rfl fun b5 => zc rfl <| zc rfl <| yD rfl rfl (.of (.t2 .rf)) (lnIs_P _ _ _) <| zc rfl <| zd <| zq <| zu rfl <| zk <| zs ?_
     refine zw rfl rfl <| yD rfl rfl (.of (.t0 .rf)) (lnIn_none _ _ _ _ (by assumption)) <| zc rfl <| zd <| zq <| zt rfl <| zs <| zc rfl <| zc rfl <| zd <| zr <| yR (.t rfl (.t rfl .nil)) rfl (.of (.t0 (.d (.d .rf))))
  | some a =>
    simp only
    focus
     refine zs <| yB rfl fun b4 => yB rfl fun b5 => zc rfl <| zc rfl <| yD rfl rfl (.of (.t2 .rf)) (lnIs_P _ _ _) <| zc rfl <| zd <| zq <| zu rfl <| zk <| zs ?_
     refine zw rfl rfl <| yE rfl rfl (.of (.t0 .rf)) (lnIn_some _ _ _ _ _ (by first | assumption | omega | decide | exact rfl)) fun x8 _ => ?_
     refine zc rfl <| zd <| zq <| zu rfl <| zk <| zs <| zf 10 rfl rfl ?_
    refine JT.openRec (p := x8) (a := a) (by (repeat (first | exact Has.here | assumption | apply Has.there))) (fun T lb => ?_)
    focus
     refine zl rfl rfl <| zw rfl rfl <| yD rfl rfl (.of (.t1 .rf)) (lkAsk_fn _ _ _ _) <| zc rfl <| zc rfl <| zc rfl <| zc rfl <| zd <| zr ?_
    refine retQ_up (Up.of (RecP.fold (p := x8) (a := { a with lk := (a.lk.ask o).1 }) (by (repeat (first | exact Has.here | assumption | apply Has.there))) (by (repeat (first | exact Has.here | assumption | apply Has.there))) (Imp.refl _))) ?_
    refine retQ_up (LinksH.up (by (repeat (first | exact Has.here | assumption | apply Has.there))) (by (repeat (first | exact Has.here | assumption | apply Has.there))) rfl) ?_
    focus
     refine yR (.t rfl (.t rfl .nil)) rfl (.of (.t0 (.d (.d .rf))))
theorem lnFree_fn (b : Nat) (l : LK) (w : Vec) (o : Owner) (F : List Assn) : Meets Tryz.prog 95 [ptr b, vv w, ov o] (LinksP b l :: F) (Det (.tuple #[ov (l.free w o).2.1, .bool (l.free w o).2.2.1, i64 (l.free w o).2.2.2]) (LinksP b (l.free w o).1 :: F)) := by
  refine Meets.intro b95 k95 (by simp) ?_
  unfold LK.free
  cases hr : l.rec? w with
  | none =>
    simp only [(rec?_none hr).2.2]
    focus
     refine zs <| yB rfl fun b4 => yB rfl fun b5 => yN fun b6 => zc rfl <| zc rfl <| yD rfl rfl (.of (.t3 .rf)) (lnIs_P _ _ _) <| zc rfl <| zd <| zq <| zu rfl <| zk ?_
     refine zs <| zw rfl rfl <| yD rfl rfl (.of (.t0 .rf)) (lnIn_none _ _ _ _ (by assumption)) <| zc rfl <| zd <| zq <| zt rfl <| zs <| zg rfl <| yW rfl rfl rfl rfl rfl <| zc rfl <| zc rfl ?_
     refine zd <| zr <| yR (.w rfl rfl (.t rfl (.t rfl .nil))) rfl (.of (.t1 (.d (.d (.d .rf)))))
  | some a =>
    simp only
    focus
     refine zs <| yB rfl fun b4 => yB rfl fun b5 => yN fun b6 => zc rfl <| zc rfl <| yD rfl rfl (.of (.t3 .rf)) (lnIs_P _ _ _) <| zc rfl <| zd <| zq <| zu rfl <| zk ?_
     refine zs <| zw rfl rfl <| yE rfl rfl (.of (.t0 .rf)) (lnIn_some _ _ _ _ _ (by first | assumption | omega | decide | exact rfl)) fun x9 _ => ?_
     refine zc rfl <| zd <| zq <| zu rfl <| zk <| zs <| zf 10 rfl rfl ?_
    refine JT.openRec (p := x9) (a := a) (by (repeat (first | exact Has.here | assumption | apply Has.there))) (fun T lb => ?_)
    focus
     refine zl rfl rfl <| zw rfl rfl <| yD rfl rfl (.of (.t1 .rf)) (lkFree_fn _ _ _ _) <| zc rfl <| zc rfl <| zc rfl <| yW rfl rfl rfl rfl rfl <| zc rfl <| zc rfl <| zd <| zr ?_
    refine retQ_up (Up.of (RecP.fold (p := x9) (a := { a with lk := (a.lk.free o).1 }) (by (repeat (first | exact Has.here | assumption | apply Has.there))) (by (repeat (first | exact Has.here | assumption | apply Has.there))) (Imp.refl _))) ?_
    refine retQ_up (LinksH.up (by (repeat (first | exact Has.here | assumption | apply Has.there))) (by (repeat (first | exact Has.here | assumption | apply Has.there))) rfl) ?_
    focus
     refine yR (.w rfl rfl (.t rfl (.t rfl .nil))) rfl (.of (.t0 (.d (.d (.d .rf)))))
end Go.Proofs.YtnipmjpdklbbcaaGreat
