/- Layer 9: a peer: a list's lock is asked for. Conditions: none. -/
import Derived.Test.YtmeajliiloaegaaGreatPb
set_option linter.unusedSimpArgs false
set_option linter.unusedVariables false
set_option maxRecDepth 100000
set_option maxHeartbeats 4000000
namespace Go.SL
open Go
theorem touch_touch (l : LK) (w : Vec) : (l.touch w).touch w = l.touch w := by
  have h : ∀ l' : LK, (alk l'.m w).isSome ∨ ¬ (l'.isEnd ∧ l'.may w) → l'.touch w = l' := by
    intro l' h
    unfold LK.touch
    cases e : alk l'.m w with
    | some _ => rfl
    | none => rw [e] at h; simp only; rw [if_neg (h.resolve_left (by simp))]
  apply h
  unfold LK.touch
  cases e : alk l.m w with
  | some v => left; simp only; rw [e]; rfl
  | none =>
    simp only
    by_cases hc : l.isEnd ∧ l.may w
    · left; rw [if_pos hc]; simp only [alk_put, if_true]; rfl
    · right; rw [if_neg hc]; exact hc
theorem ownE_touch (l : LK) (w : Vec) (o : Owner) (e : Bool) : (l.touch w).ownE w o e = l.ownE w o e := by unfold LK.ownE; rw [rec?_touch]; simp only [touch_isEnd]
theorem lock_touch (l : LK) (w : Vec) (o : Owner) : (l.touch w).lock w o = l.lock w o := by unfold LK.lock; rw [rec?_touch, touch_touch]
theorem getS_touch (l : LK) (w w' : Vec) : (l.touch w').getS w = l.getS w := by unfold LK.getS; rw [rec?_touch]
theorem getB_touch (l : LK) (w w' : Vec) : (l.touch w').getB w = l.getB w := by unfold LK.getB; rw [rec?_touch]
theorem LK.Inv.lock {l : LK} (I : l.Inv) (w : Vec) (o : Owner) : (l.lock w o).1.Inv := I.act ⟨5, w, zR, zR, o⟩
theorem LK.Inv.free {l : LK} (I : l.Inv) (w : Vec) (o : Owner) : (l.free w o).1.Inv := I.act ⟨6, w, zR, zR, o⟩
theorem LK.Inv.out {l : LK} (I : l.Inv) (w : Vec) (o : Owner) : (l.out w o).1.Inv := I.act ⟨2, w, zR, zR, o⟩
theorem LK.Inv.put {l : LK} (I : l.Inv) (w : Vec) (x y : Ref) (o : Owner) : (l.put w x y o).1.Inv := I.act ⟨1, w, x, y, o⟩
theorem LK.Inv.left {l : LK} (I : l.Inv) (w : Vec) (x : Ref) : (l.left w x).1.Inv := I.act ⟨3, w, x, zR, zO⟩
theorem LK.Inv.right {l : LK} (I : l.Inv) (w : Vec) (x : Ref) (o : Owner) : (l.right w x o).1.Inv := I.act ⟨4, w, x, zR, o⟩
theorem getB_upd (l : LK) (w : Vec) (a : RecA) : (l.upd w a).getB w = true := by unfold LK.getB; rw [rec?_upd, if_pos rfl]; rfl
theorem lock_getB {l : LK} {w : Vec} {o : Owner} (h : l.getB w = true) : (l.lock w o).1.getB w = true := by
  unfold LK.lock
  unfold LK.getB at h
  cases e : l.rec? w with
  | none => rw [e] at h; cases h
  | some a => exact getB_upd _ _ _
theorem Pe.recd_in {P : Pe} {w : Vec} (h : P.lk.getB w = true) : P.recd w = ⟨1, P.marked, (P.lk.getS w).left, (P.lk.getS w).right, []⟩ := if_pos h
theorem Pe.recd_no {P : Pe} {w : Vec} (h : P.lk.getB w = false) : P.recd w = plainA 2 := if_neg (by rw [h]; decide)
end Go.SL
namespace Go.Proofs.YtmeajliiloaegaaGreat
open Go Go.SL
attribute [local irreducible] pc rc SlT Me Mt It pt ro pur ex sep old Meets
attribute [local irreducible] LockP RecP RecsA LinksP LinksH RdA
theorem peLock_P (b : Nat) (P : Pe) (t : Int) (a : SL.Ask) (F : List Assn) (hI : P.lk.Inv) (hl : P.rd.length ≤ 100000) (hw : P.waits.length ≤ 100000) : Meets Tryz.prog 29 [ptr b, i64 t, askv a] (PeP b P :: F) (Det (.tuple #[]) (PeP b (P.lock t a) :: F)) := by
  refine Meets.intro b29 k29 (by simp) ?_
  obtain ⟨me, v, lk, j, m, ws, rd⟩ := P
  dsimp only at hI hl hw
  refine J.openPeP Has.here (fun wa wc => ?_)
  refine J.openPe Has.here (fun lb va vc ra rc rs hrs hw1 hw2 hr1 hr2 => ?_)
  refine J.nilS byteC 1 false (by decide) ?_
  unfold Pe.lock
  have hG := fun F => lnGet_fn lb lk a.w F fun r h => Nat.le_trans (hI.at_ h).le (by decide)
  dsimp only
  cases hg : lk.getB a.w with
  | false =>
    rw [if_pos rfl]
    rw [hg] at hG
    unfold Pe.touch
    dsimp only
    have h2 := fun F => pePlain_W b ⟨me, v, lk.touch a.w, j, m, ws, rd⟩ wa wc t 2 F hl
    focus
     refine zs <| yB rfl fun b5 => zfl rfl rfl rfl <| zfw [_, _] rfl rfl rfl rfl <| JT.both ?_ ?_
     refine yE rfl rfl (.of (.t3 .rf)) (hG _) fun ⟨a17, c17⟩ _ => zc rfl <| zc rfl <| yN fun b6 => yW rfl rfl rfl rfl rfl <| zc rfl <| zd <| zs <| zc rfl <| zd <| zq <| zt rfl ?_
     refine zs ?_
     rotate_left
     refine yN fun b6 => yE rfl rfl (.of (.t4 .rf)) (hG _) fun ⟨a17, c17⟩ _ => zc rfl <| zc rfl <| yW rfl rfl rfl rfl rfl <| zc rfl <| zd <| zs <| zc rfl <| zd <| zq <| zt rfl ?_
     refine zs ?_
     rotate_left
    all_goals refine JT.imp (PeW.fold (lk := lk.touch a.w) (m := m) (ws := ws) (rd := rd) (wa := wa) (wc := wc) (b := b) (me := me) (v := v) (j := j) (lb := lb) (va := va) (vc := vc) (ra := ra) (rc := rc) (rs := rs) (by (repeat (first | exact Has.here | assumption | apply Has.there))) (by (repeat (first | exact Has.here | assumption | apply Has.there))) (by (repeat (first | exact Has.here | assumption | apply Has.there))) (by (repeat (first | exact Has.here | assumption | apply Has.there))) (by (repeat (first | exact Has.here | assumption | apply Has.there))) (by (repeat (first | exact Has.here | assumption | apply Has.there))) hrs (Imp.refl _)) ?_
    focus
     refine yD rfl rfl (.of (.t0 .rf)) (h2 _) <| zd <| zr <| yR .nil rfl (.of (PeP.fold .here (.d (.d (.d (.d .rf))))))
    focus
     refine yD rfl rfl (.of (.t0 .rf)) (h2 _) <| zd <| zr <| yR .nil rfl (.of (PeP.fold .here (.d (.d (.d (.d .rf))))))
    all_goals exact retQD .nil rfl (by (first | (refine Up.of ?_; (repeat (first | exact Imp.refl _ | (apply Imp.take; (· (repeat (first | exact Has.here | assumption | apply Has.there)))) | fail | apply Imp.dropT | exact Imp.nil _)); done) | (refine Up.frz (by (repeat (first | exact Has.here | assumption | apply Has.there))) ?_; refine Up.of ?_; (repeat (first | exact Imp.refl _ | (apply Imp.take; (· (repeat (first | exact Has.here | assumption | apply Has.there)))) | fail | apply Imp.dropT | exact Imp.nil _)); done)))
  | true =>
    rw [if_neg (by decide)]
    rw [hg] at hG
    have hL := fun F => lnLock_fn lb (lk.touch a.w) a.w a.o F
    simp only [lock_touch] at hL
    have hI1 := hI.lock a.w a.o
    have hg1 := lock_getB (o := a.o) hg
    generalize lk.lock a.w a.o = z at *
    obtain ⟨l1, ok, e⟩ := z
    dsimp only at *
    cases ok with
    | true =>
      rw [if_pos rfl]
      unfold Pe.read
      have h3 := fun F => peRecord_W b ⟨me, v, l1, j, m, ws, rd⟩ wa wc a.w F hI1
      rw [Pe.recd_in (P := ⟨me, v, l1, j, m, ws, rd⟩) hg1] at h3 ⊢
      unfold Pe.touch at h3 ⊢
      dsimp only at h3 ⊢
      have h4 := fun F => peTell_W b ⟨me, v, l1.touch a.w, j, m, ws, rd⟩ wa wc t ⟨⟨1, m, (l1.getS a.w).left, (l1.getS a.w).right, []⟩, none, 0⟩ F hl
      focus
       refine zs <| yB rfl fun b5 => zfl rfl rfl rfl <| zfw [_, _] rfl rfl rfl rfl <| JT.both ?_ ?_
       refine yE rfl rfl (.of (.t3 .rf)) (hG _) fun ⟨a17, c17⟩ _ => zc rfl <| zc rfl <| yN fun b6 => yW rfl rfl rfl rfl rfl <| zc rfl <| zd <| zs <| zc rfl <| zd <| zq <| zu rfl ?_
       refine zk <| zs <| zfl rfl rfl rfl <| zfw [_, _] rfl rfl rfl rfl <| zfw [_, _] rfl rfl rfl rfl <| yD rfl rfl (.of (.t2 .rf)) (hL _) <| zc rfl <| zc rfl <| zc rfl <| zc rfl <| zd <| zb ?_
       refine zs <| zc rfl <| zd <| zt rfl <| zo <| zfw [_, _] rfl rfl rfl rfl ?_
       rotate_left
       refine yN fun b6 => yE rfl rfl (.of (.t4 .rf)) (hG _) fun ⟨a17, c17⟩ _ => zc rfl <| zc rfl <| yW rfl rfl rfl rfl rfl <| zc rfl <| zd <| zs <| zc rfl <| zd <| zq <| zu rfl ?_
       refine zk <| zs <| zfl rfl rfl rfl <| zfw [_, _] rfl rfl rfl rfl <| zfw [_, _] rfl rfl rfl rfl <| yD rfl rfl (.of (.t2 .rf)) (hL _) <| zc rfl <| zc rfl <| zc rfl <| zc rfl <| zd <| zb ?_
       refine zs <| zc rfl <| zd <| zt rfl <| zo <| zfw [_, _] rfl rfl rfl rfl ?_
       rotate_left
      all_goals refine JT.imp (PeW.fold (lk := l1) (m := m) (ws := ws) (rd := rd) (wa := wa) (wc := wc) (b := b) (me := me) (v := v) (j := j) (lb := lb) (va := va) (vc := vc) (ra := ra) (rc := rc) (rs := rs) (by (repeat (first | exact Has.here | assumption | apply Has.there))) (by (repeat (first | exact Has.here | assumption | apply Has.there))) (by (repeat (first | exact Has.here | assumption | apply Has.there))) (by (repeat (first | exact Has.here | assumption | apply Has.there))) (by (repeat (first | exact Has.here | assumption | apply Has.there))) (by (repeat (first | exact Has.here | assumption | apply Has.there))) hrs (Imp.refl _)) ?_
      focus
       refine yD rfl rfl (.of (.t0 .rf)) (h3 _) <| yD rfl rfl (.of (.t0 (.t3 .rf))) (h4 _) <| zd <| blockQ_n ?_
       rotate_left
      rotate_left 1
      focus
       refine yD rfl rfl (.of (.t0 .rf)) (h3 _) <| yD rfl rfl (.of (.t0 (.t3 .rf))) (h4 _) <| zd <| blockQ_n ?_
       rotate_left
      rotate_left 1
      all_goals exact retQD .nil rfl (.of (PeP.fold .here (.d (.d (.d .rf)))))
    | false =>
      rw [if_neg (by decide)]
      have h4 := fun F => pePlain_W b ⟨me, v, l1, j, m, ws, rd⟩ wa wc t 4 F hl
      focus
       refine zs <| yB rfl fun b5 => zfl rfl rfl rfl <| zfw [_, _] rfl rfl rfl rfl <| JT.both ?_ ?_
       refine yE rfl rfl (.of (.t3 .rf)) (hG _) fun ⟨a17, c17⟩ _ => zc rfl <| zc rfl <| yN fun b6 => yW rfl rfl rfl rfl rfl <| zc rfl <| zd <| zs <| zc rfl <| zd <| zq <| zu rfl ?_
       refine zk <| zs <| zfl rfl rfl rfl <| zfw [_, _] rfl rfl rfl rfl <| zfw [_, _] rfl rfl rfl rfl <| yD rfl rfl (.of (.t2 .rf)) (hL _) <| zc rfl <| zc rfl <| zc rfl <| zc rfl <| zd <| zb ?_
       refine zs <| zc rfl <| zd <| zu rfl <| zs <| zj rfl rfl rfl <| zn rfl (fun h1 => ?_) (fun h1 => ?_)
       refine zf 15 rfl rfl <| yF rfl (by assumption) <| zl rfl rfl <| yF rfl (by assumption) <| zf 13 rfl rfl <| yF rfl (by assumption) <| zy (.Lf rfl (Nat.le_of_ble_eq_true rfl)) <| yF rfl (by assumption) <| yD rfl rfl (.of .rf) (slContO_fn _) <| zy (.pickFp rfl (by assumption) rfl) <| zd <| zi rfl (fun h2 => ?_) (fun h2 => ?_)
       refine zo ?_
       rotate_left
       refine zo <| zfl rfl rfl rfl <| zfw [_, _] rfl rfl rfl rfl <| zfw [_, _] rfl rfl rfl rfl <| zg rfl <| JT.bsl1 (by repeat (first | exact Cells.nil | apply Cells.z | (apply Cells.cl; rfl; rfl; rfl))) (by simp only [List.length_cons, List.length_nil, Nat.reduceAdd]; rfl) (by decide) (by rfl) fun a48 => ?_
       rotate_left
       refine yFs rfl (by assumption) <| yFs rfl (by assumption) <| yFs rfl (by assumption) <| yFs rfl (by assumption) <| zy (.pickTp rfl (by assumption) rfl) <| zd <| zt rfl <| zo ?_
       rotate_left
       refine yN fun b6 => yE rfl rfl (.of (.t4 .rf)) (hG _) fun ⟨a17, c17⟩ _ => zc rfl <| zc rfl <| yW rfl rfl rfl rfl rfl <| zc rfl <| zd <| zs <| zc rfl <| zd <| zq <| zu rfl ?_
       refine zk <| zs <| zfl rfl rfl rfl <| zfw [_, _] rfl rfl rfl rfl <| zfw [_, _] rfl rfl rfl rfl <| yD rfl rfl (.of (.t2 .rf)) (hL _) <| zc rfl <| zc rfl <| zc rfl <| zc rfl <| zd <| zb ?_
       refine zs <| zc rfl <| zd <| zu rfl <| zs <| zj rfl rfl rfl <| zn rfl (fun h1 => ?_) (fun h1 => ?_)
       refine zf 15 rfl rfl <| yF rfl (by assumption) <| zl rfl rfl <| yF rfl (by assumption) <| zf 13 rfl rfl <| yF rfl (by assumption) <| zy (.Lf rfl (Nat.le_of_ble_eq_true rfl)) <| yF rfl (by assumption) <| yD rfl rfl (.of .rf) (slContO_fn _) <| zy (.pickFp rfl (by assumption) rfl) <| zd <| zi rfl (fun h2 => ?_) (fun h2 => ?_)
       refine zo ?_
       rotate_left
       refine zo <| zfl rfl rfl rfl <| zfw [_, _] rfl rfl rfl rfl <| zfw [_, _] rfl rfl rfl rfl <| zg rfl <| JT.bsl1 (by repeat (first | exact Cells.nil | apply Cells.z | (apply Cells.cl; rfl; rfl; rfl))) (by simp only [List.length_cons, List.length_nil, Nat.reduceAdd]; rfl) (by decide) (by rfl) fun a48 => ?_
       rotate_left
       refine yFs rfl (by assumption) <| yFs rfl (by assumption) <| yFs rfl (by assumption) <| yFs rfl (by assumption) <| zy (.pickTp rfl (by assumption) rfl) <| zd <| zt rfl <| zo ?_
       rotate_left
      all_goals first | refine JT.A1 (enc := waitC) (v := (⟨t, false, a.w, a.o⟩ : WaitE)) rfl rfl (by rfl) rfl (by decide) (by omega) (fun a49 c49 hc49 => ?_) | refine JT.imp (PeW.fold (lk := l1) (m := m) (ws := ws) (rd := rd) (wa := wa) (wc := wc) (b := b) (me := me) (v := v) (j := j) (lb := lb) (va := va) (vc := vc) (ra := ra) (rc := rc) (rs := rs) (by (repeat (first | exact Has.here | assumption | apply Has.there))) (by (repeat (first | exact Has.here | assumption | apply Has.there))) (by (repeat (first | exact Has.here | assumption | apply Has.there))) (by (repeat (first | exact Has.here | assumption | apply Has.there))) (by (repeat (first | exact Has.here | assumption | apply Has.there))) (by (repeat (first | exact Has.here | assumption | apply Has.there))) hrs (Imp.refl _)) ?_
      focus
       refine yD rfl rfl (.of (.t0 .rf)) (h4 _) <| zd <| blockQ_n ?_
       rotate_left
      rotate_left 1
      focus
       refine zf 9 rfl rfl <| yS rfl rfl rfl rfl rfl (Nat.le_of_ble_eq_true rfl) rfl <| zd <| blockQ_n ?_
       rotate_left
      rotate_left 1
      focus
       refine yD rfl rfl (.of (.t0 .rf)) (h4 _) <| zd <| blockQ_n ?_
       rotate_left
      rotate_left 1
      focus
       refine yD rfl rfl (.of (.t0 .rf)) (h4 _) <| zd <| blockQ_n ?_
       rotate_left
      rotate_left 1
      focus
       refine zf 9 rfl rfl <| yS rfl rfl rfl rfl rfl (Nat.le_of_ble_eq_true rfl) rfl <| zd <| blockQ_n ?_
       rotate_left
      rotate_left 1
      focus
       refine yD rfl rfl (.of (.t0 .rf)) (h4 _) <| zd <| blockQ_n ?_
       rotate_left
      rotate_left 1
      all_goals (repeat (first | rw [if_pos (by (first | assumption | omega | grind))] | rw [if_neg (by (first | assumption | omega | grind))]))
      all_goals first | exact retQD .nil rfl (.of (PeP.fold .here (.d (.d (.d (.d .rf)))))) | (refine retQ_up (Up.of (PeW.fold (lk := l1) (m := m) (ws := ws ++ [⟨t, false, a.w, a.o⟩]) (rd := rd) (wa := a49) (wc := c49) (b := b) (me := me) (v := v) (j := j) (lb := lb) (va := va) (vc := vc) (ra := ra) (rc := rc) (rs := rs) (by (repeat (first | exact Has.here | assumption | apply Has.there))) (by (repeat (first | exact Has.here | assumption | apply Has.there))) (by (repeat (first | exact Has.here | assumption | apply Has.there))) (by (repeat (first | exact Has.here | assumption | apply Has.there))) (by (repeat (first | exact Has.here | assumption | apply Has.there))) (by (repeat (first | exact Has.here | assumption | apply Has.there))) hrs (Imp.refl _))) ?_; exact retQD .nil rfl (.of (PeP.fold .here (.d (.d (.d (.d (.d .rf))))))))
end Go.Proofs.YtmeajliiloaegaaGreat
