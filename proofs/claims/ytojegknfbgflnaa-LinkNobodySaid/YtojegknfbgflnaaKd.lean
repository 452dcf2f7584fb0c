/- Layer 8, a peer's records: what the calls do. Conditions: none. -/
import Derived.Test.YtojegknfbgflnaaKc
set_option linter.unusedSimpArgs false
set_option linter.unusedVariables false
set_option maxRecDepth 100000
set_option maxHeartbeats 2000000
namespace Go.Proofs.Ytojegknfbgflnaa
open Go Go.SL
attribute [local irreducible] pc rc SlT Me Mt It pt ro pur ex sep old Meets
attribute [local irreducible] LockP RecP RecsA LinksP LinksH

theorem lnPut_fn (b : Nat) (l : LK) (w : Vec) (x y : Ref) (o : Owner) (F : List Assn) : Meets Try.prog 34 [ptr b, vv w, rv x, rv y, ov o] (LinksP b l :: F) (Det (i64 (l.put w x y o).2) (LinksP b (l.put w x y o).1 :: F)) := by
  refine Meets.intro b34 k34 (by simp) ?_
  unfold LK.put
  focus
    refine J.so ?_
    refine JT.box rfl (fun b6 => ?_)
    refine JT.box rfl (fun b7 => ?_)
    refine JT.box rfl (fun b8 => ?_)
    refine JT.box rfl (fun b9 => ?_)
    refine JT.c rfl ?_
    refine JT.done ?_
    refine J.seq ?_
    refine J.block ?_
    refine J.so ?_
    refine JT.c rfl ?_
    refine JT.callD rfl rfl (Up.of (.take (.there (.there (.there (.there .here)))) (Imp.refl _))) (lnIs_P _ _ _) ?_
    iterate 2 refine JT.c rfl ?_
    refine JT.done ?_
    refine J.condF rfl ?_
    refine J.so ?_
    refine JT.c rfl ?_
    refine JT.callD rfl rfl (Up.of (.take .here (Imp.refl _))) (lnEnd_P _ _ _) ?_
    refine JT.c rfl ?_
    refine JT.gn rfl (fun h1 => ?_) (fun h1 => ?_)
    refine JT.c rfl ?_
    refine JT.gF rfl (by first | assumption | omega) ?_
    refine JT.y rfl (Ev.Lw rfl rfl) ?_
    refine JT.gF rfl (by first | assumption | omega) ?_
    refine JT.callD rfl rfl (Up.of (.take .here (Imp.refl _))) (lnMay_P _ _ _ _) ?_
    refine JT.gF rfl (by first | assumption | omega) ?_
    refine JT.c rfl ?_
    refine JT.y rfl (Ev.pickFp rfl (by first | assumption | omega) rfl) ?_
    refine JT.c rfl ?_
    refine JT.done ?_
    refine J.c rfl (fun h2 => ?_) (fun h2 => ?_)
    refine J.so ?_
    refine JT.c rfl ?_
    refine JT.done ?_
    refine J.ret ?_
    refine blockQ_r ?_
    refine seqQ_r ?_
    rotate_left
    refine J.so ?_
    iterate 2 refine JT.c rfl ?_
    refine JT.y rfl (Ev.fa' 5 rfl rfl) ?_
    rotate_left
    iterate 3 refine JT.gFs rfl (by first | assumption | omega) ?_
    refine JT.y rfl (Ev.pickTp rfl (by first | assumption | omega) rfl) ?_
    refine JT.c rfl ?_
    refine JT.done ?_
    refine J.condT rfl ?_
    refine J.so ?_
    refine JT.c rfl ?_
    refine JT.done ?_
    refine J.ret ?_
    refine blockQ_r ?_
    refine seqQ_r ?_
    rotate_left
  · (repeat (first | rw [if_pos (by (first | assumption | omega | grind))] | rw [if_neg (by (first | assumption | omega | grind))]))
    focus
      refine retQD (.t rfl .nil) rfl (Up.of (.take .here (.dropT (.dropT (.dropT (.dropT (Imp.refl _)))))))
  · refine JT.openLinks (b := b) (l := l) (by (repeat (first | exact Has.here | assumption | apply Has.there))) (fun T mb g hg => ?_)
    have hkk := er_alk g w
    rw [hg] at hkk
    focus
      refine JT.y rfl (Ev.L rfl rfl) ?_
      refine JT.y rfl (Ev.Lw rfl rfl) ?_
      refine JT.lk1 rfl (by rfl) (fun v32 h3 => ?_) (fun h3 => ?_)
      iterate 2 refine JT.c rfl ?_
      refine JT.done ?_
      refine J.c rfl (fun h4 => ?_) (fun h4 => ?_)
      refine J.so ?_
      refine JT.c rfl ?_
      refine JT.done ?_
      refine J.ret ?_
      refine blockQ_r ?_
      refine seqQ_r ?_
      rotate_left
      contradiction
      iterate 2 refine JT.c rfl ?_
      refine JT.done ?_
      refine J.condF rfl ?_
      refine J.so ?_
      refine JT.c rfl ?_
      refine JT.y rfl (Ev.Lw rfl rfl) ?_
      refine JT.callD rfl rfl (Up.of (LinksP.fold .here .here .here (by first | assumption | omega | rfl | decide) (Imp.refl _))) (lnToLeft_P _ _ _ _) ?_
      iterate 2 refine JT.c rfl ?_
      refine JT.gn rfl (fun h4 => ?_) (fun h4 => ?_)
      refine JT.c rfl ?_
      refine JT.gF rfl (by first | assumption | omega) ?_
      refine JT.y rfl (Ev.Lw rfl rfl) ?_
      refine JT.gF rfl (by first | assumption | omega) ?_
      refine JT.callD rfl rfl (Up.of (.take .here (Imp.refl _))) (lnToRight_P _ _ _ _) ?_
      refine JT.gF rfl (by first | assumption | omega) ?_
      refine JT.c rfl ?_
      refine JT.y rfl (Ev.pickFp rfl (by first | assumption | omega) rfl) ?_
      refine JT.c rfl ?_
      refine JT.done ?_
      refine J.c rfl (fun h5 => ?_) (fun h5 => ?_)
      refine J.so ?_
      refine JT.c rfl ?_
      refine JT.done ?_
      refine J.ret ?_
      refine blockQ_r ?_
      refine seqQ_r ?_
      rotate_left
      refine J.skip ?_
      refine blockQ_n ?_
      refine seqQ_n ?_
      refine J.seq ?_
      refine J.so ?_
      refine JT.y rfl (Ev.Lw rfl rfl) ?_
      refine JT.callD rfl rfl (Up.of (Imp.refl _)) (lkCheck_fn _ _) ?_
      refine JT.c rfl ?_
      refine JT.done ?_
      refine J.so ?_
      refine JT.c rfl ?_
      refine JT.y rfl (Ev.int rfl rfl rfl) ?_
      refine JT.done ?_
      refine J.c rfl (fun h6 => ?_) (fun h6 => ?_)
      refine J.so ?_
      iterate 2 refine JT.c rfl ?_
      refine JT.done ?_
      refine J.ret ?_
      refine seqQ_r ?_
      rotate_left
      refine J.skip ?_
      refine seqQ_n ?_
      refine J.so ?_
      iterate 2 refine JT.y rfl (Ev.Lw rfl rfl) ?_
      refine JT.callS rfl rfl (Up.of (Imp.refl _)) (lkNew_fn _) (fun x52 _ => ?_)
      iterate 2 refine JT.yA rfl (Ev.Lw rfl rfl) ?_
      refine JT.y rfl (Ev.agg (by repeat (first | exact Cells.nil | apply Cells.z | (apply Cells.cl; rfl; rfl; rfl)))) ?_
      refine JT.box rfl (fun b54 => ?_)
      refine JT.c rfl ?_
      refine JT.done ?_
      refine J.so ?_
      iterate 2 refine JT.c rfl ?_
      refine JT.y rfl (Ev.fa' 10 rfl rfl) ?_
      refine JT.y rfl (Ev.L rfl rfl) ?_
      refine JT.y rfl (Ev.Lw rfl rfl) ?_
      refine JT.callD rfl rfl (Up.of (.take (.there .here) (Imp.refl _))) (lkAsk_fn _ _ _ _) ?_
      refine JT.done ?_
      refine J.so ?_
      iterate 2 refine JT.c rfl ?_
      refine JT.y rfl (Ev.fa' 5 rfl rfl) ?_
      rotate_left
      iterate 3 refine JT.gFs rfl (by first | assumption | omega) ?_
      refine JT.y rfl (Ev.pickTp rfl (by first | assumption | omega) rfl) ?_
      refine JT.c rfl ?_
      refine JT.done ?_
      refine J.condT rfl ?_
      refine J.so ?_
      refine JT.c rfl ?_
      refine JT.done ?_
      refine J.ret ?_
      refine blockQ_r ?_
      refine seqQ_r ?_
      rotate_left
    · rw [h3] at hkk
      have : (alk l.m w).isSome = true := by rw [hkk]; rfl
      (repeat (first | rw [if_pos (by (first | assumption | omega | grind))] | rw [if_neg (by (first | assumption | omega | grind))]))
      focus
        refine retQD (.t rfl .nil) rfl (Up.of (LinksP.fold .here .here .here (by first | assumption | omega | rfl | decide) (.dropT (.dropT (.dropT (.dropT (Imp.refl _)))))))
    all_goals (rw [h3] at hkk; have hs : ¬ (alk l.m w).isSome = true := by rw [hkk]; simp)
    · (repeat (first | rw [if_pos (by (first | assumption | omega | grind))] | rw [if_neg (by (first | assumption | omega | grind))]))
      focus
        refine retQD (.t rfl .nil) rfl (Up.of (.take .here (.dropT (.dropT (.dropT (.dropT (Imp.refl _)))))))
    · have hc : ckE o = 70 := if_neg h6
      simp only [hc]
      (repeat (first | rw [if_pos (by (first | assumption | omega | grind))] | rw [if_neg (by (first | assumption | omega | grind))]))
      focus
        refine retQD (.t rfl .nil) rfl (Up.of (.take .here (.dropT (.dropT (.dropT (.dropT (Imp.refl _)))))))
    · refine JT.openLinks (b := b) (l := l) (by (repeat (first | exact Has.here | assumption | apply Has.there))) (fun T2 mb2 g2 hg2 => ?_)
      have hk2 := er_alk g2 w
      rw [hg2, hkk] at hk2
      have hk2' : alk g2 w = none := by simpa using hk2.symm
      have hn := alk_none_aix hk2'
      have hc : ckE o = 0 := if_pos h6
      focus
        refine JT.y rfl (Ev.L rfl rfl) ?_
        refine JT.y rfl (Ev.Lw rfl rfl) ?_
        refine JT.c rfl ?_
      refine JT.mu (v := (b54, (⟨x, y, (LS.new.ask o).1⟩ : RecA))) rfl (by rfl) rfl ?_
      have e : aput g2 w (b54, (⟨x, y, (LS.new.ask o).1⟩ : RecA)) = g2 ++ [(w, (b54, ⟨x, y, (LS.new.ask o).1⟩))] := by unfold aput; rw [hn]
      rw [e]
      have he := er_snoc g2 w (b54, ⟨x, y, (LS.new.ask o).1⟩) l hg2 hn
      focus
        refine JT.done ?_
        refine J.so ?_
        refine JT.c rfl ?_
        refine JT.done ?_
        refine J.ret ?_
      refine retQ_up (Up.of (RecP.fold (p := b54) (a := ⟨x, y, (LS.new.ask o).1⟩) (by (repeat (first | exact Has.here | assumption | apply Has.there))) (by (repeat (first | exact Has.here | assumption | apply Has.there))) (Imp.refl _))) ?_
      refine retQ_up (Up.of (Imp.trans (Imp.take (c := RecP b54 ⟨x, y, (LS.new.ask o).1⟩) (by (repeat (first | exact Has.here | assumption | apply Has.there))) (Imp.take (c := RecsA g2) (by (repeat (first | exact Has.here | assumption | apply Has.there))) (Imp.refl _))) (RecsA.snoc (w := w)))) ?_
      simp only [hc]
      (repeat (first | rw [if_pos (by (first | assumption | omega | grind))] | rw [if_neg (by (first | assumption | omega | grind))]))
      focus
        refine retQD (.t rfl .nil) rfl (Up.of (LinksP.fold (.there (.there .here)) (.there .here) .here (by first | assumption | omega | rfl | decide) (.dropT (.dropT (.dropT (.dropT (Imp.refl _)))))))
    · (repeat (first | rw [if_pos (by (first | assumption | omega | grind))] | rw [if_neg (by (first | assumption | omega | grind))]))
      focus
        refine retQD (.t rfl .nil) rfl (Up.of (.take .here (.dropT (.dropT (.dropT (.dropT (Imp.refl _)))))))
  · (repeat (first | rw [if_pos (by (first | assumption | omega | grind))] | rw [if_neg (by (first | assumption | omega | grind))]))
    focus
      refine retQD (.t rfl .nil) rfl (Up.of (.take .here (.dropT (.dropT (.dropT (.dropT (Imp.refl _)))))))
theorem lnOut_no (b : Nat) (l : LK) (w : Vec) (o : Owner) (F : List Assn) (h : l.ownE w o false ≠ 0) : Meets Try.prog 32 [ptr b, vv w, ov o] (LinksP b l :: F) (Det (.tuple #[.slice none 0 0, i64 (l.ownE w o false)]) (LinksP b (l.touch w) :: F)) := by
  refine Meets.intro b32 k32 (by simp) ?_
  focus
    refine J.so ?_
    refine JT.box rfl (fun b4 => ?_)
    refine JT.box rfl (fun b5 => ?_)
    iterate 2 refine JT.c rfl ?_
    refine JT.done ?_
    refine J.so ?_
    refine JT.c rfl ?_
    iterate 2 refine JT.y rfl (Ev.Lw rfl rfl) ?_
    refine JT.callD rfl rfl (Up.of (.take (.there (.there .here)) (Imp.refl _))) (lnOwned_none _ _ _ _ _ _ (by first | assumption | omega | decide | exact rfl)) ?_
    iterate 5 refine JT.c rfl ?_
    refine JT.done ?_
    refine J.seq ?_
    refine J.so ?_
    refine JT.c rfl ?_
    refine JT.y rfl (Ev.cneT rfl rfl (by omega)) ?_
    refine JT.done ?_
    refine J.condT rfl ?_
    refine J.so ?_
    iterate 3 refine JT.c rfl ?_
    refine JT.done ?_
    refine J.ret ?_
    refine seqQ_r ?_
    refine retQD (.t rfl (.t rfl .nil)) rfl (Up.of (.take .here (.dropT (.dropT (Imp.refl _)))))
theorem lnOut_ok (b : Nat) (l : LK) (w : Vec) (o : Owner) (F : List Assn) (a : RecA) (ha : l.rec? w = some a) (h : l.ownE w o false = 0) (hS : a.lk.w.length ≤ 8388608) : Meets Try.prog 32 [ptr b, vv w, ov o] (LinksP b l :: F)
    (Some' (fun _ : Option Addr × Nat => True) (fun x => .tuple #[.slice x.1 a.lk.w.length x.2, i64 0]) (fun x => SlT false ownerC 2 (.slice x.1 a.lk.w.length x.2) x.2 a.lk.w :: LinksP b ((l.touch w).del w) :: F)) := by
  refine Meets.intro b32 k32 (by simp) ?_
  focus
    refine J.so ?_
    refine JT.box rfl (fun b4 => ?_)
    refine JT.box rfl (fun b5 => ?_)
    iterate 2 refine JT.c rfl ?_
    refine JT.done ?_
    refine J.so ?_
    refine JT.c rfl ?_
    iterate 2 refine JT.y rfl (Ev.Lw rfl rfl) ?_
    refine JT.callS rfl rfl (Up.of (.take (.there (.there .here)) (Imp.refl _))) (lnOwned_some _ _ _ _ _ _ _ (by first | assumption | omega | decide | exact rfl) (by first | assumption | omega | decide | exact rfl)) (fun x14 _ => ?_)
    iterate 5 refine JT.c rfl ?_
    refine JT.done ?_
    refine J.seq ?_
    refine J.so ?_
    refine JT.c rfl ?_
    refine JT.y rfl (Ev.cneF rfl rfl (by decide)) ?_
    refine JT.done ?_
    refine J.condF rfl ?_
    refine J.skip ?_
    refine seqQ_n ?_
    refine J.so ?_
    iterate 2 refine JT.c rfl ?_
    refine JT.y rfl (Ev.fa' 5 rfl rfl) ?_
  refine JT.openLinksH (b := b) (l := l.touch w) (w := w) (p := x14) (by (repeat (first | exact Has.here | assumption | apply Has.there))) (fun T mb g i he hi hp => ?_)
  obtain ⟨a0, hg⟩ := hp
  have hd : adel g w = g.eraseIdx i := by unfold adel; rw [hi]
  have he' : GM.er (g.eraseIdx i) = ((l.touch w).del w).m := by rw [← hd, er_del, he]; rfl
  focus
    refine JT.y rfl (Ev.L rfl rfl) ?_
    refine JT.y rfl (Ev.Lw rfl rfl) ?_
    refine JT.dl rfl (by rfl) ?_
    refine JT.done ?_
    refine J.so ?_
    iterate 2 refine JT.c rfl ?_
    refine JT.y rfl (Ev.fa' 10 rfl rfl) ?_
  rw [hd]
  refine JT.openRec (p := x14) (a := a) (by (repeat (first | exact Has.here | assumption | apply Has.there))) (fun T2 lb => ?_)
  focus
    refine JT.y rfl (Ev.L rfl rfl) ?_
    refine JT.callS rfl rfl (Up.of (.take (.there .here) (Imp.refl _))) (lkEnd_fn _ _ _ (by first | assumption | omega | decide | exact rfl)) (fun ⟨a29, c29⟩ _ => ?_)
    iterate 4 refine JT.c rfl ?_
    refine JT.done ?_
    refine J.ret ?_
    refine retQS ⟨_, _⟩ (.t rfl (.t rfl .nil)) trivial rfl (Up.of (.take .here (LinksP.fold (.there (.there (.there .here))) (.there (.there .here)) (.there (.there .here)) (by first | assumption | omega | rfl | decide) (.dropT (.dropT (.dropT (.dropT (Imp.refl _))))))))
theorem lnLeft_fn (b : Nat) (l : LK) (w : Vec) (x : Ref) (F : List Assn) : Meets Try.prog 43 [ptr b, vv w, rv x] (LinksP b l :: F) (Det (i64 (l.left w x).2) (LinksP b (l.left w x).1 :: F)) := by
  refine Meets.intro b43 k43 (by simp) ?_
  unfold LK.left
  cases hr : l.rec? w with
  | none =>
    simp only [(rec?_none hr).2.2]
    focus
      refine J.so ?_
      refine JT.box rfl (fun b4 => ?_)
      refine JT.box rfl (fun b5 => ?_)
      refine JT.c rfl ?_
      refine JT.done ?_
      refine J.seq ?_
      refine J.so ?_
      refine JT.c rfl ?_
      refine JT.callD rfl rfl (Up.of (.take (.there (.there .here)) (Imp.refl _))) (lnIs_P _ _ _) ?_
      refine JT.c rfl ?_
      refine JT.done ?_
      refine J.condF rfl ?_
      refine J.skip ?_
      refine seqQ_n ?_
      refine J.so ?_
      refine JT.c rfl ?_
      refine JT.y rfl (Ev.Lw rfl rfl) ?_
      refine JT.callD rfl rfl (Up.of (.take .here (Imp.refl _))) (lnIn_none _ _ _ _ (by first | assumption | omega | decide | exact rfl)) ?_
      refine JT.c rfl ?_
      refine JT.done ?_
      refine J.seq ?_
      refine J.block ?_
      refine J.so ?_
      iterate 3 refine JT.c rfl ?_
      refine JT.done ?_
      refine J.condT rfl ?_
      refine J.so ?_
      refine JT.c rfl ?_
      refine JT.done ?_
      refine J.ret ?_
      refine blockQ_r ?_
      refine seqQ_r ?_
      refine retQD (.t rfl .nil) rfl (Up.of (.take .here (.dropT (.dropT (Imp.refl _)))))
  | some a =>
    simp only
    focus
      refine J.so ?_
      refine JT.box rfl (fun b4 => ?_)
      refine JT.box rfl (fun b5 => ?_)
      refine JT.c rfl ?_
      refine JT.done ?_
      refine J.seq ?_
      refine J.so ?_
      refine JT.c rfl ?_
      refine JT.callD rfl rfl (Up.of (.take (.there (.there .here)) (Imp.refl _))) (lnIs_P _ _ _) ?_
      refine JT.c rfl ?_
      refine JT.done ?_
      refine J.condF rfl ?_
      refine J.skip ?_
      refine seqQ_n ?_
      refine J.so ?_
      refine JT.c rfl ?_
      refine JT.y rfl (Ev.Lw rfl rfl) ?_
      refine JT.callS rfl rfl (Up.of (.take .here (Imp.refl _))) (lnIn_some _ _ _ _ _ (by first | assumption | omega | decide | exact rfl)) (fun x13 _ => ?_)
      refine JT.c rfl ?_
      refine JT.done ?_
      refine J.seq ?_
      refine J.block ?_
      refine J.so ?_
      iterate 3 refine JT.c rfl ?_
      refine JT.done ?_
      refine J.condF rfl ?_
      refine J.so ?_
      refine JT.c rfl ?_
      refine JT.y rfl (Ev.Lw rfl rfl) ?_
      refine JT.callD rfl rfl (Up.of (.take (.there .here) (Imp.refl _))) (lnToLeft_H _ _ _ _ _ _) ?_
      iterate 2 refine JT.c rfl ?_
      refine JT.done ?_
      refine J.c rfl (fun h1 => ?_) (fun h1 => ?_)
      refine J.so ?_
      refine JT.c rfl ?_
      refine JT.done ?_
      refine J.ret ?_
      refine blockQ_r ?_
      refine seqQ_r ?_
      rotate_left
      refine J.skip ?_
      refine blockQ_n ?_
      refine seqQ_n ?_
      refine J.so ?_
      refine JT.c rfl ?_
      refine JT.y rfl (Ev.Lw rfl rfl) ?_
      refine JT.c rfl ?_
      refine JT.y rfl (Ev.fa' 0 rfl rfl) ?_
      rotate_left
    · refine retQ_up (LinksH.up (by (repeat (first | exact Has.here | assumption | apply Has.there))) (by (repeat (first | exact Has.here | assumption | apply Has.there))) (touch_upd hr)) ?_
      (repeat (first | rw [if_pos (by (first | assumption | omega | grind))] | rw [if_neg (by (first | assumption | omega | grind))]))
      focus
        refine retQD (.t rfl .nil) rfl (Up.of (.take .here (.dropT (.dropT (Imp.refl _)))))
    · refine JT.openRec (p := x13) (a := a) (by (repeat (first | exact Has.here | assumption | apply Has.there))) (fun T lb => ?_)
      focus
        refine JT.s rfl rfl rfl rfl rfl (Nat.le_of_ble_eq_true rfl) rfl ?_
        refine JT.done ?_
        refine J.so ?_
        refine JT.c rfl ?_
        refine JT.done ?_
        refine J.ret ?_
      (repeat (first | rw [if_pos (by (first | assumption | omega | grind))] | rw [if_neg (by (first | assumption | omega | grind))]))
      refine retQ_up (Up.of (RecP.fold (p := x13) (a := { a with left := x }) (by (repeat (first | exact Has.here | assumption | apply Has.there))) (by (repeat (first | exact Has.here | assumption | apply Has.there))) (Imp.refl _))) ?_
      refine retQ_up (LinksH.up (by (repeat (first | exact Has.here | assumption | apply Has.there))) (by (repeat (first | exact Has.here | assumption | apply Has.there))) rfl) ?_
      focus
        refine retQD (.t rfl .nil) rfl (Up.of (.take .here (.dropT (.dropT (Imp.refl _)))))
theorem lnRight_fn (b : Nat) (l : LK) (w : Vec) (x : Ref) (o : Owner) (F : List Assn) : Meets Try.prog 44 [ptr b, vv w, rv x, ov o] (LinksP b l :: F) (Det (i64 (l.right w x o).2) (LinksP b (l.right w x o).1 :: F)) := by
  refine Meets.intro b44 k44 (by simp) ?_
  unfold LK.right
  cases hr : l.rec? w with
  | none =>
    have h : l.ownE w o true ≠ 0 := by unfold LK.ownE; rw [hr]; simp
    focus
      refine J.so ?_
      refine JT.box rfl (fun b5 => ?_)
      refine JT.box rfl (fun b6 => ?_)
      refine JT.box rfl (fun b7 => ?_)
      refine JT.c rfl ?_
      refine JT.done ?_
      refine J.so ?_
      refine JT.c rfl ?_
      iterate 2 refine JT.y rfl (Ev.Lw rfl rfl) ?_
      refine JT.callD rfl rfl (Up.of (.take (.there (.there (.there .here))) (Imp.refl _))) (lnOwned_none _ _ _ _ _ _ (by first | assumption | omega | decide | exact rfl)) ?_
      iterate 5 refine JT.c rfl ?_
      refine JT.done ?_
      refine J.seq ?_
      refine J.so ?_
      refine JT.c rfl ?_
      refine JT.y rfl (Ev.cneT rfl rfl (by omega)) ?_
      refine JT.done ?_
      refine J.condT rfl ?_
      refine J.so ?_
      iterate 2 refine JT.c rfl ?_
      refine JT.done ?_
      refine J.ret ?_
      refine seqQ_r ?_
      refine retQD (.t rfl .nil) rfl (Up.of (.take .here (.dropT (.dropT (.dropT (Imp.refl _))))))
  | some a =>
    simp only
    by_cases h : l.ownE w o true = 0
    · focus
        refine J.so ?_
        refine JT.box rfl (fun b5 => ?_)
        refine JT.box rfl (fun b6 => ?_)
        refine JT.box rfl (fun b7 => ?_)
        refine JT.c rfl ?_
        refine JT.done ?_
        refine J.so ?_
        refine JT.c rfl ?_
        iterate 2 refine JT.y rfl (Ev.Lw rfl rfl) ?_
        refine JT.callS rfl rfl (Up.of (.take (.there (.there (.there .here))) (Imp.refl _))) (lnOwned_some _ _ _ _ _ _ _ (by first | assumption | omega | decide | exact rfl) (by first | assumption | omega | decide | exact rfl)) (fun x15 _ => ?_)
        iterate 5 refine JT.c rfl ?_
        refine JT.done ?_
        refine J.seq ?_
        refine J.so ?_
        refine JT.c rfl ?_
        refine JT.y rfl (Ev.cneF rfl rfl (by decide)) ?_
        refine JT.done ?_
        refine J.condF rfl ?_
        refine J.skip ?_
        refine seqQ_n ?_
        refine J.seq ?_
        refine J.so ?_
        refine JT.c rfl ?_
        refine JT.y rfl (Ev.Lw rfl rfl) ?_
        refine JT.callD rfl rfl (Up.of (.take (.there .here) (Imp.refl _))) (lnToRight_H _ _ _ _ _ _) ?_
        refine JT.c rfl ?_
        refine JT.done ?_
        refine J.c rfl (fun h1 => ?_) (fun h1 => ?_)
        refine J.so ?_
        refine JT.c rfl ?_
        refine JT.done ?_
        refine J.ret ?_
        refine seqQ_r ?_
        rotate_left
        refine J.skip ?_
        refine seqQ_n ?_
        refine J.so ?_
        refine JT.c rfl ?_
        refine JT.y rfl (Ev.Lw rfl rfl) ?_
        refine JT.c rfl ?_
        refine JT.y rfl (Ev.fa' 5 rfl rfl) ?_
        rotate_left
      · refine retQ_up (LinksH.up (by (repeat (first | exact Has.here | assumption | apply Has.there))) (by (repeat (first | exact Has.here | assumption | apply Has.there))) (touch_upd hr)) ?_
        (repeat (first | rw [if_pos (by (first | assumption | omega | grind))] | rw [if_neg (by (first | assumption | omega | grind))]))
        focus
          refine retQD (.t rfl .nil) rfl (Up.of (.take .here (.dropT (.dropT (.dropT (Imp.refl _))))))
      · refine JT.openRec (p := x15) (a := a) (by (repeat (first | exact Has.here | assumption | apply Has.there))) (fun T lb => ?_)
        focus
          refine JT.s rfl rfl rfl rfl rfl (Nat.le_of_ble_eq_true rfl) rfl ?_
          refine JT.done ?_
          refine J.so ?_
          refine JT.c rfl ?_
          refine JT.done ?_
          refine J.ret ?_
        (repeat (first | rw [if_pos (by (first | assumption | omega | grind))] | rw [if_neg (by (first | assumption | omega | grind))]))
        refine retQ_up (Up.of (RecP.fold (p := x15) (a := { a with right := x }) (by (repeat (first | exact Has.here | assumption | apply Has.there))) (by (repeat (first | exact Has.here | assumption | apply Has.there))) (Imp.refl _))) ?_
        refine retQ_up (LinksH.up (by (repeat (first | exact Has.here | assumption | apply Has.there))) (by (repeat (first | exact Has.here | assumption | apply Has.there))) rfl) ?_
        focus
          refine retQD (.t rfl .nil) rfl (Up.of (.take .here (.dropT (.dropT (.dropT (Imp.refl _))))))
    · (repeat (first | rw [if_pos (by (first | assumption | omega | grind))] | rw [if_neg (by (first | assumption | omega | grind))]))
      focus
        refine J.so ?_
        refine JT.box rfl (fun b5 => ?_)
        refine JT.box rfl (fun b6 => ?_)
        refine JT.box rfl (fun b7 => ?_)
        refine JT.c rfl ?_
        refine JT.done ?_
        refine J.so ?_
        refine JT.c rfl ?_
        iterate 2 refine JT.y rfl (Ev.Lw rfl rfl) ?_
        refine JT.callD rfl rfl (Up.of (.take (.there (.there (.there .here))) (Imp.refl _))) (lnOwned_none _ _ _ _ _ _ (by first | assumption | omega | decide | exact rfl)) ?_
        iterate 5 refine JT.c rfl ?_
        refine JT.done ?_
        refine J.seq ?_
        refine J.so ?_
        refine JT.c rfl ?_
        refine JT.y rfl (Ev.cneT rfl rfl (by omega)) ?_
        refine JT.done ?_
        refine J.condT rfl ?_
        refine J.so ?_
        iterate 2 refine JT.c rfl ?_
        refine JT.done ?_
        refine J.ret ?_
        refine seqQ_r ?_
        refine retQD (.t rfl .nil) rfl (Up.of (.take .here (.dropT (.dropT (.dropT (Imp.refl _))))))
theorem lnLock_fn (b : Nat) (l : LK) (w : Vec) (o : Owner) (F : List Assn) : Meets Try.prog 41 [ptr b, vv w, ov o] (LinksP b l :: F) (Det (.tuple #[.bool (l.lock w o).2.1, i64 (l.lock w o).2.2]) (LinksP b (l.lock w o).1 :: F)) := by
  refine Meets.intro b41 k41 (by simp) ?_
  unfold LK.lock
  cases hr : l.rec? w with
  | none =>
    simp only [(rec?_none hr).2.2]
    focus
      refine J.so ?_
      refine JT.box rfl (fun b4 => ?_)
      refine JT.box rfl (fun b5 => ?_)
      iterate 2 refine JT.c rfl ?_
      refine JT.done ?_
      refine J.seq ?_
      refine J.so ?_
      refine JT.c rfl ?_
      refine JT.callD rfl rfl (Up.of (.take (.there (.there .here)) (Imp.refl _))) (lnIs_P _ _ _) ?_
      refine JT.c rfl ?_
      refine JT.done ?_
      refine J.condF rfl ?_
      refine J.skip ?_
      refine seqQ_n ?_
      refine J.so ?_
      refine JT.c rfl ?_
      refine JT.y rfl (Ev.Lw rfl rfl) ?_
      refine JT.callD rfl rfl (Up.of (.take .here (Imp.refl _))) (lnIn_none _ _ _ _ (by first | assumption | omega | decide | exact rfl)) ?_
      refine JT.c rfl ?_
      refine JT.done ?_
      refine J.seq ?_
      refine J.so ?_
      iterate 2 refine JT.c rfl ?_
      refine JT.done ?_
      refine J.condT rfl ?_
      refine J.so ?_
      iterate 2 refine JT.c rfl ?_
      refine JT.done ?_
      refine J.ret ?_
      refine seqQ_r ?_
      refine retQD (.t rfl (.t rfl .nil)) rfl (Up.of (.take .here (.dropT (.dropT (Imp.refl _)))))
  | some a =>
    simp only
    focus
      refine J.so ?_
      refine JT.box rfl (fun b4 => ?_)
      refine JT.box rfl (fun b5 => ?_)
      iterate 2 refine JT.c rfl ?_
      refine JT.done ?_
      refine J.seq ?_
      refine J.so ?_
      refine JT.c rfl ?_
      refine JT.callD rfl rfl (Up.of (.take (.there (.there .here)) (Imp.refl _))) (lnIs_P _ _ _) ?_
      refine JT.c rfl ?_
      refine JT.done ?_
      refine J.condF rfl ?_
      refine J.skip ?_
      refine seqQ_n ?_
      refine J.so ?_
      refine JT.c rfl ?_
      refine JT.y rfl (Ev.Lw rfl rfl) ?_
      refine JT.callS rfl rfl (Up.of (.take .here (Imp.refl _))) (lnIn_some _ _ _ _ _ (by first | assumption | omega | decide | exact rfl)) (fun x14 _ => ?_)
      refine JT.c rfl ?_
      refine JT.done ?_
      refine J.seq ?_
      refine J.so ?_
      iterate 2 refine JT.c rfl ?_
      refine JT.done ?_
      refine J.condF rfl ?_
      refine J.skip ?_
      refine seqQ_n ?_
      refine J.so ?_
      iterate 2 refine JT.c rfl ?_
      refine JT.y rfl (Ev.fa' 10 rfl rfl) ?_
    refine JT.openRec (p := x14) (a := a) (by (repeat (first | exact Has.here | assumption | apply Has.there))) (fun T lb => ?_)
    focus
      refine JT.y rfl (Ev.L rfl rfl) ?_
      refine JT.y rfl (Ev.Lw rfl rfl) ?_
      refine JT.callD rfl rfl (Up.of (.take (.there .here) (Imp.refl _))) (lkAsk_fn _ _ _ _) ?_
      iterate 4 refine JT.c rfl ?_
      refine JT.done ?_
      refine J.ret ?_
    refine retQ_up (Up.of (RecP.fold (p := x14) (a := { a with lk := (a.lk.ask o).1 }) (by (repeat (first | exact Has.here | assumption | apply Has.there))) (by (repeat (first | exact Has.here | assumption | apply Has.there))) (Imp.refl _))) ?_
    refine retQ_up (LinksH.up (by (repeat (first | exact Has.here | assumption | apply Has.there))) (by (repeat (first | exact Has.here | assumption | apply Has.there))) rfl) ?_
    focus
      refine retQD (.t rfl (.t rfl .nil)) rfl (Up.of (.take .here (.dropT (.dropT (Imp.refl _)))))
theorem lnFree_fn (b : Nat) (l : LK) (w : Vec) (o : Owner) (F : List Assn) : Meets Try.prog 42 [ptr b, vv w, ov o] (LinksP b l :: F) (Det (.tuple #[ov (l.free w o).2.1, .bool (l.free w o).2.2.1, i64 (l.free w o).2.2.2]) (LinksP b (l.free w o).1 :: F)) := by
  refine Meets.intro b42 k42 (by simp) ?_
  unfold LK.free
  cases hr : l.rec? w with
  | none =>
    simp only [(rec?_none hr).2.2]
    focus
      refine J.so ?_
      refine JT.box rfl (fun b4 => ?_)
      refine JT.box rfl (fun b5 => ?_)
      refine JT.new (fun b6 => ?_)
      iterate 2 refine JT.c rfl ?_
      refine JT.done ?_
      refine J.seq ?_
      refine J.so ?_
      refine JT.c rfl ?_
      refine JT.callD rfl rfl (Up.of (.take (.there (.there (.there .here))) (Imp.refl _))) (lnIs_P _ _ _) ?_
      refine JT.c rfl ?_
      refine JT.done ?_
      refine J.condF rfl ?_
      refine J.skip ?_
      refine seqQ_n ?_
      refine J.so ?_
      refine JT.c rfl ?_
      refine JT.y rfl (Ev.Lw rfl rfl) ?_
      refine JT.callD rfl rfl (Up.of (.take .here (Imp.refl _))) (lnIn_none _ _ _ _ (by first | assumption | omega | decide | exact rfl)) ?_
      refine JT.c rfl ?_
      refine JT.done ?_
      refine J.seq ?_
      refine J.so ?_
      iterate 2 refine JT.c rfl ?_
      refine JT.done ?_
      refine J.condT rfl ?_
      refine J.so ?_
      refine JT.y rfl (Ev.agg (by repeat (first | exact Cells.nil | apply Cells.z | (apply Cells.cl; rfl; rfl; rfl)))) ?_
      refine JT.w rfl rfl rfl rfl rfl ?_
      iterate 2 refine JT.c rfl ?_
      refine JT.done ?_
      refine J.ret ?_
      refine seqQ_r ?_
      refine retQD (.w rfl rfl (.t rfl (.t rfl .nil))) rfl (Up.of (.take (.there .here) (.dropT (.dropT (.dropT (Imp.refl _))))))
  | some a =>
    simp only
    focus
      refine J.so ?_
      refine JT.box rfl (fun b4 => ?_)
      refine JT.box rfl (fun b5 => ?_)
      refine JT.new (fun b6 => ?_)
      iterate 2 refine JT.c rfl ?_
      refine JT.done ?_
      refine J.seq ?_
      refine J.so ?_
      refine JT.c rfl ?_
      refine JT.callD rfl rfl (Up.of (.take (.there (.there (.there .here))) (Imp.refl _))) (lnIs_P _ _ _) ?_
      refine JT.c rfl ?_
      refine JT.done ?_
      refine J.condF rfl ?_
      refine J.skip ?_
      refine seqQ_n ?_
      refine J.so ?_
      refine JT.c rfl ?_
      refine JT.y rfl (Ev.Lw rfl rfl) ?_
      refine JT.callS rfl rfl (Up.of (.take .here (Imp.refl _))) (lnIn_some _ _ _ _ _ (by first | assumption | omega | decide | exact rfl)) (fun x16 _ => ?_)
      refine JT.c rfl ?_
      refine JT.done ?_
      refine J.seq ?_
      refine J.so ?_
      iterate 2 refine JT.c rfl ?_
      refine JT.done ?_
      refine J.condF rfl ?_
      refine J.skip ?_
      refine seqQ_n ?_
      refine J.so ?_
      iterate 2 refine JT.c rfl ?_
      refine JT.y rfl (Ev.fa' 10 rfl rfl) ?_
    refine JT.openRec (p := x16) (a := a) (by (repeat (first | exact Has.here | assumption | apply Has.there))) (fun T lb => ?_)
    focus
      refine JT.y rfl (Ev.L rfl rfl) ?_
      refine JT.y rfl (Ev.Lw rfl rfl) ?_
      refine JT.callD rfl rfl (Up.of (.take (.there .here) (Imp.refl _))) (lkFree_fn _ _ _ _) ?_
      iterate 3 refine JT.c rfl ?_
      refine JT.w rfl rfl rfl rfl rfl ?_
      iterate 2 refine JT.c rfl ?_
      refine JT.done ?_
      refine J.ret ?_
    refine retQ_up (Up.of (RecP.fold (p := x16) (a := { a with lk := (a.lk.free o).1 }) (by (repeat (first | exact Has.here | assumption | apply Has.there))) (by (repeat (first | exact Has.here | assumption | apply Has.there))) (Imp.refl _))) ?_
    refine retQ_up (LinksH.up (by (repeat (first | exact Has.here | assumption | apply Has.there))) (by (repeat (first | exact Has.here | assumption | apply Has.there))) rfl) ?_
    focus
      refine retQD (.w rfl rfl (.t rfl (.t rfl .nil))) rfl (Up.of (.take .here (.dropT (.dropT (.dropT (Imp.refl _))))))
end Go.Proofs.Ytojegknfbgflnaa
