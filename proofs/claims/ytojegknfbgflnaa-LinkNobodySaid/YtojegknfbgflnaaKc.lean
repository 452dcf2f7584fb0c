/- Layer 8, a peer's records: what the functions do. Conditions: none. -/
import Derived.Test.YtojegknfbgflnaaBn
import Derived.Test.YtojegknfbgflnaaKb
set_option linter.unusedSimpArgs false
set_option linter.unusedVariables false
set_option maxRecDepth 100000
set_option maxHeartbeats 2000000
namespace Go.Proofs.Ytojegknfbgflnaa
open Go Go.SL
attribute [local irreducible] pc rc SlT Me Mt It pt ro pur ex sep old Meets
attribute [local irreducible] LockP RecP RecsA LinksP LinksH

instance : KO Try.prog 55 vv := ⟨KeyOk.flat (by kernel_rfl) (by kernel_rfl)⟩
instance {l : LK} : BP (decide (l.me.key.rank = 1) || decide (l.me.key.rank = 3)) l.isEnd (¬ l.isEnd) := .mk' (by simp [LK.isEnd]) .rfl

theorem lnIs_fn {b T mb : Nat} {l : LK} {F r : List Assn} [Hs : HP F b T (linksC l.me mb) r] : Meets Try.prog 59 [ptr b] F (Det (.bool true) F) := by
  refine Meets.intro b59 k59 (by simp) ?_
  focus
    refine J.so ?_
    refine JT.c rfl ?_
    refine JT.done ?_
    refine J.so ?_
    iterate 3 refine JT.c rfl ?_
    refine JT.yg rfl rfl (fun h1 => Ev.calc rfl) ?_
    refine JT.yg rfl rfl (fun h1 => by simp only [h1, gd_true, gd_false, Bool.not_false, Bool.not_true, Bool.true_and, Bool.and_true]; exact Ev.calc rfl) ?_
    refine JT.yg rfl rfl (fun h1 => by simp only [h1, gd_true, gd_false, Bool.not_false, Bool.not_true, Bool.true_and, Bool.and_true]; exact Ev.fa' 5 rfl rfl) ?_
    refine JT.yg rfl rfl (fun h1 => by simp only [h1, gd_true, gd_false, Bool.not_false, Bool.not_true, Bool.true_and, Bool.and_true]; exact Ev.L rfl rfl) ?_
    refine JT.yg rfl rfl (fun h1 => by simp only [h1, gd_true, gd_false, Bool.not_false, Bool.not_true, Bool.true_and, Bool.and_true]; exact Ev.calc rfl) ?_
    refine JT.y rfl (Ev.pickT rfl rfl) ?_
    refine JT.c rfl ?_
    refine JT.done ?_
    refine J.ret ?_
    refine retQD (.t rfl .nil) rfl (Up.of (Imp.refl _))
theorem lnHead_fn {b T mb : Nat} {l : LK} {F r : List Assn} [Hs : HP F b T (linksC l.me mb) r] : Meets Try.prog 83 [ptr b] F (Det (.bool (decide (l.me.key.rank = 1))) F) := by
  refine Meets.intro b83 k83 (by simp) ?_
  focus
    refine J.so ?_
    refine JT.c rfl ?_
    refine JT.done ?_
    refine J.so ?_
    iterate 2 refine JT.c rfl ?_
    refine JT.y rfl (Ev.fa' 0 rfl rfl) ?_
    iterate 2 refine JT.y rfl (Ev.fa' 1 rfl rfl) ?_
    refine JT.y rfl (Ev.L rfl rfl) ?_
    refine JT.y rfl (Ev.int rfl rfl rfl) ?_
    refine JT.c rfl ?_
    refine JT.done ?_
    refine J.ret ?_
    refine retQD (.t rfl .nil) rfl (Up.of (Imp.refl _))
theorem lnTail_fn {b T mb : Nat} {l : LK} {F r : List Assn} [Hs : HP F b T (linksC l.me mb) r] : Meets Try.prog 84 [ptr b] F (Det (.bool (decide (l.me.key.rank = 3))) F) := by
  refine Meets.intro b84 k84 (by simp) ?_
  focus
    refine J.so ?_
    refine JT.c rfl ?_
    refine JT.done ?_
    refine J.so ?_
    iterate 2 refine JT.c rfl ?_
    refine JT.y rfl (Ev.fa' 0 rfl rfl) ?_
    iterate 2 refine JT.y rfl (Ev.fa' 1 rfl rfl) ?_
    refine JT.y rfl (Ev.L rfl rfl) ?_
    refine JT.y rfl (Ev.int rfl rfl rfl) ?_
    refine JT.c rfl ?_
    refine JT.done ?_
    refine J.ret ?_
    refine retQD (.t rfl .nil) rfl (Up.of (Imp.refl _))
theorem lnEnd_fn {b T mb : Nat} {l : LK} {F r : List Assn} [Hs : HP F b T (linksC l.me mb) r] : Meets Try.prog 65 [ptr b] F (Det (.bool (decide l.isEnd)) F) := by
  refine Meets.intro b65 k65 (by simp) ?_
  by_cases h1 : l.me.key.rank = 1
  · focus
      refine J.so ?_
      refine JT.c rfl ?_
      refine JT.done ?_
      refine J.so ?_
      refine JT.c rfl ?_
      refine JT.callD rfl rfl (Up.of (Imp.refl _)) lnHead_fn ?_
      refine JT.c rfl ?_
      iterate 2 refine JT.gFs rfl (by first | assumption | omega) ?_
      refine JT.y rfl (Ev.pickTp rfl (by first | assumption | omega) rfl) ?_
      refine JT.c rfl ?_
      refine JT.done ?_
      refine J.ret ?_
      refine retQD (.t rfl .nil) ?_ (Up.of (Imp.refl _))
    simp only [mkRet]; rw [decide_eq_true (show l.isEnd from .inl h1)]
  · focus
      refine J.so ?_
      refine JT.c rfl ?_
      refine JT.done ?_
      refine J.so ?_
      refine JT.c rfl ?_
      refine JT.callD rfl rfl (Up.of (Imp.refl _)) lnHead_fn ?_
      refine JT.c rfl ?_
      refine JT.gF rfl (by first | assumption | omega) ?_
      refine JT.c rfl ?_
      refine JT.gF rfl (by first | assumption | omega) ?_
      refine JT.callD rfl rfl (Up.of (Imp.refl _)) lnTail_fn ?_
      refine JT.y rfl (Ev.pickFp rfl (by first | assumption | omega) rfl) ?_
      refine JT.c rfl ?_
      refine JT.done ?_
      refine J.ret ?_
      refine retQD (.t rfl .nil) ?_ (Up.of (Imp.refl _))
    simp only [mkRet]; congr 1; rw [Bool.eq_iff_iff]; simp [LK.isEnd, h1]
theorem lnMay_fn {b T mb : Nat} {l : LK} {F r : List Assn} [Hs : HP F b T (linksC l.me mb) r] (w : Vec) : Meets Try.prog 40 [ptr b, vv w] F (Det (.bool (decide (l.may w))) F) := by
  refine Meets.intro b40 k40 (by simp) ?_
  by_cases hE : l.isEnd
  · by_cases hw : vecOk w
    · focus
        refine J.so ?_
        refine JT.box rfl (fun b3 => ?_)
        refine JT.c rfl ?_
        refine JT.done ?_
        refine J.seq ?_
        refine J.so ?_
        refine JT.c rfl ?_
        refine JT.callD rfl rfl (Up.of (Imp.refl _)) lnIs_fn ?_
        refine JT.c rfl ?_
        refine JT.done ?_
        refine J.condF rfl ?_
        refine J.skip ?_
        refine seqQ_n ?_
        refine J.seq ?_
        refine J.so ?_
        refine JT.c rfl ?_
        refine JT.callD rfl rfl (Up.of (Imp.refl _)) lnEnd_fn ?_
        refine JT.done ?_
        refine J.c rfl (fun h1 => ?_) (fun h1 => ?_)
        refine J.so ?_
        refine JT.y rfl (Ev.Lw rfl rfl) ?_
        refine JT.callD rfl rfl (Up.of (Imp.refl _)) (vRight_fn _ _) ?_
        refine JT.y rfl (Ev.int rfl rfl rfl) ?_
        refine JT.c rfl ?_
        refine JT.gT rfl (by first | assumption | omega) ?_
        refine JT.y rfl (Ev.fa' 0 rfl rfl) ?_
        refine JT.gT rfl (by first | assumption | omega) ?_
        refine JT.y rfl (Ev.L rfl rfl) ?_
        refine JT.gT rfl (by first | assumption | omega) ?_
        refine JT.c rfl ?_
        refine JT.gT rfl (by first | assumption | omega) ?_
        refine JT.c rfl ?_
        refine JT.gT rfl (by first | assumption | omega) ?_
        refine JT.y rfl (Ev.fa' 0 rfl rfl) ?_
        refine JT.gT rfl (by first | assumption | omega) ?_
        refine JT.y rfl (Ev.fa' 3 rfl rfl) ?_
        refine JT.gT rfl (by first | assumption | omega) ?_
        refine JT.y rfl (Ev.fa' 3 rfl rfl) ?_
        refine JT.gT rfl (by first | assumption | omega) ?_
        refine JT.y rfl (Ev.L rfl rfl) ?_
        refine JT.gT rfl (by first | assumption | omega) ?_
        refine JT.y rfl (Ev.int rfl rfl rfl) ?_
        refine JT.y rfl (Ev.pickTp rfl (by first | assumption | omega) rfl) ?_
        refine JT.c rfl ?_
        refine JT.done ?_
        refine J.ret ?_
        refine seqQ_r ?_
        refine retQD (.t rfl .nil) ?_ (Up.of (.dropT (Imp.refl _)))
        rotate_left
        contradiction
      simp only [mkRet]; congr 1; rw [Bool.eq_iff_iff]; simp [LK.may, hE, hw]
    · focus
        refine J.so ?_
        refine JT.box rfl (fun b3 => ?_)
        refine JT.c rfl ?_
        refine JT.done ?_
        refine J.seq ?_
        refine J.so ?_
        refine JT.c rfl ?_
        refine JT.callD rfl rfl (Up.of (Imp.refl _)) lnIs_fn ?_
        refine JT.c rfl ?_
        refine JT.done ?_
        refine J.condF rfl ?_
        refine J.skip ?_
        refine seqQ_n ?_
        refine J.seq ?_
        refine J.so ?_
        refine JT.c rfl ?_
        refine JT.callD rfl rfl (Up.of (Imp.refl _)) lnEnd_fn ?_
        refine JT.done ?_
        refine J.c rfl (fun h1 => ?_) (fun h1 => ?_)
        refine J.so ?_
        refine JT.y rfl (Ev.Lw rfl rfl) ?_
        refine JT.callD rfl rfl (Up.of (Imp.refl _)) (vRight_fn _ _) ?_
        refine JT.y rfl (Ev.int rfl rfl rfl) ?_
        refine JT.c rfl ?_
        iterate 9 refine JT.gTs rfl (by first | assumption | omega) ?_
        refine JT.y rfl (Ev.pickFp rfl (by first | assumption | omega) rfl) ?_
        refine JT.c rfl ?_
        refine JT.done ?_
        refine J.ret ?_
        refine seqQ_r ?_
        refine retQD (.t rfl .nil) ?_ (Up.of (.dropT (Imp.refl _)))
        rotate_left
        contradiction
      simp only [mkRet]; congr 1; rw [Bool.eq_iff_iff]; simp [LK.may, hE, hw]
  · focus
      refine J.so ?_
      refine JT.box rfl (fun b3 => ?_)
      refine JT.c rfl ?_
      refine JT.done ?_
      refine J.seq ?_
      refine J.so ?_
      refine JT.c rfl ?_
      refine JT.callD rfl rfl (Up.of (Imp.refl _)) lnIs_fn ?_
      refine JT.c rfl ?_
      refine JT.done ?_
      refine J.condF rfl ?_
      refine J.skip ?_
      refine seqQ_n ?_
      refine J.seq ?_
      refine J.so ?_
      refine JT.c rfl ?_
      refine JT.callD rfl rfl (Up.of (Imp.refl _)) lnEnd_fn ?_
      refine JT.done ?_
      refine J.c rfl (fun h1 => ?_) (fun h1 => ?_)
      contradiction
      refine J.skip ?_
      refine seqQ_n ?_
      refine J.so ?_
      iterate 2 refine JT.c rfl ?_
      refine JT.y rfl (Ev.fa' 0 rfl rfl) ?_
      refine JT.y rfl (Ev.fa' 3 rfl rfl) ?_
      refine JT.y rfl (Ev.Lp (us := [_, _]) rfl (Nat.le_of_ble_eq_true rfl) rfl) ?_
      refine JT.y rfl (Ev.Lw rfl rfl) ?_
      refine JT.callD rfl rfl (Up.of (Imp.refl _)) (vBegins_fn _ _ _) ?_
      refine JT.c rfl ?_
      refine JT.done ?_
      refine J.ret ?_
      refine retQD (.t rfl .nil) ?_ (Up.of (.dropT (Imp.refl _)))
    simp only [mkRet]; congr 1; rw [Bool.eq_iff_iff]; simp [LK.may, hE]
theorem lnFirst_fn {b T mb : Nat} {l : LK} {F r : List Assn} [Hs : HP F b T (linksC l.me mb) r] : Meets Try.prog 75 [ptr b] F (Some' (fun _ : Nat => True) (fun p => ptr p) (fun p => RecP p l.first :: F)) := by
  refine Meets.intro b75 k75 (by simp) ?_
  focus
    refine J.so ?_
    refine JT.c rfl ?_
    refine JT.done ?_
    refine J.so ?_
    refine JT.callS rfl rfl (Up.of (Imp.refl _)) (lkNew_fn _) (fun x4 _ => ?_)
    refine JT.y rfl (Ev.agg (by repeat (first | exact Cells.nil | apply Cells.z | (apply Cells.cl; rfl; rfl; rfl)))) ?_
    refine JT.box rfl (fun b6 => ?_)
    refine JT.c rfl ?_
    refine JT.done ?_
    refine J.seq ?_
    refine J.so ?_
    refine JT.c rfl ?_
    refine JT.callD rfl rfl (Up.of (Imp.refl _)) lnHead_fn ?_
    refine JT.done ?_
    refine J.c rfl (fun h1 => ?_) (fun h1 => ?_)
    refine J.ops ?_
    refine JT.c rfl ?_
    refine JT.y rfl (Ev.agg (by repeat (first | exact Cells.nil | apply Cells.z | (apply Cells.cl; rfl; rfl; rfl)))) ?_
    iterate 2 refine JT.c rfl ?_
    refine JT.y rfl (Ev.fa' 0 rfl rfl) ?_
    refine JT.y rfl (Ev.fa' 3 rfl rfl) ?_
    refine JT.y rfl (Ev.Lp (us := [_, _]) rfl (Nat.le_of_ble_eq_true rfl) rfl) ?_
    refine JT.y rfl (Ev.agg (by repeat (first | exact Cells.nil | apply Cells.z | (apply Cells.cl; rfl; rfl; rfl)))) ?_
    refine JT.c rfl ?_
    refine JT.y rfl (Ev.fa' 5 rfl rfl) ?_
    refine JT.s (us := [_, _, _, _, _]) rfl rfl rfl rfl rfl (Nat.le_of_ble_eq_true rfl) (by simp only [lput]; rfl) ?_
    refine JT.done ?_
    refine seqQ_n ?_
    refine J.so ?_
    iterate 2 refine JT.c rfl ?_
    refine JT.done ?_
    refine J.ret ?_
    rotate_left
    refine J.ops ?_
    refine JT.c rfl ?_
    refine JT.y rfl (Ev.agg (by repeat (first | exact Cells.nil | apply Cells.z | (apply Cells.cl; rfl; rfl; rfl)))) ?_
    iterate 2 refine JT.c rfl ?_
    refine JT.y rfl (Ev.fa' 0 rfl rfl) ?_
    refine JT.y rfl (Ev.fa' 3 rfl rfl) ?_
    refine JT.y rfl (Ev.Lp (us := [_, _]) rfl (Nat.le_of_ble_eq_true rfl) rfl) ?_
    refine JT.y rfl (Ev.agg (by repeat (first | exact Cells.nil | apply Cells.z | (apply Cells.cl; rfl; rfl; rfl)))) ?_
    refine JT.c rfl ?_
    refine JT.y rfl (Ev.fa' 0 rfl rfl) ?_
    refine JT.s (us := [_, _, _, _, _]) rfl rfl rfl rfl rfl (Nat.le_of_ble_eq_true rfl) (by simp only [lput]; rfl) ?_
    refine JT.done ?_
    refine seqQ_n ?_
    refine J.so ?_
    iterate 2 refine JT.c rfl ?_
    refine JT.done ?_
    refine J.ret ?_
    rotate_left
  all_goals (unfold LK.first; (repeat (first | rw [if_pos (by (first | assumption | omega | grind))] | rw [if_neg (by (first | assumption | omega | grind))])))
  focus
    refine retQS _ (.t rfl .nil) trivial rfl (Up.of (RecP.fold .here .here (Imp.refl _)))
  focus
    refine retQS _ (.t rfl .nil) trivial rfl (Up.of (RecP.fold .here .here (Imp.refl _)))

theorem rec?_none {l : LK} {w : Vec} (h : l.rec? w = none) : alk l.m w = none ∧ ¬ (l.isEnd ∧ l.may w) ∧ l.touch w = l := by
  unfold LK.rec? at h; unfold LK.touch
  cases e : alk l.m w with
  | some v => rw [e] at h; cases h
  | none =>
    rw [e] at h; simp only at h ⊢
    by_cases hc : l.isEnd ∧ l.may w
    · rw [if_pos hc] at h; cases h
    · exact ⟨trivial, hc, by rw [if_neg hc]⟩

theorem rec?_some {l : LK} {w : Vec} {a : RecA} (h : l.rec? w = some a) : (alk l.m w = some a ∧ l.touch w = l) ∨ (alk l.m w = none ∧ l.isEnd ∧ l.may w ∧ a = l.first ∧ l.touch w = l.upd w l.first) := by
  unfold LK.rec? at h; unfold LK.touch
  cases e : alk l.m w with
  | some v => rw [e] at h; simp only at h; exact .inl ⟨h, rfl⟩
  | none =>
    rw [e] at h; simp only at h ⊢
    by_cases hc : l.isEnd ∧ l.may w
    · rw [if_pos hc] at h ⊢; injection h with h; exact .inr ⟨trivial, hc.1, hc.2, h.symm, rfl⟩
    · rw [if_neg hc] at h; cases h

theorem lnIn_none (b : Nat) (l : LK) (w : Vec) (F : List Assn) (h : l.rec? w = none) : Meets Try.prog 60 [ptr b, vv w] (LinksP b l :: F) (Det (.pointer none) (LinksP b l :: F)) := by
  refine Meets.intro b60 k60 (by simp) ?_
  refine J.openLinks Has.here (fun T mb g hg => ?_)
  obtain ⟨h1, h2, h3⟩ := rec?_none h
  have hk : alk g w = none := by rw [← hg, er_alk] at h1; simpa using h1
  by_cases hE : l.isEnd
  · have hm : ¬ l.may w := fun hm => h2 ⟨hE, hm⟩
    focus
      refine J.so ?_
      refine JT.box rfl (fun b3 => ?_)
      refine JT.c rfl ?_
      refine JT.done ?_
      refine J.seq ?_
      refine J.so ?_
      iterate 2 refine JT.c rfl ?_
      refine JT.y rfl (Ev.fa' 5 rfl rfl) ?_
      refine JT.y rfl (Ev.L rfl rfl) ?_
      refine JT.y rfl (Ev.Lw rfl rfl) ?_
      refine JT.lk2n rfl (by rfl) (by assumption) ?_
      iterate 5 refine JT.c rfl ?_
      refine JT.done ?_
      refine J.so ?_
      refine JT.c rfl ?_
      refine JT.done ?_
      refine J.condF rfl ?_
      refine J.skip ?_
      refine seqQ_n ?_
      refine J.seq ?_
      refine J.so ?_
      refine JT.c rfl ?_
      refine JT.callD rfl rfl (Up.of (Imp.refl _)) lnEnd_fn ?_
      iterate 2 refine JT.c rfl ?_
      refine JT.gF rfl (by first | assumption | omega) ?_
      refine JT.c rfl ?_
      refine JT.gF rfl (by first | assumption | omega) ?_
      refine JT.y rfl (Ev.Lw rfl rfl) ?_
      refine JT.gF rfl (by first | assumption | omega) ?_
      refine JT.callD rfl rfl (Up.of (Imp.refl _)) (lnMay_fn _) ?_
      refine JT.gF rfl (by first | assumption | omega) ?_
      refine JT.c rfl ?_
      refine JT.y rfl (Ev.pickFp rfl (by first | assumption | omega) rfl) ?_
      refine JT.done ?_
      refine J.c rfl (fun h4 => ?_) (fun h4 => ?_)
      refine J.so ?_
      refine JT.c rfl ?_
      refine JT.done ?_
      refine J.ret ?_
      refine seqQ_r ?_
      refine retQD (.t rfl .nil) rfl (Up.of (LinksP.fold (.there .here) (.there .here) (.there .here) (by first | assumption | omega | rfl | decide) (.dropT (Imp.refl _))))
      contradiction
  · focus
      refine J.so ?_
      refine JT.box rfl (fun b3 => ?_)
      refine JT.c rfl ?_
      refine JT.done ?_
      refine J.seq ?_
      refine J.so ?_
      iterate 2 refine JT.c rfl ?_
      refine JT.y rfl (Ev.fa' 5 rfl rfl) ?_
      refine JT.y rfl (Ev.L rfl rfl) ?_
      refine JT.y rfl (Ev.Lw rfl rfl) ?_
      refine JT.lk2n rfl (by rfl) (by assumption) ?_
      iterate 5 refine JT.c rfl ?_
      refine JT.done ?_
      refine J.so ?_
      refine JT.c rfl ?_
      refine JT.done ?_
      refine J.condF rfl ?_
      refine J.skip ?_
      refine seqQ_n ?_
      refine J.seq ?_
      refine J.so ?_
      refine JT.c rfl ?_
      refine JT.callD rfl rfl (Up.of (Imp.refl _)) lnEnd_fn ?_
      iterate 2 refine JT.c rfl ?_
      iterate 4 refine JT.gFs rfl (by first | assumption | omega) ?_
      refine JT.y rfl (Ev.pickTp rfl (by first | assumption | omega) rfl) ?_
      refine JT.done ?_
      refine J.condT rfl ?_
      refine J.so ?_
      refine JT.c rfl ?_
      refine JT.done ?_
      refine J.ret ?_
      refine seqQ_r ?_
      refine retQD (.t rfl .nil) rfl (Up.of (LinksP.fold (.there .here) (.there .here) (.there .here) (by first | assumption | omega | rfl | decide) (.dropT (Imp.refl _))))

theorem lnIn_some (b : Nat) (l : LK) (w : Vec) (F : List Assn) (a : RecA) (h : l.rec? w = some a) :
    Meets Try.prog 60 [ptr b, vv w] (LinksP b l :: F) (Some' (fun _ : Nat => True) (fun p => ptr p) (fun p => RecP p a :: LinksH b (l.touch w) w p :: F)) := by
  refine Meets.intro b60 k60 (by simp) ?_
  refine J.openLinks Has.here (fun T mb g hg => ?_)
  rcases rec?_some h with ⟨h1, h2⟩ | ⟨h1, hE, hm, rfl, h2⟩ <;> rw [h2]
  · rw [← hg, er_alk] at h1
    cases hk : alk g w with
    | none => rw [hk] at h1; cases h1
    | some x =>
      obtain ⟨p, a'⟩ := x
      rw [hk] at h1; injection h1 with h1; simp only at h1; subst h1
      obtain ⟨i, hi⟩ := alk_some_aix hk
      have hget := er_at hi hk
      have hp : (g[i]?).map (fun y => y.2.1) = some p := by rw [hget]; rfl
      refine J.imp (Imp.cons (Imp.cons (RecsA.take hget))) ?_
      focus
        refine J.so ?_
        refine JT.box rfl (fun b3 => ?_)
        refine JT.c rfl ?_
        refine JT.done ?_
        refine J.seq ?_
        refine J.so ?_
        iterate 2 refine JT.c rfl ?_
        refine JT.y rfl (Ev.fa' 5 rfl rfl) ?_
        refine JT.y rfl (Ev.L rfl rfl) ?_
        refine JT.y rfl (Ev.Lw rfl rfl) ?_
        refine JT.lk2s rfl (by rfl) (by assumption) ?_
        iterate 5 refine JT.c rfl ?_
        refine JT.done ?_
        refine J.so ?_
        refine JT.c rfl ?_
        refine JT.done ?_
        refine J.condT rfl ?_
        refine J.so ?_
        iterate 2 refine JT.c rfl ?_
        refine JT.done ?_
        refine J.ret ?_
        refine seqQ_r ?_
        refine retQS _ (.t rfl .nil) trivial rfl (Up.of (.take (.there (.there (.there .here))) (LinksH.fold (.there .here) (.there .here) (.there .here) (by first | assumption | omega | rfl | decide) (by first | assumption | omega | rfl | decide) (by first | assumption | omega | rfl | decide) (.dropT (Imp.refl _)))))
  · rw [← hg, er_alk] at h1
    have hk : alk g w = none := by simpa using h1
    have hn := alk_none_aix hk
    focus
      refine J.so ?_
      refine JT.box rfl (fun b3 => ?_)
      refine JT.c rfl ?_
      refine JT.done ?_
      refine J.seq ?_
      refine J.so ?_
      iterate 2 refine JT.c rfl ?_
      refine JT.y rfl (Ev.fa' 5 rfl rfl) ?_
      refine JT.y rfl (Ev.L rfl rfl) ?_
      refine JT.y rfl (Ev.Lw rfl rfl) ?_
      refine JT.lk2n rfl (by rfl) (by assumption) ?_
      iterate 5 refine JT.c rfl ?_
      refine JT.done ?_
      refine J.so ?_
      refine JT.c rfl ?_
      refine JT.done ?_
      refine J.condF rfl ?_
      refine J.skip ?_
      refine seqQ_n ?_
      refine J.seq ?_
      refine J.so ?_
      refine JT.c rfl ?_
      refine JT.callD rfl rfl (Up.of (Imp.refl _)) lnEnd_fn ?_
      iterate 2 refine JT.c rfl ?_
      refine JT.gF rfl (by first | assumption | omega) ?_
      refine JT.c rfl ?_
      refine JT.gF rfl (by first | assumption | omega) ?_
      refine JT.y rfl (Ev.Lw rfl rfl) ?_
      refine JT.gF rfl (by first | assumption | omega) ?_
      refine JT.callD rfl rfl (Up.of (Imp.refl _)) (lnMay_fn _) ?_
      refine JT.gF rfl (by first | assumption | omega) ?_
      refine JT.c rfl ?_
      refine JT.y rfl (Ev.pickFp rfl (by first | assumption | omega) rfl) ?_
      refine JT.done ?_
      refine J.c rfl (fun h3 => ?_) (fun h3 => ?_)
      contradiction
      refine J.skip ?_
      refine seqQ_n ?_
      refine J.so ?_
      refine JT.c rfl ?_
      refine JT.callS rfl rfl (Up.of (Imp.refl _)) lnFirst_fn (fun x29 _ => ?_)
      refine JT.c rfl ?_
      refine JT.done ?_
      refine J.so ?_
      iterate 2 refine JT.c rfl ?_
      refine JT.y rfl (Ev.fa' 5 rfl rfl) ?_
      refine JT.y rfl (Ev.L rfl rfl) ?_
      refine JT.y rfl (Ev.Lw rfl rfl) ?_
      refine JT.c rfl ?_
    refine JT.mu (v := (x29, l.first)) rfl (by rfl) rfl ?_
    have e : aput g w (x29, l.first) = g ++ [(w, (x29, l.first))] := by unfold aput; rw [hn]
    rw [e]
    have hR : RecsA g = RecsA ((g ++ [(w, (x29, l.first))]).eraseIdx g.length) := by rw [List.eraseIdx_append_of_length_le (Nat.le_refl _)]; simp
    have he := er_snoc g w (x29, l.first) l hg hn
    have hi := aix_snoc (v := (x29, l.first)) hn
    have hp : ((g ++ [(w, (x29, l.first))])[g.length]?).map (fun y => y.2.1) = some x29 := by simp
    rw [hR]
    focus
      refine JT.done ?_
      refine J.so ?_
      iterate 2 refine JT.c rfl ?_
      refine JT.done ?_
      refine J.ret ?_
      refine retQS _ (.t rfl .nil) trivial rfl (Up.of (.take (.there .here) (LinksH.fold (.there (.there .here)) .here (.there .here) (by first | assumption | omega | rfl | decide) (by first | assumption | omega | rfl | decide) (by first | assumption | omega | rfl | decide) (.dropT (Imp.refl _)))))
  
theorem lnIs_P (b : Nat) (l : LK) (F : List Assn) : Meets Try.prog 59 [ptr b] (LinksP b l :: F) (Det (.bool true) (LinksP b l :: F)) := by
  refine Meets.intro b59 k59 (by simp) ?_
  refine J.openLinks Has.here (fun T mb g hg => ?_)
  focus
    refine J.so ?_
    refine JT.c rfl ?_
    refine JT.done ?_
    refine J.so ?_
    iterate 3 refine JT.c rfl ?_
    refine JT.yg rfl rfl (fun h1 => Ev.calc rfl) ?_
    refine JT.yg rfl rfl (fun h1 => by simp only [h1, gd_true, gd_false, Bool.not_false, Bool.not_true, Bool.true_and, Bool.and_true]; exact Ev.calc rfl) ?_
    refine JT.yg rfl rfl (fun h1 => by simp only [h1, gd_true, gd_false, Bool.not_false, Bool.not_true, Bool.true_and, Bool.and_true]; exact Ev.fa' 5 rfl rfl) ?_
    refine JT.yg rfl rfl (fun h1 => by simp only [h1, gd_true, gd_false, Bool.not_false, Bool.not_true, Bool.true_and, Bool.and_true]; exact Ev.L rfl rfl) ?_
    refine JT.yg rfl rfl (fun h1 => by simp only [h1, gd_true, gd_false, Bool.not_false, Bool.not_true, Bool.true_and, Bool.and_true]; exact Ev.calc rfl) ?_
    refine JT.y rfl (Ev.pickT rfl rfl) ?_
    refine JT.c rfl ?_
    refine JT.done ?_
    refine J.ret ?_
    refine retQD (.t rfl .nil) rfl (Up.of (LinksP.fold .here .here .here (by first | assumption | omega | rfl | decide) (Imp.refl _)))
theorem lnEnd_P (b : Nat) (l : LK) (F : List Assn) : Meets Try.prog 65 [ptr b] (LinksP b l :: F) (Det (.bool (decide l.isEnd)) (LinksP b l :: F)) := by
  refine Meets.intro b65 k65 (by simp) ?_
  refine J.openLinks Has.here (fun T mb g hg => ?_)
  by_cases h1 : l.me.key.rank = 1
  · focus
      refine J.so ?_
      refine JT.c rfl ?_
      refine JT.done ?_
      refine J.so ?_
      refine JT.c rfl ?_
      refine JT.callD rfl rfl (Up.of (Imp.refl _)) lnHead_fn ?_
      refine JT.c rfl ?_
      iterate 2 refine JT.gFs rfl (by first | assumption | omega) ?_
      refine JT.y rfl (Ev.pickTp rfl (by first | assumption | omega) rfl) ?_
      refine JT.c rfl ?_
      refine JT.done ?_
      refine J.ret ?_
      refine retQD (.t rfl .nil) ?_ (Up.of (LinksP.fold .here .here .here (by first | assumption | omega | rfl | decide) (Imp.refl _)))
    simp only [mkRet]; rw [decide_eq_true (show l.isEnd from .inl h1)]
  · focus
      refine J.so ?_
      refine JT.c rfl ?_
      refine JT.done ?_
      refine J.so ?_
      refine JT.c rfl ?_
      refine JT.callD rfl rfl (Up.of (Imp.refl _)) lnHead_fn ?_
      refine JT.c rfl ?_
      refine JT.gF rfl (by first | assumption | omega) ?_
      refine JT.c rfl ?_
      refine JT.gF rfl (by first | assumption | omega) ?_
      refine JT.callD rfl rfl (Up.of (Imp.refl _)) lnTail_fn ?_
      refine JT.y rfl (Ev.pickFp rfl (by first | assumption | omega) rfl) ?_
      refine JT.c rfl ?_
      refine JT.done ?_
      refine J.ret ?_
      refine retQD (.t rfl .nil) ?_ (Up.of (LinksP.fold .here .here .here (by first | assumption | omega | rfl | decide) (Imp.refl _)))
    simp only [mkRet]; congr 1; rw [Bool.eq_iff_iff]; simp [LK.isEnd, h1]
theorem lnMay_P (b : Nat) (l : LK) (w : Vec) (F : List Assn) : Meets Try.prog 40 [ptr b, vv w] (LinksP b l :: F) (Det (.bool (decide (l.may w))) (LinksP b l :: F)) := by
  refine Meets.intro b40 k40 (by simp) ?_
  by_cases hE : l.isEnd
  · by_cases hw : vecOk w
    · refine J.openLinks Has.here (fun T mb g hg => ?_)
      focus
        refine J.so ?_
        refine JT.box rfl (fun b3 => ?_)
        refine JT.c rfl ?_
        refine JT.done ?_
        refine J.seq ?_
        refine J.so ?_
        refine JT.c rfl ?_
        refine JT.callD rfl rfl (Up.of (Imp.refl _)) lnIs_fn ?_
        refine JT.c rfl ?_
        refine JT.done ?_
        refine J.condF rfl ?_
        refine J.skip ?_
        refine seqQ_n ?_
        refine J.seq ?_
        refine J.so ?_
        refine JT.c rfl ?_
        refine JT.callD rfl rfl (Up.of (Imp.refl _)) lnEnd_fn ?_
        refine JT.done ?_
        refine J.c rfl (fun h1 => ?_) (fun h1 => ?_)
        refine J.so ?_
        refine JT.y rfl (Ev.Lw rfl rfl) ?_
        refine JT.callD rfl rfl (Up.of (Imp.refl _)) (vRight_fn _ _) ?_
        refine JT.y rfl (Ev.int rfl rfl rfl) ?_
        refine JT.c rfl ?_
        refine JT.gT rfl (by first | assumption | omega) ?_
        refine JT.y rfl (Ev.fa' 0 rfl rfl) ?_
        refine JT.gT rfl (by first | assumption | omega) ?_
        refine JT.y rfl (Ev.L rfl rfl) ?_
        refine JT.gT rfl (by first | assumption | omega) ?_
        refine JT.c rfl ?_
        refine JT.gT rfl (by first | assumption | omega) ?_
        refine JT.c rfl ?_
        refine JT.gT rfl (by first | assumption | omega) ?_
        refine JT.y rfl (Ev.fa' 0 rfl rfl) ?_
        refine JT.gT rfl (by first | assumption | omega) ?_
        refine JT.y rfl (Ev.fa' 3 rfl rfl) ?_
        refine JT.gT rfl (by first | assumption | omega) ?_
        refine JT.y rfl (Ev.fa' 3 rfl rfl) ?_
        refine JT.gT rfl (by first | assumption | omega) ?_
        refine JT.y rfl (Ev.L rfl rfl) ?_
        refine JT.gT rfl (by first | assumption | omega) ?_
        refine JT.y rfl (Ev.int rfl rfl rfl) ?_
        refine JT.y rfl (Ev.pickTp rfl (by first | assumption | omega) rfl) ?_
        refine JT.c rfl ?_
        refine JT.done ?_
        refine J.ret ?_
        refine seqQ_r ?_
        refine retQD (.t rfl .nil) ?_ (Up.of (LinksP.fold (.there .here) (.there .here) (.there .here) (by first | assumption | omega | rfl | decide) (.dropT (Imp.refl _))))
        rotate_left
        contradiction
      simp only [mkRet]; congr 1; rw [Bool.eq_iff_iff]; simp [LK.may, hE, hw]
    · refine J.openLinks Has.here (fun T mb g hg => ?_)
      focus
        refine J.so ?_
        refine JT.box rfl (fun b3 => ?_)
        refine JT.c rfl ?_
        refine JT.done ?_
        refine J.seq ?_
        refine J.so ?_
        refine JT.c rfl ?_
        refine JT.callD rfl rfl (Up.of (Imp.refl _)) lnIs_fn ?_
        refine JT.c rfl ?_
        refine JT.done ?_
        refine J.condF rfl ?_
        refine J.skip ?_
        refine seqQ_n ?_
        refine J.seq ?_
        refine J.so ?_
        refine JT.c rfl ?_
        refine JT.callD rfl rfl (Up.of (Imp.refl _)) lnEnd_fn ?_
        refine JT.done ?_
        refine J.c rfl (fun h1 => ?_) (fun h1 => ?_)
        refine J.so ?_
        refine JT.y rfl (Ev.Lw rfl rfl) ?_
        refine JT.callD rfl rfl (Up.of (Imp.refl _)) (vRight_fn _ _) ?_
        refine JT.y rfl (Ev.int rfl rfl rfl) ?_
        refine JT.c rfl ?_
        iterate 9 refine JT.gTs rfl (by first | assumption | omega) ?_
        refine JT.y rfl (Ev.pickFp rfl (by first | assumption | omega) rfl) ?_
        refine JT.c rfl ?_
        refine JT.done ?_
        refine J.ret ?_
        refine seqQ_r ?_
        refine retQD (.t rfl .nil) ?_ (Up.of (LinksP.fold (.there .here) (.there .here) (.there .here) (by first | assumption | omega | rfl | decide) (.dropT (Imp.refl _))))
        rotate_left
        contradiction
      simp only [mkRet]; congr 1; rw [Bool.eq_iff_iff]; simp [LK.may, hE, hw]
  · refine J.openLinks Has.here (fun T mb g hg => ?_)
    focus
      refine J.so ?_
      refine JT.box rfl (fun b3 => ?_)
      refine JT.c rfl ?_
      refine JT.done ?_
      refine J.seq ?_
      refine J.so ?_
      refine JT.c rfl ?_
      refine JT.callD rfl rfl (Up.of (Imp.refl _)) lnIs_fn ?_
      refine JT.c rfl ?_
      refine JT.done ?_
      refine J.condF rfl ?_
      refine J.skip ?_
      refine seqQ_n ?_
      refine J.seq ?_
      refine J.so ?_
      refine JT.c rfl ?_
      refine JT.callD rfl rfl (Up.of (Imp.refl _)) lnEnd_fn ?_
      refine JT.done ?_
      refine J.c rfl (fun h1 => ?_) (fun h1 => ?_)
      contradiction
      refine J.skip ?_
      refine seqQ_n ?_
      refine J.so ?_
      iterate 2 refine JT.c rfl ?_
      refine JT.y rfl (Ev.fa' 0 rfl rfl) ?_
      refine JT.y rfl (Ev.fa' 3 rfl rfl) ?_
      refine JT.y rfl (Ev.Lp (us := [_, _]) rfl (Nat.le_of_ble_eq_true rfl) rfl) ?_
      refine JT.y rfl (Ev.Lw rfl rfl) ?_
      refine JT.callD rfl rfl (Up.of (Imp.refl _)) (vBegins_fn _ _ _) ?_
      refine JT.c rfl ?_
      refine JT.done ?_
      refine J.ret ?_
      refine retQD (.t rfl .nil) ?_ (Up.of (LinksP.fold (.there .here) (.there .here) (.there .here) (by first | assumption | omega | rfl | decide) (.dropT (Imp.refl _))))
    simp only [mkRet]; congr 1; rw [Bool.eq_iff_iff]; simp [LK.may, hE]

theorem recState_fn (p : Nat) (a : RecA) (w : Vec) (F : List Assn) (hS : a.lk.w.length ≤ 8388608) : Meets Try.prog 61 [ptr p, vv w] (RecP p a :: F)
    (Some' (fun _ : Option Addr × Nat => True) (fun x => rsv (a.state w) x.1 x.2) (fun x => SlT false ownerC 2 (.slice x.1 a.lk.w.length x.2) x.2 a.lk.w :: RecP p a :: F)) := by
  refine Meets.intro b61 k61 (by simp) ?_
  refine J.openRec Has.here (fun T lb => ?_)
  focus
    refine J.so ?_
    refine JT.box rfl (fun b3 => ?_)
    refine JT.new (fun b4 => ?_)
    refine JT.done ?_
    refine J.so ?_
    refine JT.y rfl (Ev.Lw rfl rfl) ?_
    iterate 2 refine JT.c rfl ?_
    refine JT.y rfl (Ev.fa' 0 rfl rfl) ?_
    refine JT.y rfl (Ev.Lp (us := [_, _, _, _, _]) rfl (Nat.le_of_ble_eq_true rfl) rfl) ?_
    iterate 2 refine JT.c rfl ?_
    refine JT.y rfl (Ev.fa' 5 rfl rfl) ?_
    refine JT.y rfl (Ev.Lp (us := [_, _, _, _, _]) rfl (Nat.le_of_ble_eq_true rfl) rfl) ?_
    iterate 2 refine JT.c rfl ?_
    refine JT.y rfl (Ev.fa' 10 rfl rfl) ?_
    refine JT.y rfl (Ev.L rfl rfl) ?_
    refine JT.both ?_ ?_
    refine JT.callS rfl rfl (Up.of (.take (.there (.there (.there .here))) (Imp.refl _))) (lkWaits_fn _ _ _ (by first | assumption | omega | decide | exact rfl)) (fun ⟨a19, c19⟩ _ => ?_)
    refine JT.yA rfl (Ev.Lw rfl rfl) ?_
    iterate 2 refine JT.yA rfl (Ev.Lp (us := [_, _, _, _, _]) rfl (Nat.le_of_ble_eq_true rfl) rfl) ?_
    refine JT.y rfl (Ev.agg (by repeat (first | exact Cells.nil | apply Cells.z | (apply Cells.cl; rfl; rfl; rfl)))) ?_
    refine JT.new (fun b5 => ?_)
    refine JT.w rfl rfl rfl rfl rfl ?_
    refine JT.done ?_
    refine J.so ?_
    iterate 2 refine JT.c rfl ?_
    refine JT.y rfl (Ev.fa' 10 rfl rfl) ?_
    refine JT.y rfl (Ev.L rfl rfl) ?_
    refine JT.callD rfl rfl (Up.of (.take (.there (.there .here)) (Imp.refl _))) (lkHolder_fn _ _ _) ?_
    iterate 3 refine JT.c rfl ?_
    refine JT.y rfl (Ev.fa' 13 rfl rfl) ?_
    refine JT.s (us := [_, _]) rfl rfl rfl rfl rfl (Nat.le_of_ble_eq_true rfl) (by simp only [lput]; rfl) ?_
    refine JT.y rfl (Ev.fa' 12 rfl rfl) ?_
    refine JT.s (us := [_]) rfl rfl rfl rfl rfl (Nat.le_of_ble_eq_true rfl) (by simp only [lput]; rfl) ?_
    refine JT.done ?_
    refine J.so ?_
    refine JT.y rfl (Ev.Lw rfl rfl) ?_
    refine JT.w rfl rfl rfl rfl rfl ?_
    refine JT.done ?_
    refine J.ret ?_
    refine retQS ⟨_, _⟩ (.w rfl rfl .nil) trivial rfl (Up.of (.take (.there (.there (.there .here))) (RecP.fold (.there (.there (.there (.there .here)))) (.there (.there .here)) (.dropT (.dropT (.dropT (Imp.refl _)))))))
    refine JT.new (fun b5 => ?_)
    refine JT.callS rfl rfl (Up.of (.take (.there (.there (.there (.there .here)))) (Imp.refl _))) (lkWaits_fn _ _ _ (by first | assumption | omega | decide | exact rfl)) (fun ⟨a19, c19⟩ _ => ?_)
    refine JT.yA rfl (Ev.Lw rfl rfl) ?_
    iterate 2 refine JT.yA rfl (Ev.Lp (us := [_, _, _, _, _]) rfl (Nat.le_of_ble_eq_true rfl) rfl) ?_
    refine JT.y rfl (Ev.agg (by repeat (first | exact Cells.nil | apply Cells.z | (apply Cells.cl; rfl; rfl; rfl)))) ?_
    refine JT.w rfl rfl rfl rfl rfl ?_
    refine JT.done ?_
    refine J.so ?_
    iterate 2 refine JT.c rfl ?_
    refine JT.y rfl (Ev.fa' 10 rfl rfl) ?_
    refine JT.y rfl (Ev.L rfl rfl) ?_
    refine JT.callD rfl rfl (Up.of (.take (.there (.there .here)) (Imp.refl _))) (lkHolder_fn _ _ _) ?_
    iterate 3 refine JT.c rfl ?_
    refine JT.y rfl (Ev.fa' 13 rfl rfl) ?_
    refine JT.s (us := [_, _]) rfl rfl rfl rfl rfl (Nat.le_of_ble_eq_true rfl) (by simp only [lput]; rfl) ?_
    refine JT.y rfl (Ev.fa' 12 rfl rfl) ?_
    refine JT.s (us := [_]) rfl rfl rfl rfl rfl (Nat.le_of_ble_eq_true rfl) (by simp only [lput]; rfl) ?_
    refine JT.done ?_
    refine J.so ?_
    refine JT.y rfl (Ev.Lw rfl rfl) ?_
    refine JT.w rfl rfl rfl rfl rfl ?_
    refine JT.done ?_
    refine J.ret ?_
    refine retQS ⟨_, _⟩ (.w rfl rfl .nil) trivial rfl (Up.of (.take (.there (.there (.there .here))) (RecP.fold (.there (.there (.there (.there .here)))) (.there (.there .here)) (.dropT (.dropT (.dropT (Imp.refl _)))))))

theorem lnGet_fn (b : Nat) (l : LK) (w : Vec) (F : List Assn) (hS : ∀ a, l.rec? w = some a → a.lk.w.length ≤ 8388608) : Meets Try.prog 30 [ptr b, vv w] (LinksP b l :: F)
    (Some' (fun _ : Option Addr × Nat => True) (fun x => .tuple #[rsv (l.getS w) x.1 x.2, .bool (l.getB w)]) (fun x => SlT false ownerC 2 (.slice x.1 (l.getS w).waits.length x.2) x.2 (l.getS w).waits :: LinksP b (l.touch w) :: F)) := by
  refine Meets.intro b30 k30 (by simp) ?_
  unfold LK.getS LK.getB
  cases h : l.rec? w with
  | none =>
    rw [(rec?_none h).2.2]
    refine J.nilS ownerC 2 false (by decide) ?_
    focus
      refine J.so ?_
      refine JT.box rfl (fun b3 => ?_)
      refine JT.new (fun b4 => ?_)
      refine JT.c rfl ?_
      refine JT.done ?_
      refine J.seq ?_
      refine J.so ?_
      refine JT.c rfl ?_
      refine JT.callD rfl rfl (Up.of (.take (.there (.there (.there .here))) (Imp.refl _))) (lnIs_P _ _ _) ?_
      refine JT.c rfl ?_
      refine JT.done ?_
      refine J.condF rfl ?_
      refine J.skip ?_
      refine seqQ_n ?_
      refine J.so ?_
      refine JT.c rfl ?_
      refine JT.y rfl (Ev.Lw rfl rfl) ?_
      refine JT.callD rfl rfl (Up.of (.take .here (Imp.refl _))) (lnIn_none _ _ _ _ (by first | assumption | omega | decide | exact rfl)) ?_
      refine JT.c rfl ?_
      refine JT.done ?_
      refine J.seq ?_
      refine J.so ?_
      iterate 2 refine JT.c rfl ?_
      refine JT.done ?_
      refine J.condT rfl ?_
      refine J.so ?_
      refine JT.y rfl (Ev.agg (by repeat (first | exact Cells.nil | apply Cells.z | (apply Cells.cl; rfl; rfl; rfl)))) ?_
      refine JT.w rfl rfl rfl rfl rfl ?_
      refine JT.c rfl ?_
      refine JT.done ?_
      refine J.ret ?_
      refine seqQ_r ?_
      refine retQS ⟨_, _⟩ (.w rfl rfl (.t rfl .nil)) trivial rfl (Up.of (.take (.there (.there (.there .here))) (.take (.there .here) (.dropT (.dropT (Imp.refl _))))))
    | some a =>
    have hS' := hS a h
    focus
      refine J.so ?_
      refine JT.box rfl (fun b3 => ?_)
      refine JT.new (fun b4 => ?_)
      refine JT.c rfl ?_
      refine JT.done ?_
      refine J.seq ?_
      refine J.so ?_
      refine JT.c rfl ?_
      refine JT.callD rfl rfl (Up.of (.take (.there (.there .here)) (Imp.refl _))) (lnIs_P _ _ _) ?_
      refine JT.c rfl ?_
      refine JT.done ?_
      refine J.condF rfl ?_
      refine J.skip ?_
      refine seqQ_n ?_
      refine J.so ?_
      refine JT.c rfl ?_
      refine JT.y rfl (Ev.Lw rfl rfl) ?_
      refine JT.callS rfl rfl (Up.of (.take .here (Imp.refl _))) (lnIn_some _ _ _ _ _ (by first | assumption | omega | decide | exact rfl)) (fun x13 _ => ?_)
      refine JT.c rfl ?_
      refine JT.done ?_
      refine J.seq ?_
      refine J.so ?_
      iterate 2 refine JT.c rfl ?_
      refine JT.done ?_
      refine J.condF rfl ?_
      refine J.skip ?_
      refine seqQ_n ?_
      refine J.so ?_
      refine JT.c rfl ?_
      refine JT.y rfl (Ev.Lw rfl rfl) ?_
      refine JT.callS rfl rfl (Up.of (.take .here (Imp.refl _))) (recState_fn _ _ _ _ (by first | assumption | omega | decide | exact rfl)) (fun ⟨a19, c19⟩ _ => ?_)
      refine JT.w rfl rfl rfl rfl rfl ?_
      refine JT.c rfl ?_
      refine JT.done ?_
      refine J.ret ?_
    refine retQ_up (LinksH.up (.there (.there .here)) (.there (.there .here)) (touch_upd h)) ?_
    focus
      refine retQS ⟨_, _⟩ (.w rfl rfl (.t rfl .nil)) trivial rfl (Up.of (.take (.there (.there .here)) (.take .here (.dropT (.dropT (Imp.refl _))))))
  
theorem lnEnd_H (b : Nat) (l : LK) (w : Vec) (p : Nat) (F : List Assn) : Meets Try.prog 65 [ptr b] (LinksH b l w p :: F) (Det (.bool (decide (l.isEnd))) (LinksH b l w p :: F)) := by
  refine Meets.intro b65 k65 (by simp) ?_
  refine J.openLinksH Has.here (fun T mb g i he hi hp => ?_)
  obtain ⟨a0, hg⟩ := hp
  have hp : (g[i]?).map (fun y => y.2.1) = some p := by rw [hg]; rfl
  by_cases h1 : l.me.key.rank = 1
  · focus
      refine J.so ?_
      refine JT.c rfl ?_
      refine JT.done ?_
      refine J.so ?_
      refine JT.c rfl ?_
      refine JT.callD rfl rfl (Up.of (Imp.refl _)) lnHead_fn ?_
      refine JT.c rfl ?_
      iterate 2 refine JT.gFs rfl (by first | assumption | omega) ?_
      refine JT.y rfl (Ev.pickTp rfl (by first | assumption | omega) rfl) ?_
      refine JT.c rfl ?_
      refine JT.done ?_
      refine J.ret ?_
      refine retQD (.t rfl .nil) ?_ (Up.of (LinksH.fold .here .here .here (by first | assumption | omega | rfl | decide) (by first | assumption | omega | rfl | decide) (by first | assumption | omega | rfl | decide) (Imp.refl _)))
    simp only [mkRet]; rw [decide_eq_true (show l.isEnd from .inl h1)]
  · focus
      refine J.so ?_
      refine JT.c rfl ?_
      refine JT.done ?_
      refine J.so ?_
      refine JT.c rfl ?_
      refine JT.callD rfl rfl (Up.of (Imp.refl _)) lnHead_fn ?_
      refine JT.c rfl ?_
      refine JT.gF rfl (by first | assumption | omega) ?_
      refine JT.c rfl ?_
      refine JT.gF rfl (by first | assumption | omega) ?_
      refine JT.callD rfl rfl (Up.of (Imp.refl _)) lnTail_fn ?_
      refine JT.y rfl (Ev.pickFp rfl (by first | assumption | omega) rfl) ?_
      refine JT.c rfl ?_
      refine JT.done ?_
      refine J.ret ?_
      refine retQD (.t rfl .nil) ?_ (Up.of (LinksH.fold .here .here .here (by first | assumption | omega | rfl | decide) (by first | assumption | omega | rfl | decide) (by first | assumption | omega | rfl | decide) (Imp.refl _)))
    simp only [mkRet]; congr 1; rw [Bool.eq_iff_iff]; simp [LK.isEnd, h1]
theorem lnToLeft_H (b : Nat) (l : LK) (w : Vec) (p : Nat) (a : Ref) (F : List Assn) : Meets Try.prog 66 [ptr b, rv a] (LinksH b l w p :: F) (Det (.bool (decide (l.toLeft a))) (LinksH b l w p :: F)) := by
  refine Meets.intro b66 k66 (by simp) ?_
  refine J.openLinksH Has.here (fun T mb g i he hi hp => ?_)
  obtain ⟨a0, hg⟩ := hp
  have hp : (g[i]?).map (fun y => y.2.1) = some p := by rw [hg]; rfl
  focus
    refine J.so ?_
    refine JT.box rfl (fun b3 => ?_)
    refine JT.c rfl ?_
    refine JT.done ?_
    refine J.so ?_
    refine JT.y rfl (Ev.fa' 1 rfl rfl) ?_
    refine JT.y rfl (Ev.Lf rfl (Nat.le_of_ble_eq_true rfl)) ?_
    refine JT.callD rfl rfl (Up.of (Imp.refl _)) (kCheck_fn _ _) ?_
    refine JT.y rfl (Ev.int rfl rfl rfl) ?_
    refine JT.c rfl ?_
    refine JT.gp rfl (fun h1 => ?_) (fun h1 => ?_)
    refine JT.y rfl (Ev.fa' 1 rfl rfl) ?_
    refine JT.gT rfl (by first | assumption | omega) ?_
    refine JT.y rfl (Ev.Lf rfl (Nat.le_of_ble_eq_true rfl)) ?_
    refine JT.gT rfl (by first | assumption | omega) ?_
    refine JT.c rfl ?_
    refine JT.gT rfl (by first | assumption | omega) ?_
    refine JT.c rfl ?_
    refine JT.gT rfl (by first | assumption | omega) ?_
    refine JT.y rfl (Ev.fa' 0 rfl rfl) ?_
    refine JT.gT rfl (by first | assumption | omega) ?_
    refine JT.y rfl (Ev.fa' 1 rfl rfl) ?_
    refine JT.gT rfl (by first | assumption | omega) ?_
    refine JT.y rfl (Ev.Lp (us := [_, _]) rfl (Nat.le_of_ble_eq_true rfl) rfl) ?_
    refine JT.gT rfl (by first | assumption | omega) ?_
    refine JT.callD rfl rfl (Up.of (Imp.refl _)) (kLess_fn _ _ _) ?_
    refine JT.y rfl (Ev.pickTp rfl (by first | assumption | omega) rfl) ?_
    refine JT.c rfl ?_
    refine JT.done ?_
    refine J.ret ?_
    refine retQD (.t rfl .nil) ?_ (Up.of (LinksH.fold (.there .here) (.there .here) (.there .here) (by first | assumption | omega | rfl | decide) (by first | assumption | omega | rfl | decide) (by first | assumption | omega | rfl | decide) (.dropT (Imp.refl _))))
    rotate_left
    iterate 7 refine JT.gTs rfl (by first | assumption | omega) ?_
    refine JT.y rfl (Ev.pickFp rfl (by first | assumption | omega) rfl) ?_
    refine JT.c rfl ?_
    refine JT.done ?_
    refine J.ret ?_
    refine retQD (.t rfl .nil) ?_ (Up.of (LinksH.fold (.there .here) (.there .here) (.there .here) (by first | assumption | omega | rfl | decide) (by first | assumption | omega | rfl | decide) (by first | assumption | omega | rfl | decide) (.dropT (Imp.refl _))))
    rotate_left
  all_goals (simp only [mkRet]; congr 1; rw [Bool.eq_iff_iff]; simp [LK.toLeft, h1])
theorem lnToRight_H (b : Nat) (l : LK) (w : Vec) (p : Nat) (a : Ref) (F : List Assn) : Meets Try.prog 67 [ptr b, rv a] (LinksH b l w p :: F) (Det (.bool (decide (l.toRight a))) (LinksH b l w p :: F)) := by
  refine Meets.intro b67 k67 (by simp) ?_
  refine J.openLinksH Has.here (fun T mb g i he hi hp => ?_)
  obtain ⟨a0, hg⟩ := hp
  have hp : (g[i]?).map (fun y => y.2.1) = some p := by rw [hg]; rfl
  focus
    refine J.so ?_
    refine JT.box rfl (fun b3 => ?_)
    refine JT.c rfl ?_
    refine JT.done ?_
    refine J.so ?_
    refine JT.y rfl (Ev.fa' 1 rfl rfl) ?_
    refine JT.y rfl (Ev.Lf rfl (Nat.le_of_ble_eq_true rfl)) ?_
    refine JT.callD rfl rfl (Up.of (Imp.refl _)) (kCheck_fn _ _) ?_
    refine JT.y rfl (Ev.int rfl rfl rfl) ?_
    refine JT.c rfl ?_
    refine JT.gp rfl (fun h1 => ?_) (fun h1 => ?_)
    refine JT.c rfl ?_
    refine JT.gT rfl (by first | assumption | omega) ?_
    refine JT.c rfl ?_
    refine JT.gT rfl (by first | assumption | omega) ?_
    refine JT.y rfl (Ev.fa' 0 rfl rfl) ?_
    refine JT.gT rfl (by first | assumption | omega) ?_
    refine JT.y rfl (Ev.fa' 1 rfl rfl) ?_
    refine JT.gT rfl (by first | assumption | omega) ?_
    refine JT.y rfl (Ev.Lp (us := [_, _]) rfl (Nat.le_of_ble_eq_true rfl) rfl) ?_
    refine JT.gT rfl (by first | assumption | omega) ?_
    refine JT.y rfl (Ev.fa' 1 rfl rfl) ?_
    refine JT.gT rfl (by first | assumption | omega) ?_
    refine JT.y rfl (Ev.Lf rfl (Nat.le_of_ble_eq_true rfl)) ?_
    refine JT.gT rfl (by first | assumption | omega) ?_
    refine JT.callD rfl rfl (Up.of (Imp.refl _)) (kLess_fn _ _ _) ?_
    refine JT.y rfl (Ev.pickTp rfl (by first | assumption | omega) rfl) ?_
    refine JT.c rfl ?_
    refine JT.done ?_
    refine J.ret ?_
    refine retQD (.t rfl .nil) ?_ (Up.of (LinksH.fold (.there .here) (.there .here) (.there .here) (by first | assumption | omega | rfl | decide) (by first | assumption | omega | rfl | decide) (by first | assumption | omega | rfl | decide) (.dropT (Imp.refl _))))
    rotate_left
    iterate 7 refine JT.gTs rfl (by first | assumption | omega) ?_
    refine JT.y rfl (Ev.pickFp rfl (by first | assumption | omega) rfl) ?_
    refine JT.c rfl ?_
    refine JT.done ?_
    refine J.ret ?_
    refine retQD (.t rfl .nil) ?_ (Up.of (LinksH.fold (.there .here) (.there .here) (.there .here) (by first | assumption | omega | rfl | decide) (by first | assumption | omega | rfl | decide) (by first | assumption | omega | rfl | decide) (.dropT (Imp.refl _))))
    rotate_left
  all_goals (simp only [mkRet]; congr 1; rw [Bool.eq_iff_iff]; simp [LK.toRight, h1])
theorem lnToLeft_P (b : Nat) (l : LK) (a : Ref) (F : List Assn) : Meets Try.prog 66 [ptr b, rv a] (LinksP b l :: F) (Det (.bool (decide (l.toLeft a))) (LinksP b l :: F)) := by
  refine Meets.intro b66 k66 (by simp) ?_
  refine J.openLinks Has.here (fun T mb g hg => ?_)
  focus
    refine J.so ?_
    refine JT.box rfl (fun b3 => ?_)
    refine JT.c rfl ?_
    refine JT.done ?_
    refine J.so ?_
    refine JT.y rfl (Ev.fa' 1 rfl rfl) ?_
    refine JT.y rfl (Ev.Lf rfl (Nat.le_of_ble_eq_true rfl)) ?_
    refine JT.callD rfl rfl (Up.of (Imp.refl _)) (kCheck_fn _ _) ?_
    refine JT.y rfl (Ev.int rfl rfl rfl) ?_
    refine JT.c rfl ?_
    refine JT.gp rfl (fun h1 => ?_) (fun h1 => ?_)
    refine JT.y rfl (Ev.fa' 1 rfl rfl) ?_
    refine JT.gT rfl (by first | assumption | omega) ?_
    refine JT.y rfl (Ev.Lf rfl (Nat.le_of_ble_eq_true rfl)) ?_
    refine JT.gT rfl (by first | assumption | omega) ?_
    refine JT.c rfl ?_
    refine JT.gT rfl (by first | assumption | omega) ?_
    refine JT.c rfl ?_
    refine JT.gT rfl (by first | assumption | omega) ?_
    refine JT.y rfl (Ev.fa' 0 rfl rfl) ?_
    refine JT.gT rfl (by first | assumption | omega) ?_
    refine JT.y rfl (Ev.fa' 1 rfl rfl) ?_
    refine JT.gT rfl (by first | assumption | omega) ?_
    refine JT.y rfl (Ev.Lp (us := [_, _]) rfl (Nat.le_of_ble_eq_true rfl) rfl) ?_
    refine JT.gT rfl (by first | assumption | omega) ?_
    refine JT.callD rfl rfl (Up.of (Imp.refl _)) (kLess_fn _ _ _) ?_
    refine JT.y rfl (Ev.pickTp rfl (by first | assumption | omega) rfl) ?_
    refine JT.c rfl ?_
    refine JT.done ?_
    refine J.ret ?_
    refine retQD (.t rfl .nil) ?_ (Up.of (LinksP.fold (.there .here) (.there .here) (.there .here) (by first | assumption | omega | rfl | decide) (.dropT (Imp.refl _))))
    rotate_left
    iterate 7 refine JT.gTs rfl (by first | assumption | omega) ?_
    refine JT.y rfl (Ev.pickFp rfl (by first | assumption | omega) rfl) ?_
    refine JT.c rfl ?_
    refine JT.done ?_
    refine J.ret ?_
    refine retQD (.t rfl .nil) ?_ (Up.of (LinksP.fold (.there .here) (.there .here) (.there .here) (by first | assumption | omega | rfl | decide) (.dropT (Imp.refl _))))
    rotate_left
  all_goals (simp only [mkRet]; congr 1; rw [Bool.eq_iff_iff]; simp [LK.toLeft, h1])
theorem lnToRight_P (b : Nat) (l : LK) (a : Ref) (F : List Assn) : Meets Try.prog 67 [ptr b, rv a] (LinksP b l :: F) (Det (.bool (decide (l.toRight a))) (LinksP b l :: F)) := by
  refine Meets.intro b67 k67 (by simp) ?_
  refine J.openLinks Has.here (fun T mb g hg => ?_)
  focus
    refine J.so ?_
    refine JT.box rfl (fun b3 => ?_)
    refine JT.c rfl ?_
    refine JT.done ?_
    refine J.so ?_
    refine JT.y rfl (Ev.fa' 1 rfl rfl) ?_
    refine JT.y rfl (Ev.Lf rfl (Nat.le_of_ble_eq_true rfl)) ?_
    refine JT.callD rfl rfl (Up.of (Imp.refl _)) (kCheck_fn _ _) ?_
    refine JT.y rfl (Ev.int rfl rfl rfl) ?_
    refine JT.c rfl ?_
    refine JT.gp rfl (fun h1 => ?_) (fun h1 => ?_)
    refine JT.c rfl ?_
    refine JT.gT rfl (by first | assumption | omega) ?_
    refine JT.c rfl ?_
    refine JT.gT rfl (by first | assumption | omega) ?_
    refine JT.y rfl (Ev.fa' 0 rfl rfl) ?_
    refine JT.gT rfl (by first | assumption | omega) ?_
    refine JT.y rfl (Ev.fa' 1 rfl rfl) ?_
    refine JT.gT rfl (by first | assumption | omega) ?_
    refine JT.y rfl (Ev.Lp (us := [_, _]) rfl (Nat.le_of_ble_eq_true rfl) rfl) ?_
    refine JT.gT rfl (by first | assumption | omega) ?_
    refine JT.y rfl (Ev.fa' 1 rfl rfl) ?_
    refine JT.gT rfl (by first | assumption | omega) ?_
    refine JT.y rfl (Ev.Lf rfl (Nat.le_of_ble_eq_true rfl)) ?_
    refine JT.gT rfl (by first | assumption | omega) ?_
    refine JT.callD rfl rfl (Up.of (Imp.refl _)) (kLess_fn _ _ _) ?_
    refine JT.y rfl (Ev.pickTp rfl (by first | assumption | omega) rfl) ?_
    refine JT.c rfl ?_
    refine JT.done ?_
    refine J.ret ?_
    refine retQD (.t rfl .nil) ?_ (Up.of (LinksP.fold (.there .here) (.there .here) (.there .here) (by first | assumption | omega | rfl | decide) (.dropT (Imp.refl _))))
    rotate_left
    iterate 7 refine JT.gTs rfl (by first | assumption | omega) ?_
    refine JT.y rfl (Ev.pickFp rfl (by first | assumption | omega) rfl) ?_
    refine JT.c rfl ?_
    refine JT.done ?_
    refine J.ret ?_
    refine retQD (.t rfl .nil) ?_ (Up.of (LinksP.fold (.there .here) (.there .here) (.there .here) (by first | assumption | omega | rfl | decide) (.dropT (Imp.refl _))))
    rotate_left
  all_goals (simp only [mkRet]; congr 1; rw [Bool.eq_iff_iff]; simp [LK.toRight, h1])
theorem lnNew_ok (me : Ref) (F : List Assn) (h1 : keyOk me.key) (h2 : vecOk me.vec) : Meets Try.prog 33 [rv me] F (Some' (fun _ : Nat => True) (fun b => .tuple #[ptr b, i64 0]) (fun b => LinksP b ⟨me, []⟩ :: F)) := by
  refine Meets.intro b33 k33 (by simp) ?_
  have hg : GM.er [] = (⟨me, []⟩ : LK).m := rfl
  refine J.imp RecsA.nil ?_
  focus
    refine J.so ?_
    refine JT.box rfl (fun b1 => ?_)
    iterate 2 refine JT.c rfl ?_
    refine JT.done ?_
    refine J.seq ?_
    refine J.so ?_
    refine JT.y rfl (Ev.fa' 1 rfl rfl) ?_
    refine JT.y rfl (Ev.Lf rfl (Nat.le_of_ble_eq_true rfl)) ?_
    refine JT.callD rfl rfl (Up.of (Imp.refl _)) (kCheck_fn _ _) ?_
    refine JT.y rfl (Ev.int rfl rfl rfl) ?_
    refine JT.c rfl ?_
    refine JT.gF rfl (by first | assumption | omega) ?_
    refine JT.y rfl (Ev.fa' 3 rfl rfl) ?_
    refine JT.gF rfl (by first | assumption | omega) ?_
    refine JT.y rfl (Ev.Lf rfl (Nat.le_of_ble_eq_true rfl)) ?_
    refine JT.gF rfl (by first | assumption | omega) ?_
    refine JT.callD rfl rfl (Up.of (Imp.refl _)) (vRight_fn _ _) ?_
    refine JT.gF rfl (by first | assumption | omega) ?_
    refine JT.y rfl (Ev.int rfl rfl rfl) ?_
    refine JT.y rfl (Ev.pickFp rfl (by first | assumption | omega) rfl) ?_
    refine JT.done ?_
    refine J.c rfl (fun h3 => ?_) (fun h3 => ?_)
    contradiction
    refine J.skip ?_
    refine seqQ_n ?_
    refine J.so ?_
    refine JT.y rfl (Ev.Lw rfl rfl) ?_
  refine JT.mkm vv (fun x : Nat × RecA => ptr x.1) (fun b15 => ?_)
  focus
    refine JT.y rfl (Ev.agg (by repeat (first | exact Cells.nil | apply Cells.z | (apply Cells.cl; rfl; rfl; rfl)))) ?_
    refine JT.box rfl (fun b17 => ?_)
    iterate 2 refine JT.c rfl ?_
    refine JT.done ?_
    refine J.ret ?_
    refine retQS _ (.t rfl (.t rfl .nil)) trivial rfl (Up.of (LinksP.fold .here .here (.there .here) (by first | assumption | omega | rfl | decide) (.dropT (Imp.refl _))))
theorem lnNew_no (me : Ref) (F : List Assn) (h : ¬ (keyOk me.key ∧ vecOk me.vec)) : Meets Try.prog 33 [rv me] F (Det (.tuple #[.pointer none, i64 80]) F) := by
  refine Meets.intro b33 k33 (by simp) ?_
  by_cases h1 : keyOk me.key
  · have h2 : ¬ vecOk me.vec := fun h2 => h ⟨h1, h2⟩
    focus
      refine J.so ?_
      refine JT.box rfl (fun b1 => ?_)
      iterate 2 refine JT.c rfl ?_
      refine JT.done ?_
      refine J.seq ?_
      refine J.so ?_
      refine JT.y rfl (Ev.fa' 1 rfl rfl) ?_
      refine JT.y rfl (Ev.Lf rfl (Nat.le_of_ble_eq_true rfl)) ?_
      refine JT.callD rfl rfl (Up.of (Imp.refl _)) (kCheck_fn _ _) ?_
      refine JT.y rfl (Ev.int rfl rfl rfl) ?_
      refine JT.c rfl ?_
      refine JT.gF rfl (by first | assumption | omega) ?_
      refine JT.y rfl (Ev.fa' 3 rfl rfl) ?_
      refine JT.gF rfl (by first | assumption | omega) ?_
      refine JT.y rfl (Ev.Lf rfl (Nat.le_of_ble_eq_true rfl)) ?_
      refine JT.gF rfl (by first | assumption | omega) ?_
      refine JT.callD rfl rfl (Up.of (Imp.refl _)) (vRight_fn _ _) ?_
      refine JT.gF rfl (by first | assumption | omega) ?_
      refine JT.y rfl (Ev.int rfl rfl rfl) ?_
      refine JT.y rfl (Ev.pickFp rfl (by first | assumption | omega) rfl) ?_
      refine JT.done ?_
      refine J.c rfl (fun h3 => ?_) (fun h3 => ?_)
      refine J.so ?_
      iterate 2 refine JT.c rfl ?_
      refine JT.done ?_
      refine J.ret ?_
      refine seqQ_r ?_
      refine retQD (.t rfl (.t rfl .nil)) rfl (Up.of (.dropT (Imp.refl _)))
      contradiction
  · focus
      refine J.so ?_
      refine JT.box rfl (fun b1 => ?_)
      iterate 2 refine JT.c rfl ?_
      refine JT.done ?_
      refine J.seq ?_
      refine J.so ?_
      refine JT.y rfl (Ev.fa' 1 rfl rfl) ?_
      refine JT.y rfl (Ev.Lf rfl (Nat.le_of_ble_eq_true rfl)) ?_
      refine JT.callD rfl rfl (Up.of (Imp.refl _)) (kCheck_fn _ _) ?_
      refine JT.y rfl (Ev.int rfl rfl rfl) ?_
      refine JT.c rfl ?_
      iterate 4 refine JT.gFs rfl (by first | assumption | omega) ?_
      refine JT.y rfl (Ev.pickTp rfl (by first | assumption | omega) rfl) ?_
      refine JT.done ?_
      refine J.condT rfl ?_
      refine J.so ?_
      iterate 2 refine JT.c rfl ?_
      refine JT.done ?_
      refine J.ret ?_
      refine seqQ_r ?_
      refine retQD (.t rfl (.t rfl .nil)) rfl (Up.of (.dropT (Imp.refl _)))

theorem lnOwned_none (b : Nat) (l : LK) (w : Vec) (o : Owner) (e : Bool) (F : List Assn) (h : l.ownE w o e ≠ 0) : Meets Try.prog 62 [ptr b, vv w, ov o, .bool e] (LinksP b l :: F) (Det (.tuple #[.pointer none, i64 (l.ownE w o e)]) (LinksP b (l.touch w) :: F)) := by
  refine Meets.intro b62 k62 (by simp) ?_
  cases hr : l.rec? w with
  | none =>
    rw [(rec?_none hr).2.2]
    focus
      refine J.so ?_
      refine JT.box rfl (fun b5 => ?_)
      refine JT.box rfl (fun b6 => ?_)
      iterate 2 refine JT.c rfl ?_
      refine JT.done ?_
      refine J.seq ?_
      refine J.so ?_
      refine JT.c rfl ?_
      refine JT.callD rfl rfl (Up.of (.take (.there (.there .here)) (Imp.refl _))) (lnIs_P _ _ _) ?_
      refine JT.c rfl ?_
      refine JT.done ?_
      refine J.condF rfl ?_
      refine J.skip ?_
      refine seqQ_n ?_
      refine J.so ?_
      refine JT.c rfl ?_
      refine JT.y rfl (Ev.Lw rfl rfl) ?_
      refine JT.callD rfl rfl (Up.of (.take .here (Imp.refl _))) (lnIn_none _ _ _ _ (by first | assumption | omega | decide | exact rfl)) ?_
      refine JT.c rfl ?_
      refine JT.done ?_
      refine J.seq ?_
      refine J.so ?_
      iterate 2 refine JT.c rfl ?_
      refine JT.done ?_
      refine J.condT rfl ?_
      refine J.so ?_
      iterate 2 refine JT.c rfl ?_
      refine JT.done ?_
      refine J.ret ?_
      refine seqQ_r ?_
      refine retQD (.t rfl (.t rfl .nil)) ?_ (Up.of (.take .here (.dropT (.dropT (Imp.refl _)))))
    simp only [mkRet]; unfold LK.ownE; rw [hr]
  | some a =>
    focus
      refine J.so ?_
      refine JT.box rfl (fun b5 => ?_)
      refine JT.box rfl (fun b6 => ?_)
      iterate 2 refine JT.c rfl ?_
      refine JT.done ?_
      refine J.seq ?_
      refine J.so ?_
      refine JT.c rfl ?_
      refine JT.callD rfl rfl (Up.of (.take (.there (.there .here)) (Imp.refl _))) (lnIs_P _ _ _) ?_
      refine JT.c rfl ?_
      refine JT.done ?_
      refine J.condF rfl ?_
      refine J.skip ?_
      refine seqQ_n ?_
      refine J.so ?_
      refine JT.c rfl ?_
      refine JT.y rfl (Ev.Lw rfl rfl) ?_
      refine JT.callS rfl rfl (Up.of (.take .here (Imp.refl _))) (lnIn_some _ _ _ _ _ (by first | assumption | omega | decide | exact rfl)) (fun x19 _ => ?_)
      refine JT.c rfl ?_
      refine JT.done ?_
      refine J.seq ?_
      refine J.so ?_
      iterate 2 refine JT.c rfl ?_
      refine JT.done ?_
      refine J.condF rfl ?_
      refine J.skip ?_
      refine seqQ_n ?_
      refine J.seq ?_
      refine J.so ?_
      iterate 3 refine JT.c rfl ?_
      refine JT.gp rfl (fun h1 => ?_) (fun h1 => ?_)
      refine JT.c rfl ?_
      refine JT.gT rfl (by first | assumption | omega) ?_
      refine JT.callD rfl rfl (Up.of (.take (.there .here) (Imp.refl _))) (lnEnd_H _ _ _ _ _) ?_
      refine JT.y rfl (Ev.pickTp rfl (by first | assumption | omega) rfl) ?_
      refine JT.done ?_
      refine J.c rfl (fun h2 => ?_) (fun h2 => ?_)
      refine J.so ?_
      iterate 2 refine JT.c rfl ?_
      refine JT.done ?_
      refine J.ret ?_
      refine seqQ_r ?_
      rotate_left
      refine J.skip ?_
      refine seqQ_n ?_
      refine J.seq ?_
      refine J.so ?_
      refine JT.y rfl (Ev.Lw rfl rfl) ?_
      refine JT.callD rfl rfl (Up.of (Imp.refl _)) (lkCheck_fn _ _) ?_
      refine JT.c rfl ?_
      refine JT.done ?_
      refine J.so ?_
      refine JT.c rfl ?_
      refine JT.y rfl (Ev.int rfl rfl rfl) ?_
      refine JT.done ?_
      refine J.c rfl (fun h3 => ?_) (fun h3 => ?_)
      refine J.so ?_
      iterate 3 refine JT.c rfl ?_
      refine JT.done ?_
      refine J.ret ?_
      refine seqQ_r ?_
      rotate_left
      refine J.skip ?_
      refine seqQ_n ?_
      refine J.seq ?_
      refine J.so ?_
      iterate 2 refine JT.c rfl ?_
      refine JT.y rfl (Ev.fa' 10 rfl rfl) ?_
      rotate_left
      refine JT.gTs rfl (by first | assumption | omega) ?_
      refine JT.y rfl (Ev.pickFp rfl (by first | assumption | omega) rfl) ?_
      refine JT.done ?_
      refine J.condF rfl ?_
      refine J.skip ?_
      refine seqQ_n ?_
      refine J.seq ?_
      refine J.so ?_
      refine JT.y rfl (Ev.Lw rfl rfl) ?_
      refine JT.callD rfl rfl (Up.of (Imp.refl _)) (lkCheck_fn _ _) ?_
      refine JT.c rfl ?_
      refine JT.done ?_
      refine J.so ?_
      refine JT.c rfl ?_
      refine JT.y rfl (Ev.int rfl rfl rfl) ?_
      refine JT.done ?_
      refine J.c rfl (fun h2 => ?_) (fun h2 => ?_)
      refine J.so ?_
      iterate 3 refine JT.c rfl ?_
      refine JT.done ?_
      refine J.ret ?_
      refine seqQ_r ?_
      rotate_left
      refine J.skip ?_
      refine seqQ_n ?_
      refine J.seq ?_
      refine J.so ?_
      iterate 2 refine JT.c rfl ?_
      refine JT.y rfl (Ev.fa' 10 rfl rfl) ?_
      rotate_left
    · refine retQ_up (LinksH.up (by (repeat (first | exact Has.here | assumption | apply Has.there))) (by (repeat (first | exact Has.here | assumption | apply Has.there))) (touch_upd hr)) ?_
      unfold LK.ownE; rw [hr]; simp only; (repeat (first | rw [if_pos (by (first | assumption | omega | grind))] | rw [if_neg (by (first | assumption | omega | grind))]))
      focus
        refine retQD (.t rfl (.t rfl .nil)) rfl (Up.of (.take .here (.dropT (.dropT (Imp.refl _)))))
    · refine retQ_up (LinksH.up (by (repeat (first | exact Has.here | assumption | apply Has.there))) (by (repeat (first | exact Has.here | assumption | apply Has.there))) (touch_upd hr)) ?_
      have hc : ckE o = 70 := by rw [ckE, if_neg h3]
      unfold LK.ownE; rw [hr]; simp only [hc]; (repeat (first | rw [if_pos (by (first | assumption | omega | grind))] | rw [if_neg (by (first | assumption | omega | grind))]))
      focus
        refine retQD (.t rfl (.t rfl .nil)) rfl (Up.of (.take .here (.dropT (.dropT (Imp.refl _)))))
    · refine JT.openRec (p := x19) (a := a) (by (repeat (first | exact Has.here | assumption | apply Has.there))) (fun T lb => ?_)
      focus
        refine JT.y rfl (Ev.L rfl rfl) ?_
        refine JT.callD rfl rfl (Up.of (.take (.there .here) (Imp.refl _))) (lkHolder_fn _ _ _) ?_
        iterate 3 refine JT.c rfl ?_
        refine JT.new (fun b12 => ?_)
        refine JT.w rfl rfl rfl rfl rfl ?_
        refine JT.c rfl ?_
        refine JT.done ?_
        refine J.so ?_
        iterate 3 refine JT.c rfl ?_
        iterate 2 refine JT.yh rfl rfl (fun h4 => Ev.Lw rfl rfl) ?_
        refine JT.yh rfl rfl (fun h4 => by simp only [h4, gd_true, gd_false, Bool.not_false, Bool.not_true, Bool.true_and, Bool.and_true]; exact Ev.neT rfl rfl) ?_
        refine JT.y rfl (Ev.pickO rfl rfl rfl) ?_
        refine JT.done ?_
        refine J.c rfl (fun h4 => ?_) (fun h4 => ?_)
        refine J.so ?_
        iterate 2 refine JT.c rfl ?_
        refine JT.done ?_
        refine J.ret ?_
        refine seqQ_r ?_
        rotate_left
        refine J.skip ?_
        refine seqQ_n ?_
        refine J.so ?_
        iterate 3 refine JT.c rfl ?_
        refine JT.done ?_
        refine J.ret ?_
        rotate_left
      · refine retQ_up (Up.of (RecP.fold (p := x19) (a := a) (by (repeat (first | exact Has.here | assumption | apply Has.there))) (by (repeat (first | exact Has.here | assumption | apply Has.there))) (Imp.refl _))) ?_
        refine retQ_up (LinksH.up (by (repeat (first | exact Has.here | assumption | apply Has.there))) (by (repeat (first | exact Has.here | assumption | apply Has.there))) (touch_upd hr)) ?_
        have hc : ckE o = 0 := by rw [ckE, if_pos h3]
        unfold LK.ownE; rw [hr]; simp only [hc]; (repeat (first | rw [if_pos (by (first | assumption | omega | grind))] | rw [if_neg (by (first | assumption | omega | grind))]))
        focus
          refine retQD (.t rfl (.t rfl .nil)) rfl (Up.of (.take .here (.dropT (.dropT (.dropT (Imp.refl _))))))
      · exfalso; apply h; unfold LK.ownE ckE; rw [hr]; simp_all
    · refine retQ_up (LinksH.up (by (repeat (first | exact Has.here | assumption | apply Has.there))) (by (repeat (first | exact Has.here | assumption | apply Has.there))) (touch_upd hr)) ?_
      have hc : ckE o = 70 := by rw [ckE, if_neg h2]
      unfold LK.ownE; rw [hr]; simp only [hc]; (repeat (first | rw [if_pos (by (first | assumption | omega | grind))] | rw [if_neg (by (first | assumption | omega | grind))]))
      focus
        refine retQD (.t rfl (.t rfl .nil)) rfl (Up.of (.take .here (.dropT (.dropT (Imp.refl _)))))
    · refine JT.openRec (p := x19) (a := a) (by (repeat (first | exact Has.here | assumption | apply Has.there))) (fun T lb => ?_)
      focus
        refine JT.y rfl (Ev.L rfl rfl) ?_
        refine JT.callD rfl rfl (Up.of (.take (.there .here) (Imp.refl _))) (lkHolder_fn _ _ _) ?_
        iterate 3 refine JT.c rfl ?_
        refine JT.new (fun b12 => ?_)
        refine JT.w rfl rfl rfl rfl rfl ?_
        refine JT.c rfl ?_
        refine JT.done ?_
        refine J.so ?_
        iterate 3 refine JT.c rfl ?_
        iterate 2 refine JT.yh rfl rfl (fun h3 => Ev.Lw rfl rfl) ?_
        refine JT.yh rfl rfl (fun h3 => by simp only [h3, gd_true, gd_false, Bool.not_false, Bool.not_true, Bool.true_and, Bool.and_true]; exact Ev.neT rfl rfl) ?_
        refine JT.y rfl (Ev.pickO rfl rfl rfl) ?_
        refine JT.done ?_
        refine J.c rfl (fun h3 => ?_) (fun h3 => ?_)
        refine J.so ?_
        iterate 2 refine JT.c rfl ?_
        refine JT.done ?_
        refine J.ret ?_
        refine seqQ_r ?_
        rotate_left
        refine J.skip ?_
        refine seqQ_n ?_
        refine J.so ?_
        iterate 3 refine JT.c rfl ?_
        refine JT.done ?_
        refine J.ret ?_
        rotate_left
      · refine retQ_up (Up.of (RecP.fold (p := x19) (a := a) (by (repeat (first | exact Has.here | assumption | apply Has.there))) (by (repeat (first | exact Has.here | assumption | apply Has.there))) (Imp.refl _))) ?_
        refine retQ_up (LinksH.up (by (repeat (first | exact Has.here | assumption | apply Has.there))) (by (repeat (first | exact Has.here | assumption | apply Has.there))) (touch_upd hr)) ?_
        have hc : ckE o = 0 := by rw [ckE, if_pos h2]
        unfold LK.ownE; rw [hr]; simp only [hc]; (repeat (first | rw [if_pos (by (first | assumption | omega | grind))] | rw [if_neg (by (first | assumption | omega | grind))]))
        focus
          refine retQD (.t rfl (.t rfl .nil)) rfl (Up.of (.take .here (.dropT (.dropT (.dropT (Imp.refl _))))))
      · exfalso; apply h; unfold LK.ownE ckE; rw [hr]; simp_all
theorem lnOwned_some (b : Nat) (l : LK) (w : Vec) (o : Owner) (e : Bool) (F : List Assn) (a : RecA) (ha : l.rec? w = some a) (h : l.ownE w o e = 0) : Meets Try.prog 62 [ptr b, vv w, ov o, .bool e] (LinksP b l :: F)
    (Some' (fun _ : Nat => True) (fun p => .tuple #[ptr p, i64 0]) (fun p => RecP p a :: LinksH b (l.touch w) w p :: F)) := by
  refine Meets.intro b62 k62 (by simp) ?_
  have h' := ownE_zero ha h
  obtain ⟨g1, g2, g3, g4⟩ := h'
  focus
    refine J.so ?_
    refine JT.box rfl (fun b5 => ?_)
    refine JT.box rfl (fun b6 => ?_)
    iterate 2 refine JT.c rfl ?_
    refine JT.done ?_
    refine J.seq ?_
    refine J.so ?_
    refine JT.c rfl ?_
    refine JT.callD rfl rfl (Up.of (.take (.there (.there .here)) (Imp.refl _))) (lnIs_P _ _ _) ?_
    refine JT.c rfl ?_
    refine JT.done ?_
    refine J.condF rfl ?_
    refine J.skip ?_
    refine seqQ_n ?_
    refine J.so ?_
    refine JT.c rfl ?_
    refine JT.y rfl (Ev.Lw rfl rfl) ?_
    refine JT.callS rfl rfl (Up.of (.take .here (Imp.refl _))) (lnIn_some _ _ _ _ _ (by first | assumption | omega | decide | exact rfl)) (fun x19 _ => ?_)
    refine JT.c rfl ?_
    refine JT.done ?_
    refine J.seq ?_
    refine J.so ?_
    iterate 2 refine JT.c rfl ?_
    refine JT.done ?_
    refine J.condF rfl ?_
    refine J.skip ?_
    refine seqQ_n ?_
    refine J.seq ?_
    refine J.so ?_
    iterate 3 refine JT.c rfl ?_
    refine JT.gp rfl (fun h1 => ?_) (fun h1 => ?_)
    refine JT.c rfl ?_
    refine JT.gT rfl (by first | assumption | omega) ?_
    refine JT.callD rfl rfl (Up.of (.take (.there .here) (Imp.refl _))) (lnEnd_H _ _ _ _ _) ?_
    refine JT.y rfl (Ev.pickTp rfl (by first | assumption | omega) rfl) ?_
    refine JT.done ?_
    refine J.c rfl (fun h2 => ?_) (fun h2 => ?_)
    refine J.so ?_
    iterate 2 refine JT.c rfl ?_
    refine JT.done ?_
    refine J.ret ?_
    refine seqQ_r ?_
    rotate_left
    refine J.skip ?_
    refine seqQ_n ?_
    refine J.seq ?_
    refine J.so ?_
    refine JT.y rfl (Ev.Lw rfl rfl) ?_
    refine JT.callD rfl rfl (Up.of (Imp.refl _)) (lkCheck_fn _ _) ?_
    refine JT.c rfl ?_
    refine JT.done ?_
    refine J.so ?_
    refine JT.c rfl ?_
    refine JT.y rfl (Ev.int rfl rfl rfl) ?_
    refine JT.done ?_
    refine J.c rfl (fun h3 => ?_) (fun h3 => ?_)
    contradiction
    refine J.skip ?_
    refine seqQ_n ?_
    refine J.seq ?_
    refine J.so ?_
    iterate 2 refine JT.c rfl ?_
    refine JT.y rfl (Ev.fa' 10 rfl rfl) ?_
    rotate_left
    refine JT.gTs rfl (by first | assumption | omega) ?_
    refine JT.y rfl (Ev.pickFp rfl (by first | assumption | omega) rfl) ?_
    refine JT.done ?_
    refine J.condF rfl ?_
    refine J.skip ?_
    refine seqQ_n ?_
    refine J.seq ?_
    refine J.so ?_
    refine JT.y rfl (Ev.Lw rfl rfl) ?_
    refine JT.callD rfl rfl (Up.of (Imp.refl _)) (lkCheck_fn _ _) ?_
    refine JT.c rfl ?_
    refine JT.done ?_
    refine J.so ?_
    refine JT.c rfl ?_
    refine JT.y rfl (Ev.int rfl rfl rfl) ?_
    refine JT.done ?_
    refine J.c rfl (fun h2 => ?_) (fun h2 => ?_)
    contradiction
    refine J.skip ?_
    refine seqQ_n ?_
    refine J.seq ?_
    refine J.so ?_
    iterate 2 refine JT.c rfl ?_
    refine JT.y rfl (Ev.fa' 10 rfl rfl) ?_
    rotate_left
  · exact absurd ⟨h1, h2⟩ g1
  · refine JT.openRec (p := x19) (a := a) (by (repeat (first | exact Has.here | assumption | apply Has.there))) (fun T lb => ?_)
    focus
      refine JT.y rfl (Ev.L rfl rfl) ?_
      refine JT.callD rfl rfl (Up.of (.take (.there .here) (Imp.refl _))) (lkHolder_fn _ _ _) ?_
      iterate 3 refine JT.c rfl ?_
      refine JT.new (fun b12 => ?_)
      refine JT.w rfl rfl rfl rfl rfl ?_
      refine JT.c rfl ?_
      refine JT.done ?_
      refine J.so ?_
      iterate 3 refine JT.c rfl ?_
      refine JT.gF rfl (by first | assumption | omega) ?_
      refine JT.y rfl (Ev.Lw rfl rfl) ?_
      refine JT.gF rfl (by first | assumption | omega) ?_
      refine JT.y rfl (Ev.Lw rfl rfl) ?_
      refine JT.gF rfl (by first | assumption | omega) ?_
      refine JT.y rfl (Ev.neTf rfl rfl (by assumption)) ?_
      refine JT.y rfl (Ev.pickFp rfl (by first | assumption | omega) rfl) ?_
      refine JT.done ?_
      refine J.condF rfl ?_
      refine J.skip ?_
      refine seqQ_n ?_
      refine J.so ?_
      iterate 3 refine JT.c rfl ?_
      refine JT.done ?_
      refine J.ret ?_
      refine retQS _ (.t rfl (.t rfl .nil)) trivial rfl (Up.of (RecP.fold (.there (.there .here)) (.there .here) (.take (.there .here) (.dropT (.dropT (.dropT (Imp.refl _)))))))
    all_goals first | (exfalso; simp_all; done) | trace_state
  · refine JT.openRec (p := x19) (a := a) (by (repeat (first | exact Has.here | assumption | apply Has.there))) (fun T lb => ?_)
    focus
      refine JT.y rfl (Ev.L rfl rfl) ?_
      refine JT.callD rfl rfl (Up.of (.take (.there .here) (Imp.refl _))) (lkHolder_fn _ _ _) ?_
      iterate 3 refine JT.c rfl ?_
      refine JT.new (fun b12 => ?_)
      refine JT.w rfl rfl rfl rfl rfl ?_
      refine JT.c rfl ?_
      refine JT.done ?_
      refine J.so ?_
      iterate 3 refine JT.c rfl ?_
      refine JT.gF rfl (by first | assumption | omega) ?_
      refine JT.y rfl (Ev.Lw rfl rfl) ?_
      refine JT.gF rfl (by first | assumption | omega) ?_
      refine JT.y rfl (Ev.Lw rfl rfl) ?_
      refine JT.gF rfl (by first | assumption | omega) ?_
      refine JT.y rfl (Ev.neTf rfl rfl (by assumption)) ?_
      refine JT.y rfl (Ev.pickFp rfl (by first | assumption | omega) rfl) ?_
      refine JT.done ?_
      refine J.condF rfl ?_
      refine J.skip ?_
      refine seqQ_n ?_
      refine J.so ?_
      iterate 3 refine JT.c rfl ?_
      refine JT.done ?_
      refine J.ret ?_
      refine retQS _ (.t rfl (.t rfl .nil)) trivial rfl (Up.of (RecP.fold (.there (.there .here)) (.there .here) (.take (.there .here) (.dropT (.dropT (.dropT (Imp.refl _)))))))
    all_goals first | (exfalso; simp_all; done) | trace_state
end Go.Proofs.Ytojegknfbgflnaa
