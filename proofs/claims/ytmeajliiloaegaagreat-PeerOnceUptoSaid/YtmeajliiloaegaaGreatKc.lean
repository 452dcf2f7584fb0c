/- Layer 8, a peer's records: what the functions do. Conditions: none. -/
import Derived.Test.YtmeajliiloaegaaGreatBn
import Derived.Test.YtmeajliiloaegaaGreatKb
import Derived.Test.YtmeajliiloaegaaGreatKg
set_option linter.unusedSimpArgs false
set_option linter.unusedVariables false
set_option maxRecDepth 100000
set_option maxHeartbeats 2000000
namespace Go.Proofs.YtmeajliiloaegaaGreat
open Go Go.SL
attribute [local irreducible] pc rc SlT Me Mt It pt ro pur ex sep old Meets
attribute [local irreducible] LockP RecP RecsA LinksP LinksH

instance : KO Tryz.prog 27 vv := ⟨KeyOk.flat (by kernel_rfl) (by kernel_rfl)⟩
instance {l : LK} : BP (decide (l.me.key.rank = 1) || decide (l.me.key.rank = 3)) l.isEnd (¬ l.isEnd) := .mk' (by simp [LK.isEnd]) .rfl

theorem lnIs_fn {b T mb : Nat} {l : LK} {F r : List Assn} [Hs : HP F b T (linksC l.me mb) r] : Meets Tryz.prog 60 [ptr b] F (Det (.bool true) F) := by
  refine Meets.intro b60 k60 (by simp) ?_
  focus
   refine zs <| zc rfl <| zc rfl <| zm rfl rfl (fun h1 => .fa' 5 rfl rfl) <| zm rfl rfl (fun h1 => by rw [h1]; exact .L rfl rfl) <| zm rfl rfl (fun h1 => by rw [h1]; exact .calc rfl) <| zy (.pickT rfl rfl) <| zd <| zr <| yR (.t rfl .nil) rfl (.of .rf)
theorem lnHead_fn {b T mb : Nat} {l : LK} {F r : List Assn} [Hs : HP F b T (linksC l.me mb) r] : Meets Tryz.prog 90 [ptr b] F (Det (.bool (decide (l.me.key.rank = 1))) F) := by
  refine Meets.intro b90 k90 (by simp) ?_
  focus
   refine zs <| zc rfl <| zf 0 rfl rfl <| zf 1 rfl rfl <| zfl rfl rfl rfl <| zj rfl rfl rfl <| zd <| zr <| yR (.t rfl .nil) rfl (.of .rf)
theorem lnTail_fn {b T mb : Nat} {l : LK} {F r : List Assn} [Hs : HP F b T (linksC l.me mb) r] : Meets Tryz.prog 91 [ptr b] F (Det (.bool (decide (l.me.key.rank = 3))) F) := by
  refine Meets.intro b91 k91 (by simp) ?_
  focus
   refine zs <| zc rfl <| zf 0 rfl rfl <| zf 1 rfl rfl <| zfl rfl rfl rfl <| zj rfl rfl rfl <| zd <| zr <| yR (.t rfl .nil) rfl (.of .rf)
theorem lnEnd_fn {b T mb : Nat} {l : LK} {F r : List Assn} [Hs : HP F b T (linksC l.me mb) r] : Meets Tryz.prog 63 [ptr b] F (Det (.bool (decide l.isEnd)) F) := by
  refine Meets.intro b63 k63 (by simp) ?_
  by_cases h1 : l.me.key.rank = 1
  · focus
     refine zs <| zc rfl <| yD rfl rfl (.of .rf) lnHead_fn <| yFs rfl (by assumption) <| zy (.pickTp rfl (by assumption) rfl) <| zd <| zr <| yR (.t rfl .nil) ?_ (.of .rf)
    simp only [mkRet]; rw [decide_eq_true (show l.isEnd from .inl h1)]
  · focus
     refine zs <| zc rfl <| yD rfl rfl (.of .rf) lnHead_fn <| yF rfl (by assumption) <| yD rfl rfl (.of .rf) lnTail_fn <| zy (.pickFp rfl (by assumption) rfl) <| zd <| zr <| yR (.t rfl .nil) ?_ (.of .rf)
    simp only [mkRet]; congr 1; rw [Bool.eq_iff_iff]; simp [LK.isEnd, h1]
theorem lnMay_fn {b T mb : Nat} {l : LK} {F r : List Assn} [Hs : HP F b T (linksC l.me mb) r] (w : Vec) : Meets Tryz.prog 64 [ptr b, vv w] F (Det (.bool (decide (l.may w))) F) := by
  refine Meets.intro b64 k64 (by simp) ?_
  by_cases hE : l.isEnd
  · by_cases hw : vecOk w
    · focus
       refine zs <| yB rfl fun b3 => zc rfl <| yD rfl rfl (.of .rf) lnIs_fn <| zc rfl <| zd <| zq <| zu rfl <| zk <| zs <| yD rfl rfl (.of .rf) lnEnd_fn <| zd ?_
       refine zq <| zi rfl (fun h1 => ?_) (fun h1 => ?_)
       refine zs <| zw rfl rfl <| yD rfl rfl (.of .rf) (vRight_fn _ _) <| zj rfl rfl rfl <| yT rfl (by assumption) <| zf 0 rfl rfl <| yT rfl (by assumption) <| zl rfl rfl <| yT rfl (by assumption) <| zf 0 rfl rfl <| yT rfl (by assumption) <| zf 3 rfl rfl ?_
       refine yT rfl (by assumption) <| zf 3 rfl rfl <| yT rfl (by assumption) <| zl rfl rfl <| yT rfl (by assumption) <| zj rfl rfl rfl <| zy (.pickTp rfl (by assumption) rfl) <| zd <| zr <| yR (.t rfl .nil) ?_ (.of (.d .rf))
       rotate_left
       contradiction
      simp only [mkRet]; congr 1; rw [Bool.eq_iff_iff]; simp [LK.may, hE, hw]
    · focus
       refine zs <| yB rfl fun b3 => zc rfl <| yD rfl rfl (.of .rf) lnIs_fn <| zc rfl <| zd <| zq <| zu rfl <| zk <| zs <| yD rfl rfl (.of .rf) lnEnd_fn <| zd ?_
       refine zq <| zi rfl (fun h1 => ?_) (fun h1 => ?_)
       refine zs <| zw rfl rfl <| yD rfl rfl (.of .rf) (vRight_fn _ _) <| zj rfl rfl rfl <| yTs rfl (by assumption) <| yTs rfl (by assumption) <| yTs rfl (by assumption) <| yTs rfl (by assumption) <| yTs rfl (by assumption) <| yTs rfl (by assumption) <| yTs rfl (by assumption) <| zy (.pickFp rfl (by assumption) rfl) ?_
       refine zd <| zr <| yR (.t rfl .nil) ?_ (.of (.d .rf))
       rotate_left
       contradiction
      simp only [mkRet]; congr 1; rw [Bool.eq_iff_iff]; simp [LK.may, hE, hw]
  · focus
     refine zs <| yB rfl fun b3 => zc rfl <| yD rfl rfl (.of .rf) lnIs_fn <| zc rfl <| zd <| zq <| zu rfl <| zk <| zs <| yD rfl rfl (.of .rf) lnEnd_fn <| zd ?_
     refine zq <| zi rfl (fun h1 => ?_) (fun h1 => ?_)
     contradiction
     refine zk <| zs <| zf 0 rfl rfl <| zfw [_, _] rfl rfl rfl rfl <| zw rfl rfl <| yD rfl rfl (.of .rf) (vBegins_fn _ _ _) <| zd <| zr <| yR (.t rfl .nil) ?_ (.of (.d .rf))
    simp only [mkRet]; congr 1; rw [Bool.eq_iff_iff]; simp [LK.may, hE]
theorem lnFirst_fn {b T mb : Nat} {l : LK} {F r : List Assn} [Hs : HP F b T (linksC l.me mb) r] : Meets Tryz.prog 76 [ptr b] F (Some' (fun _ : Nat => True) (fun p => ptr p) (fun p => RecP p l.first :: F)) := by
  refine Meets.intro b76 k76 (by simp) ?_
  focus
   refine zs <| zc rfl <| yE rfl rfl (.of .rf) (lkNew_fn _) fun x4 _ => zg rfl <| yB rfl fun b3 => yD rfl rfl (.of .rf) lnHead_fn <| zd <| zq <| zi rfl (fun h1 => ?_) (fun h1 => ?_)
   refine zo <| zg rfl <| zf 0 rfl rfl <| zfw [_, _] rfl rfl rfl rfl <| zg rfl <| zf 5 rfl rfl <| yS (us := [_, _, _, _, _]) rfl rfl rfl rfl rfl (Nat.le_of_ble_eq_true rfl) (by simp only [lput]; rfl) <| zd <| zs <| zc rfl <| zd <| zr ?_
   rotate_left
   refine zo <| zg rfl <| zf 0 rfl rfl <| zfw [_, _] rfl rfl rfl rfl <| zg rfl <| zf 0 rfl rfl <| yS (us := [_, _, _, _, _]) rfl rfl rfl rfl rfl (Nat.le_of_ble_eq_true rfl) (by simp only [lput]; rfl) <| zd <| zs <| zc rfl <| zd <| zr ?_
   rotate_left
  all_goals (unfold LK.first; (repeat (first | rw [if_pos (by (first | assumption | omega | grind))] | rw [if_neg (by (first | assumption | omega | grind))])))
  focus
   refine yQ _ (.t rfl .nil) trivial rfl (.of (RecP.fold .here .here .rf))
  focus
   refine yQ _ (.t rfl .nil) trivial rfl (.of (RecP.fold .here .here .rf))

theorem rec?_none {l : LK} {w : Vec} (h : l.rec? w = none) : alk l.m w = none ∧ ¬ (l.isEnd ∧ l.may w) ∧ l.touch w = l := by
  unfold LK.rec? at h; unfold LK.touch
  cases e : alk l.m w with
  | some v => rw [e] at h; cases h
  | none =>
    rw [e] at h; simp only at h ⊢
    by_cases hc : l.isEnd ∧ l.may w
    · rw [if_pos hc] at h; cases h
    · exact ⟨trivial, hc, by rw [if_neg hc]⟩

theorem rec?_some {l : LK} {w : Vec} {a : RecA} (h : l.rec? w = some a) : (alk l.m w = some a ∧ l.touch w = l) ∨ (alk l.m w = none ∧ l.isEnd ∧ l.may w ∧ a = l.first ∧ l.touch w = l.upd w l.first) := by
  unfold LK.rec? at h; unfold LK.touch
  cases e : alk l.m w with
  | some v => rw [e] at h; simp only at h; exact .inl ⟨h, rfl⟩
  | none =>
    rw [e] at h; simp only at h ⊢
    by_cases hc : l.isEnd ∧ l.may w
    · rw [if_pos hc] at h ⊢; injection h with h; exact .inr ⟨trivial, hc.1, hc.2, h.symm, rfl⟩
    · rw [if_neg hc] at h; cases h

theorem lnIn_none (b : Nat) (l : LK) (w : Vec) (F : List Assn) (h : l.rec? w = none) : Meets Tryz.prog 61 [ptr b, vv w] (LinksP b l :: F) (Det (.pointer none) (LinksP b l :: F)) := by
  refine Meets.intro b61 k61 (by simp) ?_
  refine J.openLinks Has.here (fun T mb g hg => ?_)
  obtain ⟨h1, h2, h3⟩ := rec?_none h
  have hk : alk g w = none := by rw [← hg, er_alk] at h1; simpa using h1
  by_cases hE : l.isEnd
  · have hm : ¬ l.may w := fun hm => h2 ⟨hE, hm⟩
    focus
     refine zs <| yB rfl fun b3 => zc rfl <| zfl rfl rfl rfl <| zw rfl rfl <| JT.lk2n rfl (by rfl) (by assumption) ?_
     refine zc rfl <| zc rfl <| zc rfl <| zc rfl <| zd <| zq <| zu rfl <| zk <| zs <| yD rfl rfl (.of .rf) lnEnd_fn <| zc rfl <| yF rfl (by assumption) ?_
     refine zw rfl rfl <| yF rfl (by assumption) <| yD rfl rfl (.of .rf) (lnMay_fn _) <| yF rfl (by assumption) <| zc rfl <| zy (.pickFp rfl (by assumption) rfl) <| zd <| zq <| zi rfl (fun h4 => ?_) (fun h4 => ?_)
     refine zs <| zc rfl <| zd <| zr <| yR (.t rfl .nil) rfl (.of (LinksP.fold (.there .here) (.there .here) (.there .here) (by first | assumption | omega | rfl | decide) (.d .rf)))
     contradiction
  · focus
     refine zs <| yB rfl fun b3 => zc rfl <| zfl rfl rfl rfl <| zw rfl rfl <| JT.lk2n rfl (by rfl) (by assumption) ?_
     refine zc rfl <| zc rfl <| zc rfl <| zc rfl <| zd <| zq <| zu rfl <| zk <| zs <| yD rfl rfl (.of .rf) lnEnd_fn <| zc rfl <| yFs rfl (by assumption) ?_
     refine yFs rfl (by assumption) <| yFs rfl (by assumption) <| zy (.pickTp rfl (by assumption) rfl) <| zd <| zq <| zt rfl <| zs <| zc rfl <| zd <| zr <| yR (.t rfl .nil) rfl (.of (LinksP.fold (.there .here) (.there .here) (.there .here) (by first | assumption | omega | rfl | decide) (.d .rf)))

theorem lnIn_some (b : Nat) (l : LK) (w : Vec) (F : List Assn) (a : RecA) (h : l.rec? w = some a) :
    Meets Tryz.prog 61 [ptr b, vv w] (LinksP b l :: F) (Some' (fun _ : Nat => True) (fun p => ptr p) (fun p => RecP p a :: LinksH b (l.touch w) w p :: F)) := by
  refine Meets.intro b61 k61 (by simp) ?_
  refine J.openLinks Has.here (fun T mb g hg => ?_)
  rcases rec?_some h with ⟨h1, h2⟩ | ⟨h1, hE, hm, rfl, h2⟩ <;> rw [h2]
  · rw [← hg, er_alk] at h1
    cases hk : alk g w with
    | none => rw [hk] at h1; cases h1
    | some x =>
      obtain ⟨p, a'⟩ := x
      rw [hk] at h1; injection h1 with h1; simp only at h1; subst h1
      obtain ⟨i, hi⟩ := alk_some_aix hk
      have hget := er_at hi hk
      have hp : (g[i]?).map (fun y => y.2.1) = some p := by rw [hget]; rfl
      refine J.imp (Imp.cons (Imp.cons (RecsA.take hget))) ?_
      focus
       refine zs <| yB rfl fun b3 => zc rfl <| zfl rfl rfl rfl <| zw rfl rfl <| JT.lk2s rfl (by rfl) (by assumption) ?_
       refine zc rfl <| zc rfl <| zc rfl <| zc rfl <| zd <| zq <| zt rfl <| zs <| zc rfl <| zd <| zr <| yQ _ (.t rfl .nil) trivial rfl (.of (.t3 (LinksH.fold (.there .here) (.there .here) (.there .here) (by first | assumption | omega | rfl | decide) (by first | assumption | omega | rfl | decide) (by first | assumption | omega | rfl | decide) (.d .rf))))
  · rw [← hg, er_alk] at h1
    have hk : alk g w = none := by simpa using h1
    have hn := alk_none_aix hk
    focus
     refine zs <| yB rfl fun b3 => zc rfl <| zfl rfl rfl rfl <| zw rfl rfl <| JT.lk2n rfl (by rfl) (by assumption) ?_
     refine zc rfl <| zc rfl <| zc rfl <| zc rfl <| zd <| zq <| zu rfl <| zk <| zs <| yD rfl rfl (.of .rf) lnEnd_fn <| zc rfl <| yF rfl (by assumption) ?_
     refine zw rfl rfl <| yF rfl (by assumption) <| yD rfl rfl (.of .rf) (lnMay_fn _) <| yF rfl (by assumption) <| zc rfl <| zy (.pickFp rfl (by assumption) rfl) <| zd <| zq <| zi rfl (fun h3 => ?_) (fun h3 => ?_)
     contradiction
     refine zk <| zs <| yE rfl rfl (.of .rf) lnFirst_fn fun x29 _ => zfl rfl rfl rfl <| zw rfl rfl ?_
    refine JT.mu (v := (x29, l.first)) rfl (by rfl) rfl ?_
    have e : aput g w (x29, l.first) = g ++ [(w, (x29, l.first))] := by unfold aput; rw [hn]
    rw [e]
    have hR : RecsA g = RecsA ((g ++ [(w, (x29, l.first))]).eraseIdx g.length) := by rw [List.eraseIdx_append_of_length_le (Nat.le_refl _)]; simp
    have he := er_snoc g w (x29, l.first) l hg hn
    have hi := aix_snoc (v := (x29, l.first)) hn
    have hp : ((g ++ [(w, (x29, l.first))])[g.length]?).map (fun y => y.2.1) = some x29 := by simp
    rw [hR]
    focus
     refine zc rfl <| zd <| zr <| yQ _ (.t rfl .nil) trivial rfl (.of (.t1 (LinksH.fold (.there (.there .here)) .here (.there .here) (by first | assumption | omega | rfl | decide) (by first | assumption | omega | rfl | decide) (by first | assumption | omega | rfl | decide) (.d .rf))))
  
theorem lnIs_P (b : Nat) (l : LK) (F : List Assn) : Meets Tryz.prog 60 [ptr b] (LinksP b l :: F) (Det (.bool true) (LinksP b l :: F)) := by
  refine Meets.intro b60 k60 (by simp) ?_
  refine J.openLinks Has.here (fun T mb g hg => ?_)
  focus
   refine zs <| zc rfl <| zc rfl <| zm rfl rfl (fun h1 => .fa' 5 rfl rfl) <| zm rfl rfl (fun h1 => by rw [h1]; exact .L rfl rfl) <| zm rfl rfl (fun h1 => by rw [h1]; exact .calc rfl) <| zy (.pickT rfl rfl) <| zd <| zr <| yR (.t rfl .nil) rfl (.of (LinksP.fold .here .here .here (by first | assumption | omega | rfl | decide) .rf))
theorem lnEnd_P (b : Nat) (l : LK) (F : List Assn) : Meets Tryz.prog 63 [ptr b] (LinksP b l :: F) (Det (.bool (decide l.isEnd)) (LinksP b l :: F)) := by
  refine Meets.intro b63 k63 (by simp) ?_
  refine J.openLinks Has.here (fun T mb g hg => ?_)
  by_cases h1 : l.me.key.rank = 1
  · focus
     refine zs <| zc rfl <| yD rfl rfl (.of .rf) lnHead_fn <| yFs rfl (by assumption) <| zy (.pickTp rfl (by assumption) rfl) <| zd <| zr <| yR (.t rfl .nil) ?_ (.of (LinksP.fold .here .here .here (by first | assumption | omega | rfl | decide) .rf))
    simp only [mkRet]; rw [decide_eq_true (show l.isEnd from .inl h1)]
  · focus
     refine zs <| zc rfl <| yD rfl rfl (.of .rf) lnHead_fn <| yF rfl (by assumption) <| yD rfl rfl (.of .rf) lnTail_fn <| zy (.pickFp rfl (by assumption) rfl) <| zd <| zr <| yR (.t rfl .nil) ?_ (.of (LinksP.fold .here .here .here (by first | assumption | omega | rfl | decide) .rf))
    simp only [mkRet]; congr 1; rw [Bool.eq_iff_iff]; simp [LK.isEnd, h1]
theorem lnMay_P (b : Nat) (l : LK) (w : Vec) (F : List Assn) : Meets Tryz.prog 64 [ptr b, vv w] (LinksP b l :: F) (Det (.bool (decide (l.may w))) (LinksP b l :: F)) := by
  refine Meets.intro b64 k64 (by simp) ?_
  by_cases hE : l.isEnd
  · by_cases hw : vecOk w
    · refine J.openLinks Has.here (fun T mb g hg => ?_)
      focus
       refine zs <| yB rfl fun b3 => zc rfl <| yD rfl rfl (.of .rf) lnIs_fn <| zc rfl <| zd <| zq <| zu rfl <| zk <| zs <| yD rfl rfl (.of .rf) lnEnd_fn <| zd ?_
       refine zq <| zi rfl (fun h1 => ?_) (fun h1 => ?_)
       refine zs <| zw rfl rfl <| yD rfl rfl (.of .rf) (vRight_fn _ _) <| zj rfl rfl rfl <| yT rfl (by assumption) <| zf 0 rfl rfl <| yT rfl (by assumption) <| zl rfl rfl <| yT rfl (by assumption) <| zf 0 rfl rfl <| yT rfl (by assumption) <| zf 3 rfl rfl ?_
       refine yT rfl (by assumption) <| zf 3 rfl rfl <| yT rfl (by assumption) <| zl rfl rfl <| yT rfl (by assumption) <| zj rfl rfl rfl <| zy (.pickTp rfl (by assumption) rfl) <| zd <| zr <| yR (.t rfl .nil) ?_ (.of (LinksP.fold (.there .here) (.there .here) (.there .here) (by first | assumption | omega | rfl | decide) (.d .rf)))
       rotate_left
       contradiction
      simp only [mkRet]; congr 1; rw [Bool.eq_iff_iff]; simp [LK.may, hE, hw]
    · refine J.openLinks Has.here (fun T mb g hg => ?_)
      focus
       refine zs <| yB rfl fun b3 => zc rfl <| yD rfl rfl (.of .rf) lnIs_fn <| zc rfl <| zd <| zq <| zu rfl <| zk <| zs <| yD rfl rfl (.of .rf) lnEnd_fn <| zd ?_
       refine zq <| zi rfl (fun h1 => ?_) (fun h1 => ?_)
       refine zs <| zw rfl rfl <| yD rfl rfl (.of .rf) (vRight_fn _ _) <| zj rfl rfl rfl <| yTs rfl (by assumption) <| yTs rfl (by assumption) <| yTs rfl (by assumption) <| yTs rfl (by assumption) <| yTs rfl (by assumption) <| yTs rfl (by assumption) <| yTs rfl (by assumption) <| zy (.pickFp rfl (by assumption) rfl) ?_
       refine zd <| zr <| yR (.t rfl .nil) ?_ (.of (LinksP.fold (.there .here) (.there .here) (.there .here) (by first | assumption | omega | rfl | decide) (.d .rf)))
       rotate_left
       contradiction
      simp only [mkRet]; congr 1; rw [Bool.eq_iff_iff]; simp [LK.may, hE, hw]
  · refine J.openLinks Has.here (fun T mb g hg => ?_)
    focus
     refine zs <| yB rfl fun b3 => zc rfl <| yD rfl rfl (.of .rf) lnIs_fn <| zc rfl <| zd <| zq <| zu rfl <| zk <| zs <| yD rfl rfl (.of .rf) lnEnd_fn <| zd ?_
     refine zq <| zi rfl (fun h1 => ?_) (fun h1 => ?_)
     contradiction
     refine zk <| zs <| zf 0 rfl rfl <| zfw [_, _] rfl rfl rfl rfl <| zw rfl rfl <| yD rfl rfl (.of .rf) (vBegins_fn _ _ _) <| zd <| zr <| yR (.t rfl .nil) ?_ (.of (LinksP.fold (.there .here) (.there .here) (.there .here) (by first | assumption | omega | rfl | decide) (.d .rf)))
    simp only [mkRet]; congr 1; rw [Bool.eq_iff_iff]; simp [LK.may, hE]

theorem recState_fn (p : Nat) (a : RecA) (w : Vec) (F : List Assn) (hS : a.lk.w.length ≤ 8388608) : Meets Tryz.prog 74 [ptr p, vv w] (RecP p a :: F)
    (Some' (fun _ : Option Addr × Nat => True) (fun x => rsv (a.state w) x.1 x.2) (fun x => SlT false ownerC 2 (.slice x.1 a.lk.w.length x.2) x.2 a.lk.w :: RecP p a :: F)) := by
  refine Meets.intro b74 k74 (by simp) ?_
  refine J.openRec Has.here (fun T lb => ?_)
  focus
   refine zs <| yB rfl fun b3 => yN fun b4 => zw rfl rfl <| zf 0 rfl rfl <| zy (.Lp (us := [_, _, _, _, _]) rfl (Nat.le_of_ble_eq_true rfl) rfl) <| zf 5 rfl rfl <| zy (.Lp (us := [_, _, _, _, _]) rfl (Nat.le_of_ble_eq_true rfl) rfl) <| zfl rfl rfl rfl <| JT.both ?_ ?_
   refine yE rfl rfl (.of (.t3 .rf)) (lkWaits_fn _ _ _ (by assumption)) fun ⟨a19, c19⟩ _ => JT.yA rfl (Ev.Lw rfl rfl) <| JT.yA rfl (Ev.Lp (us := [_, _, _, _, _]) rfl (Nat.le_of_ble_eq_true rfl) rfl) <| JT.yA rfl (Ev.Lp (us := [_, _, _, _, _]) rfl (Nat.le_of_ble_eq_true rfl) rfl) <| zg rfl <| yN fun b5 => yW rfl rfl rfl rfl rfl <| zd <| zs <| zfl rfl rfl rfl <| yD rfl rfl (.of (.t2 .rf)) (lkHolder_fn _ _ _) <| zc rfl ?_
   refine zc rfl <| zf 13 rfl rfl <| yS (us := [_, _]) rfl rfl rfl rfl rfl (Nat.le_of_ble_eq_true rfl) (by simp only [lput]; rfl) <| zf 12 rfl rfl <| yS (us := [_]) rfl rfl rfl rfl rfl (Nat.le_of_ble_eq_true rfl) (by simp only [lput]; rfl) <| zw rfl rfl <| yW rfl rfl rfl rfl rfl <| zd <| zr <| yQ ⟨_, _⟩ (.w rfl rfl .nil) trivial rfl (.of (.t3 (RecP.fold (.there (.there (.there (.there .here)))) (.there (.there .here)) (.d (.d (.d .rf))))))
   refine yN fun b5 => yE rfl rfl (.of (.t4 .rf)) (lkWaits_fn _ _ _ (by assumption)) fun ⟨a19, c19⟩ _ => JT.yA rfl (Ev.Lw rfl rfl) <| JT.yA rfl (Ev.Lp (us := [_, _, _, _, _]) rfl (Nat.le_of_ble_eq_true rfl) rfl) <| JT.yA rfl (Ev.Lp (us := [_, _, _, _, _]) rfl (Nat.le_of_ble_eq_true rfl) rfl) <| zg rfl <| yW rfl rfl rfl rfl rfl <| zd <| zs <| zfl rfl rfl rfl <| yD rfl rfl (.of (.t2 .rf)) (lkHolder_fn _ _ _) <| zc rfl ?_
   refine zc rfl <| zf 13 rfl rfl <| yS (us := [_, _]) rfl rfl rfl rfl rfl (Nat.le_of_ble_eq_true rfl) (by simp only [lput]; rfl) <| zf 12 rfl rfl <| yS (us := [_]) rfl rfl rfl rfl rfl (Nat.le_of_ble_eq_true rfl) (by simp only [lput]; rfl) <| zw rfl rfl <| yW rfl rfl rfl rfl rfl <| zd <| zr <| yQ ⟨_, _⟩ (.w rfl rfl .nil) trivial rfl (.of (.t3 (RecP.fold (.there (.there (.there (.there .here)))) (.there (.there .here)) (.d (.d (.d .rf))))))

theorem lnGet_fn (b : Nat) (l : LK) (w : Vec) (F : List Assn) (hS : ∀ a, l.rec? w = some a → a.lk.w.length ≤ 8388608) : Meets Tryz.prog 50 [ptr b, vv w] (LinksP b l :: F)
    (Some' (fun _ : Option Addr × Nat => True) (fun x => .tuple #[rsv (l.getS w) x.1 x.2, .bool (l.getB w)]) (fun x => SlT false ownerC 2 (.slice x.1 (l.getS w).waits.length x.2) x.2 (l.getS w).waits :: LinksP b (l.touch w) :: F)) := by
  refine Meets.intro b50 k50 (by simp) ?_
  unfold LK.getS LK.getB
  cases h : l.rec? w with
  | none =>
    rw [(rec?_none h).2.2]
    refine J.nilS ownerC 2 false (by decide) ?_
    focus
     refine zs <| yB rfl fun b3 => yN fun b4 => zc rfl <| yD rfl rfl (.of (.t3 .rf)) (lnIs_P _ _ _) <| zc rfl <| zd <| zq <| zu rfl <| zk <| zs <| zw rfl rfl ?_
     refine yD rfl rfl (.of (.t0 .rf)) (lnIn_none _ _ _ _ (by assumption)) <| zc rfl <| zd <| zq <| zt rfl <| zs <| zg rfl <| yW rfl rfl rfl rfl rfl <| zc rfl <| zd <| zr <| yQ ⟨_, _⟩ (.w rfl rfl (.t rfl .nil)) trivial rfl (.of (.t3 (.t1 (.d (.d .rf)))))
    | some a =>
    have hS' := hS a h
    focus
     refine zs <| yB rfl fun b3 => yN fun b4 => zc rfl <| yD rfl rfl (.of (.t2 .rf)) (lnIs_P _ _ _) <| zc rfl <| zd <| zq <| zu rfl <| zk <| zs <| zw rfl rfl ?_
     refine yE rfl rfl (.of (.t0 .rf)) (lnIn_some _ _ _ _ _ (by first | assumption | omega | decide | exact rfl)) fun x6 _ => ?_
     refine zc rfl <| zd <| zq <| zu rfl <| zk <| zs <| zw rfl rfl <| yE rfl rfl (.of (.t0 .rf)) (recState_fn _ _ _ _ (by assumption)) fun ⟨a19, c19⟩ _ => yW rfl rfl rfl rfl rfl <| zc rfl <| zd <| zr ?_
    refine retQ_up (LinksH.up (.there (.there .here)) (.there (.there .here)) (touch_upd h)) ?_
    focus
     refine yQ ⟨_, _⟩ (.w rfl rfl (.t rfl .nil)) trivial rfl (.of (.t2 (.t0 (.d (.d .rf)))))
  
theorem lnEnd_H (b : Nat) (l : LK) (w : Vec) (p : Nat) (F : List Assn) : Meets Tryz.prog 63 [ptr b] (LinksH b l w p :: F) (Det (.bool (decide (l.isEnd))) (LinksH b l w p :: F)) := by
  refine Meets.intro b63 k63 (by simp) ?_
  refine J.openLinksH Has.here (fun T mb g i he hi hp => ?_)
  obtain ⟨a0, hg⟩ := hp
  have hp : (g[i]?).map (fun y => y.2.1) = some p := by rw [hg]; rfl
  by_cases h1 : l.me.key.rank = 1
  · focus
     refine zs <| zc rfl <| yD rfl rfl (.of .rf) lnHead_fn <| yFs rfl (by assumption) <| zy (.pickTp rfl (by assumption) rfl) <| zd <| zr <| yR (.t rfl .nil) ?_ (.of (LinksH.fold .here .here .here (by first | assumption | omega | rfl | decide) (by first | assumption | omega | rfl | decide) (by first | assumption | omega | rfl | decide) .rf))
    simp only [mkRet]; rw [decide_eq_true (show l.isEnd from .inl h1)]
  · focus
     refine zs <| zc rfl <| yD rfl rfl (.of .rf) lnHead_fn <| yF rfl (by assumption) <| yD rfl rfl (.of .rf) lnTail_fn <| zy (.pickFp rfl (by assumption) rfl) <| zd <| zr <| yR (.t rfl .nil) ?_ (.of (LinksH.fold .here .here .here (by first | assumption | omega | rfl | decide) (by first | assumption | omega | rfl | decide) (by first | assumption | omega | rfl | decide) .rf))
    simp only [mkRet]; congr 1; rw [Bool.eq_iff_iff]; simp [LK.isEnd, h1]
theorem lnToLeft_H (b : Nat) (l : LK) (w : Vec) (p : Nat) (a : Ref) (F : List Assn) : Meets Tryz.prog 62 [ptr b, rv a] (LinksH b l w p :: F) (Det (.bool (decide (l.toLeft a))) (LinksH b l w p :: F)) := by
  refine Meets.intro b62 k62 (by simp) ?_
  refine J.openLinksH Has.here (fun T mb g i he hi hp => ?_)
  obtain ⟨a0, hg⟩ := hp
  have hp : (g[i]?).map (fun y => y.2.1) = some p := by rw [hg]; rfl
  focus
   refine zs <| yB rfl fun b3 => zc rfl <| zfw [_, _] rfl rfl rfl rfl <| yD rfl rfl (.of .rf) (kCheck_fn _ _) <| zj rfl rfl rfl <| zp rfl (fun h1 => ?_) (fun h1 => ?_)
   refine zf 1 rfl rfl <| yT rfl (by assumption) <| zy (.Lf rfl (Nat.le_of_ble_eq_true rfl)) <| yT rfl (by assumption) <| zf 0 rfl rfl <| yT rfl (by assumption) <| zf 1 rfl rfl <| yT rfl (by assumption) <| zy (.Lp (us := [_, _]) rfl (Nat.le_of_ble_eq_true rfl) rfl) <| yT rfl (by assumption) <| yD rfl rfl (.of .rf) (kLess_fn _ _ _) <| zy (.pickTp rfl (by assumption) rfl) ?_
   refine zd <| zr <| yR (.t rfl .nil) ?_ (.of (LinksH.fold (.there .here) (.there .here) (.there .here) (by first | assumption | omega | rfl | decide) (by first | assumption | omega | rfl | decide) (by first | assumption | omega | rfl | decide) (.d .rf)))
   rotate_left
   refine yTs rfl (by assumption) <| yTs rfl (by assumption) <| yTs rfl (by assumption) <| yTs rfl (by assumption) <| yTs rfl (by assumption) <| zy (.pickFp rfl (by assumption) rfl) <| zd <| zr <| yR (.t rfl .nil) ?_ (.of (LinksH.fold (.there .here) (.there .here) (.there .here) (by first | assumption | omega | rfl | decide) (by first | assumption | omega | rfl | decide) (by first | assumption | omega | rfl | decide) (.d .rf)))
   rotate_left
  all_goals (simp only [mkRet]; congr 1; rw [Bool.eq_iff_iff]; simp [LK.toLeft, h1])
theorem lnToRight_H (b : Nat) (l : LK) (w : Vec) (p : Nat) (a : Ref) (F : List Assn) : Meets Tryz.prog 59 [ptr b, rv a] (LinksH b l w p :: F) (Det (.bool (decide (l.toRight a))) (LinksH b l w p :: F)) := by
  refine Meets.intro b59 k59 (by simp) ?_
  refine J.openLinksH Has.here (fun T mb g i he hi hp => ?_)
  obtain ⟨a0, hg⟩ := hp
  have hp : (g[i]?).map (fun y => y.2.1) = some p := by rw [hg]; rfl
  focus
   refine zs <| yB rfl fun b3 => zc rfl <| zfw [_, _] rfl rfl rfl rfl <| yD rfl rfl (.of .rf) (kCheck_fn _ _) <| zj rfl rfl rfl <| zp rfl (fun h1 => ?_) (fun h1 => ?_)
   refine zf 0 rfl rfl <| yT rfl (by assumption) <| zf 1 rfl rfl <| yT rfl (by assumption) <| zy (.Lp (us := [_, _]) rfl (Nat.le_of_ble_eq_true rfl) rfl) <| yT rfl (by assumption) <| zf 1 rfl rfl <| yT rfl (by assumption) <| zy (.Lf rfl (Nat.le_of_ble_eq_true rfl)) <| yT rfl (by assumption) <| yD rfl rfl (.of .rf) (kLess_fn _ _ _) <| zy (.pickTp rfl (by assumption) rfl) ?_
   refine zd <| zr <| yR (.t rfl .nil) ?_ (.of (LinksH.fold (.there .here) (.there .here) (.there .here) (by first | assumption | omega | rfl | decide) (by first | assumption | omega | rfl | decide) (by first | assumption | omega | rfl | decide) (.d .rf)))
   rotate_left
   refine yTs rfl (by assumption) <| yTs rfl (by assumption) <| yTs rfl (by assumption) <| yTs rfl (by assumption) <| yTs rfl (by assumption) <| zy (.pickFp rfl (by assumption) rfl) <| zd <| zr <| yR (.t rfl .nil) ?_ (.of (LinksH.fold (.there .here) (.there .here) (.there .here) (by first | assumption | omega | rfl | decide) (by first | assumption | omega | rfl | decide) (by first | assumption | omega | rfl | decide) (.d .rf)))
   rotate_left
  all_goals (simp only [mkRet]; congr 1; rw [Bool.eq_iff_iff]; simp [LK.toRight, h1])
theorem lnToLeft_P (b : Nat) (l : LK) (a : Ref) (F : List Assn) : Meets Tryz.prog 62 [ptr b, rv a] (LinksP b l :: F) (Det (.bool (decide (l.toLeft a))) (LinksP b l :: F)) := by
  refine Meets.intro b62 k62 (by simp) ?_
  refine J.openLinks Has.here (fun T mb g hg => ?_)
  focus
   refine zs <| yB rfl fun b3 => zc rfl <| zfw [_, _] rfl rfl rfl rfl <| yD rfl rfl (.of .rf) (kCheck_fn _ _) <| zj rfl rfl rfl <| zp rfl (fun h1 => ?_) (fun h1 => ?_)
   refine zf 1 rfl rfl <| yT rfl (by assumption) <| zy (.Lf rfl (Nat.le_of_ble_eq_true rfl)) <| yT rfl (by assumption) <| zf 0 rfl rfl <| yT rfl (by assumption) <| zf 1 rfl rfl <| yT rfl (by assumption) <| zy (.Lp (us := [_, _]) rfl (Nat.le_of_ble_eq_true rfl) rfl) <| yT rfl (by assumption) <| yD rfl rfl (.of .rf) (kLess_fn _ _ _) <| zy (.pickTp rfl (by assumption) rfl) ?_
   refine zd <| zr <| yR (.t rfl .nil) ?_ (.of (LinksP.fold (.there .here) (.there .here) (.there .here) (by first | assumption | omega | rfl | decide) (.d .rf)))
   rotate_left
   refine yTs rfl (by assumption) <| yTs rfl (by assumption) <| yTs rfl (by assumption) <| yTs rfl (by assumption) <| yTs rfl (by assumption) <| zy (.pickFp rfl (by assumption) rfl) <| zd <| zr <| yR (.t rfl .nil) ?_ (.of (LinksP.fold (.there .here) (.there .here) (.there .here) (by first | assumption | omega | rfl | decide) (.d .rf)))
   rotate_left
  all_goals (simp only [mkRet]; congr 1; rw [Bool.eq_iff_iff]; simp [LK.toLeft, h1])
theorem lnToRight_P (b : Nat) (l : LK) (a : Ref) (F : List Assn) : Meets Tryz.prog 59 [ptr b, rv a] (LinksP b l :: F) (Det (.bool (decide (l.toRight a))) (LinksP b l :: F)) := by
  refine Meets.intro b59 k59 (by simp) ?_
  refine J.openLinks Has.here (fun T mb g hg => ?_)
  focus
   refine zs <| yB rfl fun b3 => zc rfl <| zfw [_, _] rfl rfl rfl rfl <| yD rfl rfl (.of .rf) (kCheck_fn _ _) <| zj rfl rfl rfl <| zp rfl (fun h1 => ?_) (fun h1 => ?_)
   refine zf 0 rfl rfl <| yT rfl (by assumption) <| zf 1 rfl rfl <| yT rfl (by assumption) <| zy (.Lp (us := [_, _]) rfl (Nat.le_of_ble_eq_true rfl) rfl) <| yT rfl (by assumption) <| zf 1 rfl rfl <| yT rfl (by assumption) <| zy (.Lf rfl (Nat.le_of_ble_eq_true rfl)) <| yT rfl (by assumption) <| yD rfl rfl (.of .rf) (kLess_fn _ _ _) <| zy (.pickTp rfl (by assumption) rfl) ?_
   refine zd <| zr <| yR (.t rfl .nil) ?_ (.of (LinksP.fold (.there .here) (.there .here) (.there .here) (by first | assumption | omega | rfl | decide) (.d .rf)))
   rotate_left
   refine yTs rfl (by assumption) <| yTs rfl (by assumption) <| yTs rfl (by assumption) <| yTs rfl (by assumption) <| yTs rfl (by assumption) <| zy (.pickFp rfl (by assumption) rfl) <| zd <| zr <| yR (.t rfl .nil) ?_ (.of (LinksP.fold (.there .here) (.there .here) (.there .here) (by first | assumption | omega | rfl | decide) (.d .rf)))
   rotate_left
  all_goals (simp only [mkRet]; congr 1; rw [Bool.eq_iff_iff]; simp [LK.toRight, h1])
theorem lnNew_ok (me : Ref) (F : List Assn) (h1 : keyOk me.key) (h2 : vecOk me.vec) : Meets Tryz.prog 46 [rv me] F (Some' (fun _ : Nat => True) (fun b => .tuple #[ptr b, i64 0]) (fun b => LinksP b ⟨me, []⟩ :: F)) := by
  refine Meets.intro b46 k46 (by simp) ?_
  have hg : GM.er [] = (⟨me, []⟩ : LK).m := rfl
  refine J.imp RecsA.nil ?_
  focus
   refine zs <| yB rfl fun b1 => zc rfl <| zc rfl <| zfw [_, _] rfl rfl rfl rfl <| yD rfl rfl (.of .rf) (kCheck_fn _ _) <| zj rfl rfl rfl <| yF rfl (by assumption) <| zf 3 rfl rfl <| yF rfl (by assumption) <| zy (.Lf rfl (Nat.le_of_ble_eq_true rfl)) <| yF rfl (by assumption) ?_
   refine yD rfl rfl (.of .rf) (vRight_fn _ _) <| yF rfl (by assumption) <| zj rfl rfl rfl <| zy (.pickFp rfl (by assumption) rfl) <| zd <| zq <| zi rfl (fun h3 => ?_) (fun h3 => ?_)
   contradiction
   refine zk <| zs <| zw rfl rfl ?_
  refine JT.mkm vv (fun x : Nat × RecA => ptr x.1) (fun b15 => ?_)
  focus
   refine zg rfl <| yB rfl fun b2 => zc rfl <| zd <| zr <| yQ _ (.t rfl (.t rfl .nil)) trivial rfl (.of (LinksP.fold .here .here (.there .here) (by first | assumption | omega | rfl | decide) (.d .rf)))
theorem lnNew_no (me : Ref) (F : List Assn) (h : ¬ (keyOk me.key ∧ vecOk me.vec)) : Meets Tryz.prog 46 [rv me] F (Det (.tuple #[.pointer none, i64 80]) F) := by
  refine Meets.intro b46 k46 (by simp) ?_
  by_cases h1 : keyOk me.key
  · have h2 : ¬ vecOk me.vec := fun h2 => h ⟨h1, h2⟩
    focus
     refine zs <| yB rfl fun b1 => zc rfl <| zc rfl <| zfw [_, _] rfl rfl rfl rfl <| yD rfl rfl (.of .rf) (kCheck_fn _ _) <| zj rfl rfl rfl <| yF rfl (by assumption) <| zf 3 rfl rfl <| yF rfl (by assumption) <| zy (.Lf rfl (Nat.le_of_ble_eq_true rfl)) <| yF rfl (by assumption) ?_
     refine yD rfl rfl (.of .rf) (vRight_fn _ _) <| yF rfl (by assumption) <| zj rfl rfl rfl <| zy (.pickFp rfl (by assumption) rfl) <| zd <| zq <| zi rfl (fun h3 => ?_) (fun h3 => ?_)
     refine zs <| zc rfl <| zc rfl <| zd <| zr <| yR (.t rfl (.t rfl .nil)) rfl (.of (.d .rf))
     contradiction
  · focus
     refine zs <| yB rfl fun b1 => zc rfl <| zc rfl <| zfw [_, _] rfl rfl rfl rfl <| yD rfl rfl (.of .rf) (kCheck_fn _ _) <| zj rfl rfl rfl <| yFs rfl (by assumption) <| yFs rfl (by assumption) <| yFs rfl (by assumption) <| yFs rfl (by assumption) <| zy (.pickTp rfl (by assumption) rfl) ?_
     refine zd <| zq <| zt rfl <| zs <| zc rfl <| zc rfl <| zd <| zr <| yR (.t rfl (.t rfl .nil)) rfl (.of (.d .rf))

theorem lnOwned_none (b : Nat) (l : LK) (w : Vec) (o : Owner) (e : Bool) (F : List Assn) (h : l.ownE w o e ≠ 0) : Meets Tryz.prog 58 [ptr b, vv w, ov o, .bool e] (LinksP b l :: F) (Det (.tuple #[.pointer none, i64 (l.ownE w o e)]) (LinksP b (l.touch w) :: F)) := by
  refine Meets.intro b58 k58 (by simp) ?_
  cases hr : l.rec? w with
  | none =>
    rw [(rec?_none hr).2.2]
    focus
     refine zs <| yB rfl fun b5 => yB rfl fun b6 => zc rfl <| zc rfl <| yD rfl rfl (.of (.t2 .rf)) (lnIs_P _ _ _) <| zc rfl <| zd <| zq <| zu rfl <| zk <| zs ?_
     refine zw rfl rfl <| yD rfl rfl (.of (.t0 .rf)) (lnIn_none _ _ _ _ (by assumption)) <| zc rfl <| zd <| zq <| zt rfl <| zs <| zc rfl <| zc rfl <| zd <| zr <| yR (.t rfl (.t rfl .nil)) ?_ (.of (.t0 (.d (.d .rf))))
    simp only [mkRet]; unfold LK.ownE; rw [hr]
  | some a =>
    focus
     refine zs <| yB rfl fun b5 => yB rfl fun b6 => zc rfl <| zc rfl <| yD rfl rfl (.of (.t2 .rf)) (lnIs_P _ _ _) <| zc rfl <| zd <| zq <| zu rfl <| zk <| zs ?_
     refine zw rfl rfl <| yE rfl rfl (.of (.t0 .rf)) (lnIn_some _ _ _ _ _ (by first | assumption | omega | decide | exact rfl)) fun x10 _ => ?_
     refine zc rfl <| zd <| zq <| zu rfl <| zk <| zs <| zc rfl <| zp rfl (fun h1 => ?_) (fun h1 => ?_)
     refine yD rfl rfl (.of (.t1 .rf)) (lnEnd_H _ _ _ _ _) <| zy (.pickTp rfl (by assumption) rfl) <| zd <| zq <| zi rfl (fun h2 => ?_) (fun h2 => ?_)
     refine zs <| zc rfl <| zc rfl <| zd <| zr <| seqQ_r ?_
     rotate_left
     refine zk <| zs <| zw rfl rfl <| yD rfl rfl (.of .rf) (lkCheck_fn _ _) <| zj rfl rfl rfl <| zd <| zq <| zi rfl (fun h3 => ?_) (fun h3 => ?_)
     refine zs <| zc rfl <| zc rfl <| zd <| zr <| seqQ_r ?_
     rotate_left
     refine zk <| zs <| zf 10 rfl rfl ?_
     rotate_left
     refine zy (.pickFp rfl (by assumption) rfl) <| zd <| zq <| zu rfl <| zk <| zs <| zw rfl rfl <| yD rfl rfl (.of .rf) (lkCheck_fn _ _) <| zj rfl rfl rfl <| zd <| zq <| zi rfl (fun h2 => ?_) (fun h2 => ?_)
     refine zs <| zc rfl <| zc rfl <| zd <| zr <| seqQ_r ?_
     rotate_left
     refine zk <| zs <| zf 10 rfl rfl ?_
     rotate_left
    · refine retQ_up (LinksH.up (by (repeat (first | exact Has.here | assumption | apply Has.there))) (by (repeat (first | exact Has.here | assumption | apply Has.there))) (touch_upd hr)) ?_
      unfold LK.ownE; rw [hr]; simp only; (repeat (first | rw [if_pos (by (first | assumption | omega | grind))] | rw [if_neg (by (first | assumption | omega | grind))]))
      focus
       refine yR (.t rfl (.t rfl .nil)) rfl (.of (.t0 (.d (.d .rf))))
    · refine retQ_up (LinksH.up (by (repeat (first | exact Has.here | assumption | apply Has.there))) (by (repeat (first | exact Has.here | assumption | apply Has.there))) (touch_upd hr)) ?_
      have hc : ckE o = 70 := by rw [ckE, if_neg h3]
      unfold LK.ownE; rw [hr]; simp only [hc]; (repeat (first | rw [if_pos (by (first | assumption | omega | grind))] | rw [if_neg (by (first | assumption | omega | grind))]))
      focus
       refine yR (.t rfl (.t rfl .nil)) rfl (.of (.t0 (.d (.d .rf))))
    · refine JT.openRec (p := x10) (a := a) (by (repeat (first | exact Has.here | assumption | apply Has.there))) (fun T lb => ?_)
      focus
       refine zl rfl rfl <| yD rfl rfl (.of (.t1 .rf)) (lkHolder_fn _ _ _) <| zc rfl <| zc rfl <| yN fun b12 => yW rfl rfl rfl rfl rfl <| zc rfl <| zh rfl rfl (fun h4 => .Lw rfl rfl) <| zh rfl rfl (fun h4 => .Lw rfl rfl) <| zh rfl rfl (fun h4 => by rw [h4]; exact .neT rfl rfl) <| zy (.pickO rfl rfl rfl) <| zd ?_
       refine zq <| zi rfl (fun h4 => ?_) (fun h4 => ?_)
       refine zs <| zc rfl <| zc rfl <| zd <| zr <| seqQ_r ?_
       rotate_left
       refine zk <| zs <| zc rfl <| zc rfl <| zd <| zr ?_
       rotate_left
      · refine retQ_up (Up.of (RecP.fold (p := x10) (a := a) (by (repeat (first | exact Has.here | assumption | apply Has.there))) (by (repeat (first | exact Has.here | assumption | apply Has.there))) (Imp.refl _))) ?_
        refine retQ_up (LinksH.up (by (repeat (first | exact Has.here | assumption | apply Has.there))) (by (repeat (first | exact Has.here | assumption | apply Has.there))) (touch_upd hr)) ?_
        have hc : ckE o = 0 := by rw [ckE, if_pos h3]
        unfold LK.ownE; rw [hr]; simp only [hc]; (repeat (first | rw [if_pos (by (first | assumption | omega | grind))] | rw [if_neg (by (first | assumption | omega | grind))]))
        focus
         refine yR (.t rfl (.t rfl .nil)) rfl (.of (.t0 (.d (.d (.d .rf)))))
      · exfalso; apply h; unfold LK.ownE ckE; rw [hr]; simp_all
    · refine retQ_up (LinksH.up (by (repeat (first | exact Has.here | assumption | apply Has.there))) (by (repeat (first | exact Has.here | assumption | apply Has.there))) (touch_upd hr)) ?_
      have hc : ckE o = 70 := by rw [ckE, if_neg h2]
      unfold LK.ownE; rw [hr]; simp only [hc]; (repeat (first | rw [if_pos (by (first | assumption | omega | grind))] | rw [if_neg (by (first | assumption | omega | grind))]))
      focus
       refine yR (.t rfl (.t rfl .nil)) rfl (.of (.t0 (.d (.d .rf))))
    · refine JT.openRec (p := x10) (a := a) (by (repeat (first | exact Has.here | assumption | apply Has.there))) (fun T lb => ?_)
      focus
       refine zl rfl rfl <| yD rfl rfl (.of (.t1 .rf)) (lkHolder_fn _ _ _) <| zc rfl <| zc rfl <| yN fun b12 => yW rfl rfl rfl rfl rfl <| zc rfl <| zh rfl rfl (fun h3 => .Lw rfl rfl) <| zh rfl rfl (fun h3 => .Lw rfl rfl) <| zh rfl rfl (fun h3 => by rw [h3]; exact .neT rfl rfl) <| zy (.pickO rfl rfl rfl) <| zd ?_
       refine zq <| zi rfl (fun h3 => ?_) (fun h3 => ?_)
       refine zs <| zc rfl <| zc rfl <| zd <| zr <| seqQ_r ?_
       rotate_left
       refine zk <| zs <| zc rfl <| zc rfl <| zd <| zr ?_
       rotate_left
      · refine retQ_up (Up.of (RecP.fold (p := x10) (a := a) (by (repeat (first | exact Has.here | assumption | apply Has.there))) (by (repeat (first | exact Has.here | assumption | apply Has.there))) (Imp.refl _))) ?_
        refine retQ_up (LinksH.up (by (repeat (first | exact Has.here | assumption | apply Has.there))) (by (repeat (first | exact Has.here | assumption | apply Has.there))) (touch_upd hr)) ?_
        have hc : ckE o = 0 := by rw [ckE, if_pos h2]
        unfold LK.ownE; rw [hr]; simp only [hc]; (repeat (first | rw [if_pos (by (first | assumption | omega | grind))] | rw [if_neg (by (first | assumption | omega | grind))]))
        focus
         refine yR (.t rfl (.t rfl .nil)) rfl (.of (.t0 (.d (.d (.d .rf)))))
      · exfalso; apply h; unfold LK.ownE ckE; rw [hr]; simp_all
theorem lnOwned_some (b : Nat) (l : LK) (w : Vec) (o : Owner) (e : Bool) (F : List Assn) (a : RecA) (ha : l.rec? w = some a) (h : l.ownE w o e = 0) : Meets Tryz.prog 58 [ptr b, vv w, ov o, .bool e] (LinksP b l :: F)
    (Some' (fun _ : Nat => True) (fun p => .tuple #[ptr p, i64 0]) (fun p => RecP p a :: LinksH b (l.touch w) w p :: F)) := by
  refine Meets.intro b58 k58 (by simp) ?_
  have h' := ownE_zero ha h
  obtain ⟨g1, g2, g3, g4⟩ := h'
  focus
   refine zs <| yB rfl fun b5 => yB rfl fun b6 => zc rfl <| zc rfl <| yD rfl rfl (.of (.t2 .rf)) (lnIs_P _ _ _) <| zc rfl <| zd <| zq <| zu rfl <| zk <| zs ?_
   refine zw rfl rfl <| yE rfl rfl (.of (.t0 .rf)) (lnIn_some _ _ _ _ _ (by first | assumption | omega | decide | exact rfl)) fun x10 _ => ?_
   refine zc rfl <| zd <| zq <| zu rfl <| zk <| zs <| zc rfl <| zp rfl (fun h1 => ?_) (fun h1 => ?_)
   refine yD rfl rfl (.of (.t1 .rf)) (lnEnd_H _ _ _ _ _) <| zy (.pickTp rfl (by assumption) rfl) <| zd <| zq <| zi rfl (fun h2 => ?_) (fun h2 => ?_)
   refine zs <| zc rfl <| zc rfl <| zd <| zr <| seqQ_r ?_
   rotate_left
   refine zk <| zs <| zw rfl rfl <| yD rfl rfl (.of .rf) (lkCheck_fn _ _) <| zj rfl rfl rfl <| zd <| zq <| zi rfl (fun h3 => ?_) (fun h3 => ?_)
   contradiction
   refine zk <| zs <| zf 10 rfl rfl ?_
   rotate_left
   refine zy (.pickFp rfl (by assumption) rfl) <| zd <| zq <| zu rfl <| zk <| zs <| zw rfl rfl <| yD rfl rfl (.of .rf) (lkCheck_fn _ _) <| zj rfl rfl rfl <| zd <| zq <| zi rfl (fun h2 => ?_) (fun h2 => ?_)
   contradiction
   refine zk <| zs <| zf 10 rfl rfl ?_
   rotate_left
  · exact absurd ⟨h1, h2⟩ g1
  · refine JT.openRec (p := x10) (a := a) (by (repeat (first | exact Has.here | assumption | apply Has.there))) (fun T lb => ?_)
    focus
     refine zl rfl rfl <| yD rfl rfl (.of (.t1 .rf)) (lkHolder_fn _ _ _) <| zc rfl <| zc rfl <| yN fun b12 => yW rfl rfl rfl rfl rfl <| zc rfl <| yF rfl (by assumption) <| zw rfl rfl <| yF rfl (by assumption) <| zw rfl rfl <| yF rfl (by assumption) ?_
     refine zy (.neTf rfl rfl (by assumption)) <| zy (.pickFp rfl (by assumption) rfl) <| zd <| zq <| zu rfl <| zk <| zs <| zc rfl <| zc rfl <| zd <| zr <| yQ _ (.t rfl (.t rfl .nil)) trivial rfl (.of (RecP.fold (.there (.there .here)) (.there .here) (.t1 (.d (.d (.d .rf))))))
    all_goals first | (exfalso; simp_all; done) | trace_state
  · refine JT.openRec (p := x10) (a := a) (by (repeat (first | exact Has.here | assumption | apply Has.there))) (fun T lb => ?_)
    focus
     refine zl rfl rfl <| yD rfl rfl (.of (.t1 .rf)) (lkHolder_fn _ _ _) <| zc rfl <| zc rfl <| yN fun b12 => yW rfl rfl rfl rfl rfl <| zc rfl <| yF rfl (by assumption) <| zw rfl rfl <| yF rfl (by assumption) <| zw rfl rfl <| yF rfl (by assumption) ?_
     refine zy (.neTf rfl rfl (by assumption)) <| zy (.pickFp rfl (by assumption) rfl) <| zd <| zq <| zu rfl <| zk <| zs <| zc rfl <| zc rfl <| zd <| zr <| yQ _ (.t rfl (.t rfl .nil)) trivial rfl (.of (RecP.fold (.there (.there .here)) (.there .here) (.t1 (.d (.d (.d .rf))))))
    all_goals first | (exfalso; simp_all; done) | trace_state
end Go.Proofs.YtmeajliiloaegaaGreat

set_option linter.unusedSimpArgs false
set_option linter.unusedVariables false
set_option maxRecDepth 100000
set_option maxHeartbeats 2000000
namespace Go.Proofs.YtmeajliiloaegaaGreat
open Go Go.SL
attribute [local irreducible] pc rc SlT Me Mt It pt ro pur ex sep old Meets
attribute [local irreducible] LockP RecP RecsA LinksP LinksH

theorem lnPut_fn (b : Nat) (l : LK) (w : Vec) (x y : Ref) (o : Owner) (F : List Assn) : Meets Tryz.prog 34 [ptr b, vv w, rv x, rv y, ov o] (LinksP b l :: F) (Det (i64 (l.put w x y o).2) (LinksP b (l.put w x y o).1 :: F)) := by
  refine Meets.intro b34 k34 (by simp) ?_
  unfold LK.put
  focus
   refine zs <| yB rfl fun b6 => yB rfl fun b7 => yB rfl fun b8 => yB rfl fun b9 => zc rfl <| zd <| zq <| zb <| zs <| yD rfl rfl (.of (.t4 .rf)) (lnIs_P _ _ _) <| zc rfl ?_
   refine zd <| zu rfl <| zs <| yD rfl rfl (.of (.t0 .rf)) (lnEnd_P _ _ _) <| zn rfl (fun h1 => ?_) (fun h1 => ?_)
   refine zw rfl rfl <| yF rfl (by assumption) <| yD rfl rfl (.of (.t0 .rf)) (lnMay_P _ _ _ _) <| yF rfl (by assumption) <| zc rfl <| zy (.pickFp rfl (by assumption) rfl) <| zd <| zi rfl (fun h2 => ?_) (fun h2 => ?_)
   refine zs <| zc rfl <| zd <| zr <| blockQ_r <| seqQ_r ?_
   rotate_left
   refine zs <| zf 5 rfl rfl ?_
   rotate_left
   refine yFs rfl (by assumption) <| yFs rfl (by assumption) <| zy (.pickTp rfl (by assumption) rfl) <| zd <| zt rfl <| zs <| zc rfl <| zd <| zr <| blockQ_r <| seqQ_r ?_
   rotate_left
  · (repeat (first | rw [if_pos (by (first | assumption | omega | grind))] | rw [if_neg (by (first | assumption | omega | grind))]))
    focus
     refine yR (.t rfl .nil) rfl (.of (.t0 (.d (.d (.d (.d .rf))))))
  · refine JT.openLinks (b := b) (l := l) (by (repeat (first | exact Has.here | assumption | apply Has.there))) (fun T mb g hg => ?_)
    have hkk := er_alk g w
    rw [hg] at hkk
    focus
     refine zl rfl rfl <| zw rfl rfl <| JT.lk1 rfl (by rfl) (fun v32 h3 => ?_) (fun h3 => ?_)
     refine zc rfl <| zd <| zi rfl (fun h4 => ?_) (fun h4 => ?_)
     refine zs <| zc rfl <| zd <| zr <| blockQ_r <| seqQ_r ?_
     rotate_left
     contradiction
     refine zc rfl <| zd <| zu rfl <| zs <| zw rfl rfl <| yD rfl rfl (.of (LinksP.fold .here .here .here (by first | assumption | omega | rfl | decide) .rf)) (lnToLeft_P _ _ _ _) ?_
     refine zc rfl <| zn rfl (fun h4 => ?_) (fun h4 => ?_)
     refine zw rfl rfl <| yF rfl (by assumption) <| yD rfl rfl (.of (.t0 .rf)) (lnToRight_P _ _ _ _) <| yF rfl (by assumption) <| zc rfl <| zy (.pickFp rfl (by assumption) rfl) <| zd <| zi rfl (fun h5 => ?_) (fun h5 => ?_)
     refine zs <| zc rfl <| zd <| zr <| blockQ_r <| seqQ_r ?_
     rotate_left
     refine zk <| zs <| zw rfl rfl <| yD rfl rfl (.of .rf) (lkCheck_fn _ _) <| zj rfl rfl rfl <| zd <| zq <| zi rfl (fun h6 => ?_) (fun h6 => ?_)
     refine zs <| zc rfl <| zd <| zr <| seqQ_r ?_
     rotate_left
     refine zk <| zs <| zw rfl rfl <| zw rfl rfl <| yE rfl rfl (.of .rf) (lkNew_fn _) fun x52 _ => JT.yA rfl (Ev.Lw rfl rfl) <| JT.yA rfl (Ev.Lw rfl rfl) <| zg rfl <| yB rfl fun b54 => zfl rfl rfl rfl <| zw rfl rfl <| yD rfl rfl (.of (.t1 .rf)) (lkAsk_fn _ _ _ _) ?_
     refine zf 5 rfl rfl ?_
     rotate_left
     refine yFs rfl (by assumption) <| yFs rfl (by assumption) <| zy (.pickTp rfl (by assumption) rfl) <| zd <| zt rfl <| zs <| zc rfl <| zd <| zr <| blockQ_r <| seqQ_r ?_
     rotate_left
    · rw [h3] at hkk
      have : (alk l.m w).isSome = true := by rw [hkk]; rfl
      (repeat (first | rw [if_pos (by (first | assumption | omega | grind))] | rw [if_neg (by (first | assumption | omega | grind))]))
      focus
       refine yR (.t rfl .nil) rfl (.of (LinksP.fold .here .here .here (by first | assumption | omega | rfl | decide) (.d (.d (.d (.d .rf))))))
    all_goals (rw [h3] at hkk; have hs : ¬ (alk l.m w).isSome = true := by rw [hkk]; simp)
    · (repeat (first | rw [if_pos (by (first | assumption | omega | grind))] | rw [if_neg (by (first | assumption | omega | grind))]))
      focus
       refine yR (.t rfl .nil) rfl (.of (.t0 (.d (.d (.d (.d .rf))))))
    · have hc : ckE o = 70 := if_neg h6
      simp only [hc]
      (repeat (first | rw [if_pos (by (first | assumption | omega | grind))] | rw [if_neg (by (first | assumption | omega | grind))]))
      focus
       refine yR (.t rfl .nil) rfl (.of (.t0 (.d (.d (.d (.d .rf))))))
    · refine JT.openLinks (b := b) (l := l) (by (repeat (first | exact Has.here | assumption | apply Has.there))) (fun T2 mb2 g2 hg2 => ?_)
      have hk2 := er_alk g2 w
      rw [hg2, hkk] at hk2
      have hk2' : alk g2 w = none := by simpa using hk2.symm
      have hn := alk_none_aix hk2'
      have hc : ckE o = 0 := if_pos h6
      focus
       refine zl rfl rfl <| zw rfl rfl ?_
      refine JT.mu (v := (b54, (⟨x, y, (LS.new.ask o).1⟩ : RecA))) rfl (by rfl) rfl ?_
      have e : aput g2 w (b54, (⟨x, y, (LS.new.ask o).1⟩ : RecA)) = g2 ++ [(w, (b54, ⟨x, y, (LS.new.ask o).1⟩))] := by unfold aput; rw [hn]
      rw [e]
      have he := er_snoc g2 w (b54, ⟨x, y, (LS.new.ask o).1⟩) l hg2 hn
      focus
       refine zc rfl <| zd <| zr ?_
      refine retQ_up (Up.of (RecP.fold (p := b54) (a := ⟨x, y, (LS.new.ask o).1⟩) (by (repeat (first | exact Has.here | assumption | apply Has.there))) (by (repeat (first | exact Has.here | assumption | apply Has.there))) (Imp.refl _))) ?_
      refine retQ_up (Up.of (Imp.trans (Imp.take (c := RecP b54 ⟨x, y, (LS.new.ask o).1⟩) (by (repeat (first | exact Has.here | assumption | apply Has.there))) (Imp.take (c := RecsA g2) (by (repeat (first | exact Has.here | assumption | apply Has.there))) (Imp.refl _))) (RecsA.snoc (w := w)))) ?_
      simp only [hc]
      (repeat (first | rw [if_pos (by (first | assumption | omega | grind))] | rw [if_neg (by (first | assumption | omega | grind))]))
      focus
       refine yR (.t rfl .nil) rfl (.of (LinksP.fold (.there (.there .here)) (.there .here) .here (by first | assumption | omega | rfl | decide) (.d (.d (.d (.d .rf))))))
    · (repeat (first | rw [if_pos (by (first | assumption | omega | grind))] | rw [if_neg (by (first | assumption | omega | grind))]))
      focus
       refine yR (.t rfl .nil) rfl (.of (.t0 (.d (.d (.d (.d .rf))))))
  · (repeat (first | rw [if_pos (by (first | assumption | omega | grind))] | rw [if_neg (by (first | assumption | omega | grind))]))
    focus
     refine yR (.t rfl .nil) rfl (.of (.t0 (.d (.d (.d (.d .rf))))))
theorem lnOut_no (b : Nat) (l : LK) (w : Vec) (o : Owner) (F : List Assn) (h : l.ownE w o false ≠ 0) : Meets Tryz.prog 68 [ptr b, vv w, ov o] (LinksP b l :: F) (Det (.tuple #[.slice none 0 0, i64 (l.ownE w o false)]) (LinksP b (l.touch w) :: F)) := by
  refine Meets.intro b68 k68 (by simp) ?_
  focus
   refine zs <| yB rfl fun b4 => yB rfl fun b5 => zc rfl <| zc rfl <| zw rfl rfl <| zw rfl rfl <| yD rfl rfl (.of (.t2 .rf)) (lnOwned_none _ _ _ _ _ _ (by assumption)) <| zc rfl <| zc rfl <| zc rfl <| zc rfl ?_
   refine zy (.cneT rfl rfl (by omega)) <| zd <| zq <| zt rfl <| zs <| zc rfl <| zc rfl <| zd <| zr <| yR (.t rfl (.t rfl .nil)) rfl (.of (.t0 (.d (.d .rf))))
theorem lnOut_ok (b : Nat) (l : LK) (w : Vec) (o : Owner) (F : List Assn) (a : RecA) (ha : l.rec? w = some a) (h : l.ownE w o false = 0) (hS : a.lk.w.length ≤ 8388608) : Meets Tryz.prog 68 [ptr b, vv w, ov o] (LinksP b l :: F)
    (Some' (fun _ : Option Addr × Nat => True) (fun x => .tuple #[.slice x.1 a.lk.w.length x.2, i64 0]) (fun x => SlT false ownerC 2 (.slice x.1 a.lk.w.length x.2) x.2 a.lk.w :: LinksP b ((l.touch w).del w) :: F)) := by
  refine Meets.intro b68 k68 (by simp) ?_
  focus
   refine zs <| yB rfl fun b4 => yB rfl fun b5 => zc rfl <| zc rfl <| zw rfl rfl <| zw rfl rfl <| yE rfl rfl (.of (.t2 .rf)) (lnOwned_some _ _ _ _ _ _ _ (by first | assumption | omega | decide | exact rfl) (by assumption)) fun x14 _ => ?_
   refine zc rfl <| zc rfl <| zc rfl <| zc rfl <| zy (.cneF rfl rfl (by decide)) <| zd <| zq <| zu rfl <| zk <| zs <| zf 5 rfl rfl ?_
  refine JT.openLinksH (b := b) (l := l.touch w) (w := w) (p := x14) (by (repeat (first | exact Has.here | assumption | apply Has.there))) (fun T mb g i he hi hp => ?_)
  obtain ⟨a0, hg⟩ := hp
  have hd : adel g w = g.eraseIdx i := by unfold adel; rw [hi]
  have he' : GM.er (g.eraseIdx i) = ((l.touch w).del w).m := by rw [← hd, er_del, he]; rfl
  focus
   refine zl rfl rfl <| zw rfl rfl <| JT.dl rfl (by rfl) ?_
   refine zf 10 rfl rfl ?_
  rw [hd]
  refine JT.openRec (p := x14) (a := a) (by (repeat (first | exact Has.here | assumption | apply Has.there))) (fun T2 lb => ?_)
  focus
   refine zl rfl rfl <| yE rfl rfl (.of (.t1 .rf)) (lkEnd_fn _ _ _ (by assumption)) fun ⟨a29, c29⟩ _ => zc rfl <| zc rfl <| zc rfl <| zc rfl <| zd <| zr <| yQ ⟨_, _⟩ (.t rfl (.t rfl .nil)) trivial rfl (.of (.t0 (LinksP.fold (.there (.there (.there .here))) (.there (.there .here)) (.there (.there .here)) (by first | assumption | omega | rfl | decide) (.d (.d (.d (.d .rf)))))))
theorem lnLeft_fn (b : Nat) (l : LK) (w : Vec) (x : Ref) (F : List Assn) : Meets Tryz.prog 33 [ptr b, vv w, rv x] (LinksP b l :: F) (Det (i64 (l.left w x).2) (LinksP b (l.left w x).1 :: F)) := by
  refine Meets.intro b33 k33 (by simp) ?_
  unfold LK.left
  cases hr : l.rec? w with
  | none =>
    simp only [(rec?_none hr).2.2]
    focus
     refine zs <| yB rfl fun b4 => yB rfl fun b5 => zc rfl <| yD rfl rfl (.of (.t2 .rf)) (lnIs_P _ _ _) <| zc rfl <| zd <| zq <| zu rfl <| zk <| zs <| zw rfl rfl ?_
     refine yD rfl rfl (.of (.t0 .rf)) (lnIn_none _ _ _ _ (by assumption)) <| zd <| zq <| zb <| zs <| zc rfl <| zd <| zt rfl <| zs <| zc rfl <| zd <| zr ?_
     refine yR (.t rfl .nil) rfl (.of (.t0 (.d (.d .rf))))
  | some a =>
    simp only
    focus
     refine zs <| yB rfl fun b4 => yB rfl fun b5 => zc rfl <| yD rfl rfl (.of (.t2 .rf)) (lnIs_P _ _ _) <| zc rfl <| zd <| zq <| zu rfl <| zk <| zs <| zw rfl rfl ?_
     refine yE rfl rfl (.of (.t0 .rf)) (lnIn_some _ _ _ _ _ (by first | assumption | omega | decide | exact rfl)) fun x7 _ => ?_
     refine zd <| zq <| zb <| zs <| zc rfl <| zd <| zu rfl <| zs <| zw rfl rfl <| yD rfl rfl (.of (.t1 .rf)) (lnToLeft_H _ _ _ _ _ _) <| zc rfl <| zd ?_
     refine zi rfl (fun h1 => ?_) (fun h1 => ?_)
     refine zs <| zc rfl <| zd <| zr <| blockQ_r <| seqQ_r ?_
     rotate_left
     refine zk <| zs <| zw rfl rfl <| zf 0 rfl rfl ?_
     rotate_left
    · refine retQ_up (LinksH.up (by (repeat (first | exact Has.here | assumption | apply Has.there))) (by (repeat (first | exact Has.here | assumption | apply Has.there))) (touch_upd hr)) ?_
      (repeat (first | rw [if_pos (by (first | assumption | omega | grind))] | rw [if_neg (by (first | assumption | omega | grind))]))
      focus
       refine yR (.t rfl .nil) rfl (.of (.t0 (.d (.d .rf))))
    · refine JT.openRec (p := x7) (a := a) (by (repeat (first | exact Has.here | assumption | apply Has.there))) (fun T lb => ?_)
      focus
       refine yS rfl rfl rfl rfl rfl (Nat.le_of_ble_eq_true rfl) rfl <| zc rfl <| zd <| zr ?_
      (repeat (first | rw [if_pos (by (first | assumption | omega | grind))] | rw [if_neg (by (first | assumption | omega | grind))]))
      refine retQ_up (Up.of (RecP.fold (p := x7) (a := { a with left := x }) (by (repeat (first | exact Has.here | assumption | apply Has.there))) (by (repeat (first | exact Has.here | assumption | apply Has.there))) (Imp.refl _))) ?_
      refine retQ_up (LinksH.up (by (repeat (first | exact Has.here | assumption | apply Has.there))) (by (repeat (first | exact Has.here | assumption | apply Has.there))) rfl) ?_
      focus
       refine yR (.t rfl .nil) rfl (.of (.t0 (.d (.d .rf))))
theorem lnRight_fn (b : Nat) (l : LK) (w : Vec) (x : Ref) (o : Owner) (F : List Assn) : Meets Tryz.prog 32 [ptr b, vv w, rv x, ov o] (LinksP b l :: F) (Det (i64 (l.right w x o).2) (LinksP b (l.right w x o).1 :: F)) := by
  refine Meets.intro b32 k32 (by simp) ?_
  unfold LK.right
  cases hr : l.rec? w with
  | none =>
    have h : l.ownE w o true ≠ 0 := by unfold LK.ownE; rw [hr]; simp
    focus
     refine zs <| yB rfl fun b5 => yB rfl fun b6 => yB rfl fun b7 => zc rfl <| zw rfl rfl <| zw rfl rfl <| yD rfl rfl (.of (.t3 .rf)) (lnOwned_none _ _ _ _ _ _ (by assumption)) <| zc rfl <| zc rfl <| zc rfl <| zc rfl ?_
     refine zy (.cneT rfl rfl (by omega)) <| zd <| zq <| zt rfl <| zs <| zc rfl <| zd <| zr <| yR (.t rfl .nil) rfl (.of (.t0 (.d (.d (.d .rf)))))
  | some a =>
    simp only
    by_cases h : l.ownE w o true = 0
    · focus
       refine zs <| yB rfl fun b5 => yB rfl fun b6 => yB rfl fun b7 => zc rfl <| zw rfl rfl <| zw rfl rfl <| yE rfl rfl (.of (.t3 .rf)) (lnOwned_some _ _ _ _ _ _ _ (by first | assumption | omega | decide | exact rfl) (by assumption)) fun x15 _ => ?_
       refine zc rfl <| zc rfl <| zc rfl <| zc rfl <| zy (.cneF rfl rfl (by decide)) <| zd <| zq <| zu rfl <| zk <| zs <| zw rfl rfl <| yD rfl rfl (.of (.t1 .rf)) (lnToRight_H _ _ _ _ _ _) ?_
       refine zc rfl <| zd <| zq <| zi rfl (fun h1 => ?_) (fun h1 => ?_)
       refine zs <| zc rfl <| zd <| zr <| seqQ_r ?_
       rotate_left
       refine zk <| zs <| zw rfl rfl <| zf 5 rfl rfl ?_
       rotate_left
      · refine retQ_up (LinksH.up (by (repeat (first | exact Has.here | assumption | apply Has.there))) (by (repeat (first | exact Has.here | assumption | apply Has.there))) (touch_upd hr)) ?_
        (repeat (first | rw [if_pos (by (first | assumption | omega | grind))] | rw [if_neg (by (first | assumption | omega | grind))]))
        focus
         refine yR (.t rfl .nil) rfl (.of (.t0 (.d (.d (.d .rf)))))
      · refine JT.openRec (p := x15) (a := a) (by (repeat (first | exact Has.here | assumption | apply Has.there))) (fun T lb => ?_)
        focus
         refine yS rfl rfl rfl rfl rfl (Nat.le_of_ble_eq_true rfl) rfl <| zc rfl <| zd <| zr ?_
        (repeat (first | rw [if_pos (by (first | assumption | omega | grind))] | rw [if_neg (by (first | assumption | omega | grind))]))
        refine retQ_up (Up.of (RecP.fold (p := x15) (a := { a with right := x }) (by (repeat (first | exact Has.here | assumption | apply Has.there))) (by (repeat (first | exact Has.here | assumption | apply Has.there))) (Imp.refl _))) ?_
        refine retQ_up (LinksH.up (by (repeat (first | exact Has.here | assumption | apply Has.there))) (by (repeat (first | exact Has.here | assumption | apply Has.there))) rfl) ?_
        focus
         refine yR (.t rfl .nil) rfl (.of (.t0 (.d (.d (.d .rf)))))
    · (repeat (first | rw [if_pos (by (first | assumption | omega | grind))] | rw [if_neg (by (first | assumption | omega | grind))]))
      focus
       refine zs <| yB rfl fun b5 => yB rfl fun b6 => yB rfl fun b7 => zc rfl <| zw rfl rfl <| zw rfl rfl <| yD rfl rfl (.of (.t3 .rf)) (lnOwned_none _ _ _ _ _ _ (by assumption)) <| zc rfl <| zc rfl <| zc rfl <| zc rfl ?_
       refine zy (.cneT rfl rfl (by omega)) <| zd <| zq <| zt rfl <| zs <| zc rfl <| zd <| zr <| yR (.t rfl .nil) rfl (.of (.t0 (.d (.d (.d .rf)))))
theorem lnLock_fn (b : Nat) (l : LK) (w : Vec) (o : Owner) (F : List Assn) : Meets Tryz.prog 52 [ptr b, vv w, ov o] (LinksP b l :: F) (Det (.tuple #[.bool (l.lock w o).2.1, i64 (l.lock w o).2.2]) (LinksP b (l.lock w o).1 :: F)) := by
  refine Meets.intro b52 k52 (by simp) ?_
  unfold LK.lock
  cases hr : l.rec? w with
  | none =>
    simp only [(rec?_none hr).2.2]
    focus
     refine zs <| yB rfl fun b4 => yB rfl fun b5 => zc rfl <| zc rfl <| yD rfl rfl (.of (.t2 .rf)) (lnIs_P _ _ _) <| zc rfl <| zd <| zq <| zu rfl <| zk <| zs ?_
     refine zw rfl rfl <| yD rfl rfl (.of (.t0 .rf)) (lnIn_none _ _ _ _ (by assumption)) <| zc rfl <| zd <| zq <| zt rfl <| zs <| zc rfl <| zc rfl <| zd <| zr <| yR (.t rfl (.t rfl .nil)) rfl (.of (.t0 (.d (.d .rf))))
  | some a =>
    simp only
    focus
     refine zs <| yB rfl fun b4 => yB rfl fun b5 => zc rfl <| zc rfl <| yD rfl rfl (.of (.t2 .rf)) (lnIs_P _ _ _) <| zc rfl <| zd <| zq <| zu rfl <| zk <| zs ?_
     refine zw rfl rfl <| yE rfl rfl (.of (.t0 .rf)) (lnIn_some _ _ _ _ _ (by first | assumption | omega | decide | exact rfl)) fun x8 _ => ?_
     refine zc rfl <| zd <| zq <| zu rfl <| zk <| zs <| zf 10 rfl rfl ?_
    refine JT.openRec (p := x8) (a := a) (by (repeat (first | exact Has.here | assumption | apply Has.there))) (fun T lb => ?_)
    focus
     refine zl rfl rfl <| zw rfl rfl <| yD rfl rfl (.of (.t1 .rf)) (lkAsk_fn _ _ _ _) <| zc rfl <| zc rfl <| zc rfl <| zc rfl <| zd <| zr ?_
    refine retQ_up (Up.of (RecP.fold (p := x8) (a := { a with lk := (a.lk.ask o).1 }) (by (repeat (first | exact Has.here | assumption | apply Has.there))) (by (repeat (first | exact Has.here | assumption | apply Has.there))) (Imp.refl _))) ?_
    refine retQ_up (LinksH.up (by (repeat (first | exact Has.here | assumption | apply Has.there))) (by (repeat (first | exact Has.here | assumption | apply Has.there))) rfl) ?_
    focus
     refine yR (.t rfl (.t rfl .nil)) rfl (.of (.t0 (.d (.d .rf))))
theorem lnFree_fn (b : Nat) (l : LK) (w : Vec) (o : Owner) (F : List Assn) : Meets Tryz.prog 54 [ptr b, vv w, ov o] (LinksP b l :: F) (Det (.tuple #[ov (l.free w o).2.1, .bool (l.free w o).2.2.1, i64 (l.free w o).2.2.2]) (LinksP b (l.free w o).1 :: F)) := by
  refine Meets.intro b54 k54 (by simp) ?_
  unfold LK.free
  cases hr : l.rec? w with
  | none =>
    simp only [(rec?_none hr).2.2]
    focus
     refine zs <| yB rfl fun b4 => yB rfl fun b5 => yN fun b6 => zc rfl <| zc rfl <| yD rfl rfl (.of (.t3 .rf)) (lnIs_P _ _ _) <| zc rfl <| zd <| zq <| zu rfl <| zk ?_
     refine zs <| zw rfl rfl <| yD rfl rfl (.of (.t0 .rf)) (lnIn_none _ _ _ _ (by assumption)) <| zc rfl <| zd <| zq <| zt rfl <| zs <| zg rfl <| yW rfl rfl rfl rfl rfl <| zc rfl <| zc rfl ?_
     refine zd <| zr <| yR (.w rfl rfl (.t rfl (.t rfl .nil))) rfl (.of (.t1 (.d (.d (.d .rf)))))
  | some a =>
    simp only
    focus
     refine zs <| yB rfl fun b4 => yB rfl fun b5 => yN fun b6 => zc rfl <| zc rfl <| yD rfl rfl (.of (.t3 .rf)) (lnIs_P _ _ _) <| zc rfl <| zd <| zq <| zu rfl <| zk ?_
     refine zs <| zw rfl rfl <| yE rfl rfl (.of (.t0 .rf)) (lnIn_some _ _ _ _ _ (by first | assumption | omega | decide | exact rfl)) fun x9 _ => ?_
     refine zc rfl <| zd <| zq <| zu rfl <| zk <| zs <| zf 10 rfl rfl ?_
    refine JT.openRec (p := x9) (a := a) (by (repeat (first | exact Has.here | assumption | apply Has.there))) (fun T lb => ?_)
    focus
     refine zl rfl rfl <| zw rfl rfl <| yD rfl rfl (.of (.t1 .rf)) (lkFree_fn _ _ _ _) <| zc rfl <| zc rfl <| zc rfl <| yW rfl rfl rfl rfl rfl <| zc rfl <| zc rfl <| zd <| zr ?_
    refine retQ_up (Up.of (RecP.fold (p := x9) (a := { a with lk := (a.lk.free o).1 }) (by (repeat (first | exact Has.here | assumption | apply Has.there))) (by (repeat (first | exact Has.here | assumption | apply Has.there))) (Imp.refl _))) ?_
    refine retQ_up (LinksH.up (by (repeat (first | exact Has.here | assumption | apply Has.there))) (by (repeat (first | exact Has.here | assumption | apply Has.there))) rfl) ?_
    focus
     refine yR (.w rfl rfl (.t rfl (.t rfl .nil))) rfl (.of (.t0 (.d (.d (.d .rf)))))
end Go.Proofs.YtmeajliiloaegaaGreat

set_option linter.unusedSimpArgs false
set_option linter.unusedVariables false
set_option maxRecDepth 100000
set_option maxHeartbeats 2000000
namespace Go.Proofs.YtmeajliiloaegaaGreat
open Go Go.SL
attribute [local irreducible] pc rc SlT Me Mt It pt ro pur ex sep old Meets
attribute [local irreducible] LockP RecP RecsA LinksP LinksH

theorem lnOut_fn (b : Nat) (l : LK) (w : Vec) (o : Owner) (F : List Assn) (hl : l.Inv) : Meets Tryz.prog 68 [ptr b, vv w, ov o] (LinksP b l :: F)
    (Some' (fun _ : Option Addr × Nat => True) (fun x => .tuple #[.slice x.1 (l.out w o).2.1.length x.2, i64 (l.out w o).2.2]) (fun x => SlT false ownerC 2 (.slice x.1 (l.out w o).2.1.length x.2) x.2 (l.out w o).2.1 :: LinksP b (l.out w o).1 :: F)) := by
  unfold LK.out
  cases e : l.rec? w with
  | none =>
    have h : l.ownE w o false ≠ 0 := by unfold LK.ownE; rw [e]; simp
    refine (lnOut_no b l w o F h).post ?_
    rintro v cs' ⟨rfl, rfl⟩
    exact ⟨_, Up.nilS (enc := ownerC) (sz := 2) false (by decide) (Up.refl _), (none, 0), trivial, rfl, rfl⟩
  | some a =>
    simp only
    by_cases h : l.ownE w o false = 0
    · rw [if_pos h]; exact lnOut_ok b l w o F a e h (Nat.le_trans (hl.at_ e).le (by decide))
    · rw [if_neg h]
      refine (lnOut_no b l w o F h).post ?_
      rintro v cs' ⟨rfl, rfl⟩
      exact ⟨_, Up.nilS (enc := ownerC) (sz := 2) false (by decide) (Up.refl _), (none, 0), trivial, rfl, rfl⟩

theorem lnGet_I (b : Nat) (l : LK) (w : Vec) (F : List Assn) (hl : l.Inv) : Meets Tryz.prog 50 [ptr b, vv w] (LinksP b l :: F)
    (Some' (fun _ : Option Addr × Nat => True) (fun x => .tuple #[rsv (l.getS w) x.1 x.2, .bool (l.getB w)]) (fun x => SlT false ownerC 2 (.slice x.1 (l.getS w).waits.length x.2) x.2 (l.getS w).waits :: LinksP b (l.touch w) :: F)) :=
  lnGet_fn b l w F fun a h => Nat.le_trans (hl.at_ h).le (by decide)

end Go.Proofs.YtmeajliiloaegaaGreat
