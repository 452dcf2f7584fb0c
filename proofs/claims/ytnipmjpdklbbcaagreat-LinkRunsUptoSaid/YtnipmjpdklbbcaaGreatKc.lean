/- Layer 8, a peer's records: what the functions do. Conditions: none. -/
import Derived.Test.YtnipmjpdklbbcaaGreatBn
import Derived.Test.YtnipmjpdklbbcaaGreatKb
set_option linter.unusedSimpArgs false
set_option linter.unusedVariables false
set_option maxRecDepth 100000
set_option maxHeartbeats 2000000
namespace Go.Proofs.YtnipmjpdklbbcaaGreat
open Go Go.SL
attribute [local irreducible] pc rc SlT Me Mt It pt ro pur ex sep old Meets
attribute [local irreducible] LockP RecP RecsA LinksP LinksH

instance : KO Tryz.prog 36 vv := ⟨KeyOk.flat (by kernel_rfl) (by kernel_rfl)⟩
instance {l : LK} : BP (decide (l.me.key.rank = 1) || decide (l.me.key.rank = 3)) l.isEnd (¬ l.isEnd) := .mk' (by simp [LK.isEnd]) .rfl

theorem lnIs_fn {b T mb : Nat} {l : LK} {F r : List Assn} [Hs : HP F b T (linksC l.me mb) r] : Meets Tryz.prog 78 [ptr b] F (Det (.bool true) F) := by
  refine Meets.intro b78 k78 (by simp) ?_
  focus
   refine zs <| zc rfl <| zc rfl <| zm rfl rfl (fun h1 => .fa' 5 rfl rfl) <| zm rfl rfl (fun h1 => by rw [h1]; exact .L rfl rfl) <| zm rfl rfl (fun h1 => by rw [h1]; exact .calc rfl) <| zy (.pickT rfl rfl) <| zd <| zr <| yR (.t rfl .nil) rfl (.of .rf)
theorem lnHead_fn {b T mb : Nat} {l : LK} {F r : List Assn} [Hs : HP F b T (linksC l.me mb) r] : Meets Tryz.prog 145 [ptr b] F (Det (.bool (decide (l.me.key.rank = 1))) F) := by
  refine Meets.intro b145 k145 (by simp) ?_
  focus
   refine zs <| zc rfl <| zf 0 rfl rfl <| zf 1 rfl rfl <| zfl rfl rfl rfl <| zj rfl rfl rfl <| zd <| zr <| yR (.t rfl .nil) rfl (.of .rf)
theorem lnTail_fn {b T mb : Nat} {l : LK} {F r : List Assn} [Hs : HP F b T (linksC l.me mb) r] : Meets Tryz.prog 146 [ptr b] F (Det (.bool (decide (l.me.key.rank = 3))) F) := by
  refine Meets.intro b146 k146 (by simp) ?_
  focus
   refine zs <| zc rfl <| zf 0 rfl rfl <| zf 1 rfl rfl <| zfl rfl rfl rfl <| zj rfl rfl rfl <| zd <| zr <| yR (.t rfl .nil) rfl (.of .rf)
theorem lnEnd_fn {b T mb : Nat} {l : LK} {F r : List Assn} [Hs : HP F b T (linksC l.me mb) r] : Meets Tryz.prog 86 [ptr b] F (Det (.bool (decide l.isEnd)) F) := by
  refine Meets.intro b86 k86 (by simp) ?_
  by_cases h1 : l.me.key.rank = 1
  · focus
     refine zs <| zc rfl <| yD rfl rfl (.of .rf) lnHead_fn <| yFs rfl (by assumption) <| zy (.pickTp rfl (by assumption) rfl) <| zd <| zr <| yR (.t rfl .nil) ?_ (.of .rf)
    simp only [mkRet]; rw [decide_eq_true (show l.isEnd from .inl h1)]
  · focus
     refine zs <| zc rfl <| yD rfl rfl (.of .rf) lnHead_fn <| yF rfl (by assumption) <| yD rfl rfl (.of .rf) lnTail_fn <| zy (.pickFp rfl (by assumption) rfl) <| zd <| zr <| yR (.t rfl .nil) ?_ (.of .rf)
    simp only [mkRet]; congr 1; rw [Bool.eq_iff_iff]; simp [LK.isEnd, h1]
theorem lnMay_fn {b T mb : Nat} {l : LK} {F r : List Assn} [Hs : HP F b T (linksC l.me mb) r] (w : Vec) : Meets Tryz.prog 30 [ptr b, vv w] F (Det (.bool (decide (l.may w))) F) := by
  refine Meets.intro b30 k30 (by simp) ?_
  by_cases hE : l.isEnd
  · by_cases hw : vecOk w
    · focus
       refine zs <| yB rfl fun b3 => zc rfl <| yD rfl rfl (.of .rf) lnIs_fn <| zc rfl <| zd <| zq <| zu rfl <| zk <| zs <| yD rfl rfl (.of .rf) lnEnd_fn <| zd ?_
       refine zq <| zi rfl (fun h1 => ?_) (fun h1 => ?_)
       refine zs <| zw rfl rfl <| yD rfl rfl (.of .rf) (vRight_fn _ _) <| zj rfl rfl rfl <| yT rfl (by assumption) <| zf 0 rfl rfl <| yT rfl (by assumption) <| zl rfl rfl <| yT rfl (by assumption) <| zf 0 rfl rfl <| yT rfl (by assumption) <| zf 3 rfl rfl ?_
       refine yT rfl (by assumption) <| zf 3 rfl rfl <| yT rfl (by assumption) <| zl rfl rfl <| yT rfl (by assumption) <| zj rfl rfl rfl <| zy (.pickTp rfl (by assumption) rfl) <| zd <| zr <| yR (.t rfl .nil) ?_ (.of (.d .rf))
       rotate_left
       contradiction
      simp only [mkRet]; congr 1; rw [Bool.eq_iff_iff]; simp [LK.may, hE, hw]
    · focus
       refine zs <| yB rfl fun b3 => zc rfl <| yD rfl rfl (.of .rf) lnIs_fn <| zc rfl <| zd <| zq <| zu rfl <| zk <| zs <| yD rfl rfl (.of .rf) lnEnd_fn <| zd ?_
       refine zq <| zi rfl (fun h1 => ?_) (fun h1 => ?_)
       refine zs <| zw rfl rfl <| yD rfl rfl (.of .rf) (vRight_fn _ _) <| zj rfl rfl rfl <| yTs rfl (by assumption) <| yTs rfl (by assumption) <| yTs rfl (by assumption) <| yTs rfl (by assumption) <| yTs rfl (by assumption) <| yTs rfl (by assumption) <| yTs rfl (by assumption) <| zy (.pickFp rfl (by assumption) rfl) ?_
       refine zd <| zr <| yR (.t rfl .nil) ?_ (.of (.d .rf))
       rotate_left
       contradiction
      simp only [mkRet]; congr 1; rw [Bool.eq_iff_iff]; simp [LK.may, hE, hw]
  · focus
     refine zs <| yB rfl fun b3 => zc rfl <| yD rfl rfl (.of .rf) lnIs_fn <| zc rfl <| zd <| zq <| zu rfl <| zk <| zs <| yD rfl rfl (.of .rf) lnEnd_fn <| zd ?_
     refine zq <| zi rfl (fun h1 => ?_) (fun h1 => ?_)
     contradiction
     refine zk <| zs <| zf 0 rfl rfl <| zfw [_, _] rfl rfl rfl rfl <| zw rfl rfl <| yD rfl rfl (.of .rf) (vBegins_fn _ _ _) <| zd <| zr <| yR (.t rfl .nil) ?_ (.of (.d .rf))
    simp only [mkRet]; congr 1; rw [Bool.eq_iff_iff]; simp [LK.may, hE]
theorem lnFirst_fn {b T mb : Nat} {l : LK} {F r : List Assn} [Hs : HP F b T (linksC l.me mb) r] : Meets Tryz.prog 97 [ptr b] F (Some' (fun _ : Nat => True) (fun p => ptr p) (fun p => RecP p l.first :: F)) := by
  refine Meets.intro b97 k97 (by simp) ?_
  focus
   refine zs <| zc rfl <| yE rfl rfl (.of .rf) (lkNew_fn _) fun x4 _ => zg rfl <| yB rfl fun b3 => yD rfl rfl (.of .rf) lnHead_fn <| zd <| zq <| zi rfl (fun h1 => ?_) (fun h1 => ?_)
   refine zo <| zg rfl <| zf 0 rfl rfl <| zfw [_, _] rfl rfl rfl rfl <| zg rfl <| zf 5 rfl rfl <| yS (us := [_, _, _, _, _]) rfl rfl rfl rfl rfl (Nat.le_of_ble_eq_true rfl) (by simp only [lput]; rfl) <| zd <| zs <| zc rfl <| zd <| zr ?_
   rotate_left
   refine zo <| zg rfl <| zf 0 rfl rfl <| zfw [_, _] rfl rfl rfl rfl <| zg rfl <| zf 0 rfl rfl <| yS (us := [_, _, _, _, _]) rfl rfl rfl rfl rfl (Nat.le_of_ble_eq_true rfl) (by simp only [lput]; rfl) <| zd <| zs <| zc rfl <| zd <| zr ?_
   rotate_left
  all_goals (unfold LK.first; (repeat (first | rw [if_pos (by (first | assumption | omega | grind))] | rw [if_neg (by (first | assumption | omega | grind))])))
  focus
   refine yQ _ (.t rfl .nil) trivial rfl (.of (RecP.fold .here .here .rf))
  focus
   refine yQ _ (.t rfl .nil) trivial rfl (.of (RecP.fold .here .here .rf))

theorem rec?_none {l : LK} {w : Vec} (h : l.rec? w = none) : alk l.m w = none ∧ ¬ (l.isEnd ∧ l.may w) ∧ l.touch w = l := by
  unfold LK.rec? at h; unfold LK.touch
  cases e : alk l.m w with
  | some v => rw [e] at h; cases h
  | none =>
    rw [e] at h; simp only at h ⊢
    by_cases hc : l.isEnd ∧ l.may w
    · rw [if_pos hc] at h; cases h
    · exact ⟨trivial, hc, by rw [if_neg hc]⟩

theorem rec?_some {l : LK} {w : Vec} {a : RecA} (h : l.rec? w = some a) : (alk l.m w = some a ∧ l.touch w = l) ∨ (alk l.m w = none ∧ l.isEnd ∧ l.may w ∧ a = l.first ∧ l.touch w = l.upd w l.first) := by
  unfold LK.rec? at h; unfold LK.touch
  cases e : alk l.m w with
  | some v => rw [e] at h; simp only at h; exact .inl ⟨h, rfl⟩
  | none =>
    rw [e] at h; simp only at h ⊢
    by_cases hc : l.isEnd ∧ l.may w
    · rw [if_pos hc] at h ⊢; injection h with h; exact .inr ⟨trivial, hc.1, hc.2, h.symm, rfl⟩
    · rw [if_neg hc] at h; cases h

theorem lnIn_none (b : Nat) (l : LK) (w : Vec) (F : List Assn) (h : l.rec? w = none) : Meets Tryz.prog 79 [ptr b, vv w] (LinksP b l :: F) (Det (.pointer none) (LinksP b l :: F)) := by
  refine Meets.intro b79 k79 (by simp) ?_
  refine J.openLinks Has.here (fun T mb g hg => ?_)
  obtain ⟨h1, h2, h3⟩ := rec?_none h
  have hk : alk g w = none := by rw [← hg, er_alk] at h1; simpa using h1
  by_cases hE : l.isEnd
  · have hm : ¬ l.may w := fun hm => h2 ⟨hE, hm⟩
    focus
     refine zs <| yB rfl fun b3 => zc rfl <| zfl rfl rfl rfl <| zw rfl rfl <| JT.lk2n rfl (by rfl) (by assumption) ?_
     refine zc rfl <| zc rfl <| zc rfl <| zc rfl <| zd <| zq <| zu rfl <| zk <| zs <| yD rfl rfl (.of .rf) lnEnd_fn <| zc rfl <| yF rfl (by assumption) ?_
     refine zw rfl rfl <| yF rfl (by assumption) <| yD rfl rfl (.of .rf) (lnMay_fn _) <| yF rfl (by assumption) <| zc rfl <| zy (.pickFp rfl (by assumption) rfl) <| zd <| zq <| zi rfl (fun h4 => ?_) (fun h4 => ?_)
     refine zs <| zc rfl <| zd <| zr <| yR (.t rfl .nil) rfl (.of (LinksP.fold (.there .here) (.there .here) (.there .here) (by first | assumption | omega | rfl | decide) (.d .rf)))
     contradiction
  · focus
     refine zs <| yB rfl fun b3 => zc rfl <| zfl rfl rfl rfl <| zw rfl rfl <| JT.lk2n rfl (by rfl) (by assumption) ?_
     refine zc rfl <| zc rfl <| zc rfl <| zc rfl <| zd <| zq <| zu rfl <| zk <| zs <| yD rfl rfl (.of .rf) lnEnd_fn <| zc rfl <| yFs rfl (by assumption) ?_
     refine yFs rfl (by assumption) <| yFs rfl (by assumption) <| zy (.pickTp rfl (by assumption) rfl) <| zd <| zq <| zt rfl <| zs <| zc rfl <| zd <| zr <| yR (.t rfl .nil) rfl (.of (LinksP.fold (.there .here) (.there .here) (.there .here) (by first | assumption | omega | rfl | decide) (.d .rf)))

theorem lnIn_some (b : Nat) (l : LK) (w : Vec) (F : List Assn) (a : RecA) (h : l.rec? w = some a) :
    Meets Tryz.prog 79 [ptr b, vv w] (LinksP b l :: F) (Some' (fun _ : Nat => True) (fun p => ptr p) (fun p => RecP p a :: LinksH b (l.touch w) w p :: F)) := by
  refine Meets.intro b79 k79 (by simp) ?_
  refine J.openLinks Has.here (fun T mb g hg => ?_)
  rcases rec?_some h with ⟨h1, h2⟩ | ⟨h1, hE, hm, rfl, h2⟩ <;> rw [h2]
  · rw [← hg, er_alk] at h1
    cases hk : alk g w with
    | none => rw [hk] at h1; cases h1
    | some x =>
      obtain ⟨p, a'⟩ := x
      rw [hk] at h1; injection h1 with h1; simp only at h1; subst h1
      obtain ⟨i, hi⟩ := alk_some_aix hk
      have hget := er_at hi hk
      have hp : (g[i]?).map (fun y => y.2.1) = some p := by rw [hget]; rfl
      refine J.imp (Imp.cons (Imp.cons (RecsA.take hget))) ?_
      focus
       refine zs <| yB rfl fun b3 => zc rfl <| zfl rfl rfl rfl <| zw rfl rfl <| JT.lk2s rfl (by rfl) (by assumption) ?_
       refine zc rfl <| zc rfl <| zc rfl <| zc rfl <| zd <| zq <| zt rfl <| zs <| zc rfl <| zd <| zr <| yQ _ (.t rfl .nil) trivial rfl (.of (.t3 (LinksH.fold (.there .here) (.there .here) (.there .here) (by first | assumption | omega | rfl | decide) (by first | assumption | omega | rfl | decide) (by first | assumption | omega | rfl | decide) (.d .rf))))
  · rw [← hg, er_alk] at h1
    have hk : alk g w = none := by simpa using h1
    have hn := alk_none_aix hk
    focus
     refine zs <| yB rfl fun b3 => zc rfl <| zfl rfl rfl rfl <| zw rfl rfl <| JT.lk2n rfl (by rfl) (by assumption) ?_
     refine zc rfl <| zc rfl <| zc rfl <| zc rfl <| zd <| zq <| zu rfl <| zk <| zs <| yD rfl rfl (.of .rf) lnEnd_fn <| zc rfl <| yF rfl (by assumption) ?_
     refine zw rfl rfl <| yF rfl (by assumption) <| yD rfl rfl (.of .rf) (lnMay_fn _) <| yF rfl (by assumption) <| zc rfl <| zy (.pickFp rfl (by assumption) rfl) <| zd <| zq <| zi rfl (fun h3 => ?_) (fun h3 => ?_)
     contradiction
     refine zk <| zs <| yE rfl rfl (.of .rf) lnFirst_fn fun x29 _ => zfl rfl rfl rfl <| zw rfl rfl ?_
    refine JT.mu (v := (x29, l.first)) rfl (by rfl) rfl ?_
    have e : aput g w (x29, l.first) = g ++ [(w, (x29, l.first))] := by unfold aput; rw [hn]
    rw [e]
    have hR : RecsA g = RecsA ((g ++ [(w, (x29, l.first))]).eraseIdx g.length) := by rw [List.eraseIdx_append_of_length_le (Nat.le_refl _)]; simp
    have he := er_snoc g w (x29, l.first) l hg hn
    have hi := aix_snoc (v := (x29, l.first)) hn
    have hp : ((g ++ [(w, (x29, l.first))])[g.length]?).map (fun y => y.2.1) = some x29 := by simp
    rw [hR]
    focus
     refine zc rfl <| zd <| zr <| yQ _ (.t rfl .nil) trivial rfl (.of (.t1 (LinksH.fold (.there (.there .here)) .here (.there .here) (by first | assumption | omega | rfl | decide) (by first | assumption | omega | rfl | decide) (by first | assumption | omega | rfl | decide) (.d .rf))))
  
theorem lnIs_P (b : Nat) (l : LK) (F : List Assn) : Meets Tryz.prog 78 [ptr b] (LinksP b l :: F) (Det (.bool true) (LinksP b l :: F)) := by
  refine Meets.intro b78 k78 (by simp) ?_
  refine J.openLinks Has.here (fun T mb g hg => ?_)
  focus
   refine zs <| zc rfl <| zc rfl <| zm rfl rfl (fun h1 => .fa' 5 rfl rfl) <| zm rfl rfl (fun h1 => by rw [h1]; exact .L rfl rfl) <| zm rfl rfl (fun h1 => by rw [h1]; exact .calc rfl) <| zy (.pickT rfl rfl) <| zd <| zr <| yR (.t rfl .nil) rfl (.of (LinksP.fold .here .here .here (by first | assumption | omega | rfl | decide) .rf))
theorem lnEnd_P (b : Nat) (l : LK) (F : List Assn) : Meets Tryz.prog 86 [ptr b] (LinksP b l :: F) (Det (.bool (decide l.isEnd)) (LinksP b l :: F)) := by
  refine Meets.intro b86 k86 (by simp) ?_
  refine J.openLinks Has.here (fun T mb g hg => ?_)
  by_cases h1 : l.me.key.rank = 1
  · focus
     refine zs <| zc rfl <| yD rfl rfl (.of .rf) lnHead_fn <| yFs rfl (by assumption) <| zy (.pickTp rfl (by assumption) rfl) <| zd <| zr <| yR (.t rfl .nil) ?_ (.of (LinksP.fold .here .here .here (by first | assumption | omega | rfl | decide) .rf))
    simp only [mkRet]; rw [decide_eq_true (show l.isEnd from .inl h1)]
  · focus
     refine zs <| zc rfl <| yD rfl rfl (.of .rf) lnHead_fn <| yF rfl (by assumption) <| yD rfl rfl (.of .rf) lnTail_fn <| zy (.pickFp rfl (by assumption) rfl) <| zd <| zr <| yR (.t rfl .nil) ?_ (.of (LinksP.fold .here .here .here (by first | assumption | omega | rfl | decide) .rf))
    simp only [mkRet]; congr 1; rw [Bool.eq_iff_iff]; simp [LK.isEnd, h1]
theorem lnMay_P (b : Nat) (l : LK) (w : Vec) (F : List Assn) : Meets Tryz.prog 30 [ptr b, vv w] (LinksP b l :: F) (Det (.bool (decide (l.may w))) (LinksP b l :: F)) := by
  refine Meets.intro b30 k30 (by simp) ?_
  by_cases hE : l.isEnd
  · by_cases hw : vecOk w
    · refine J.openLinks Has.here (fun T mb g hg => ?_)
      focus
       refine zs <| yB rfl fun b3 => zc rfl <| yD rfl rfl (.of .rf) lnIs_fn <| zc rfl <| zd <| zq <| zu rfl <| zk <| zs <| yD rfl rfl (.of .rf) lnEnd_fn <| zd ?_
       refine zq <| zi rfl (fun h1 => ?_) (fun h1 => ?_)
       refine zs <| zw rfl rfl <| yD rfl rfl (.of .rf) (vRight_fn _ _) <| zj rfl rfl rfl <| yT rfl (by assumption) <| zf 0 rfl rfl <| yT rfl (by assumption) <| zl rfl rfl <| yT rfl (by assumption) <| zf 0 rfl rfl <| yT rfl (by assumption) <| zf 3 rfl rfl ?_
       refine yT rfl (by assumption) <| zf 3 rfl rfl <| yT rfl (by assumption) <| zl rfl rfl <| yT rfl (by assumption) <| zj rfl rfl rfl <| zy (.pickTp rfl (by assumption) rfl) <| zd <| zr <| yR (.t rfl .nil) ?_ (.of (LinksP.fold (.there .here) (.there .here) (.there .here) (by first | assumption | omega | rfl | decide) (.d .rf)))
       rotate_left
       contradiction
      simp only [mkRet]; congr 1; rw [Bool.eq_iff_iff]; simp [LK.may, hE, hw]
    · refine J.openLinks Has.here (fun T mb g hg => ?_)
      focus
       refine zs <| yB rfl fun b3 => zc rfl <| yD rfl rfl (.of .rf) lnIs_fn <| zc rfl <| zd <| zq <| zu rfl <| zk <| zs <| yD rfl rfl (.of .rf) lnEnd_fn <| zd ?_
       refine zq <| zi rfl (fun h1 => ?_) (fun h1 => ?_)
       refine zs <| zw rfl rfl <| yD rfl rfl (.of .rf) (vRight_fn _ _) <| zj rfl rfl rfl <| yTs rfl (by assumption) <| yTs rfl (by assumption) <| yTs rfl (by assumption) <| yTs rfl (by assumption) <| yTs rfl (by assumption) <| yTs rfl (by assumption) <| yTs rfl (by assumption) <| zy (.pickFp rfl (by assumption) rfl) ?_
       refine zd <| zr <| yR (.t rfl .nil) ?_ (.of (LinksP.fold (.there .here) (.there .here) (.there .here) (by first | assumption | omega | rfl | decide) (.d .rf)))
       rotate_left
       contradiction
      simp only [mkRet]; congr 1; rw [Bool.eq_iff_iff]; simp [LK.may, hE, hw]
  · refine J.openLinks Has.here (fun T mb g hg => ?_)
    focus
     refine zs <| yB rfl fun b3 => zc rfl <| yD rfl rfl (.of .rf) lnIs_fn <| zc rfl <| zd <| zq <| zu rfl <| zk <| zs <| yD rfl rfl (.of .rf) lnEnd_fn <| zd ?_
     refine zq <| zi rfl (fun h1 => ?_) (fun h1 => ?_)
     contradiction
     refine zk <| zs <| zf 0 rfl rfl <| zfw [_, _] rfl rfl rfl rfl <| zw rfl rfl <| yD rfl rfl (.of .rf) (vBegins_fn _ _ _) <| zd <| zr <| yR (.t rfl .nil) ?_ (.of (LinksP.fold (.there .here) (.there .here) (.there .here) (by first | assumption | omega | rfl | decide) (.d .rf)))
    simp only [mkRet]; congr 1; rw [Bool.eq_iff_iff]; simp [LK.may, hE]

theorem recState_fn (p : Nat) (a : RecA) (w : Vec) (F : List Assn) (hS : a.lk.w.length ≤ 8388608) : Meets Tryz.prog 80 [ptr p, vv w] (RecP p a :: F)
    (Some' (fun _ : Option Addr × Nat => True) (fun x => rsv (a.state w) x.1 x.2) (fun x => SlT false ownerC 2 (.slice x.1 a.lk.w.length x.2) x.2 a.lk.w :: RecP p a :: F)) := by
  refine Meets.intro b80 k80 (by simp) ?_
  refine J.openRec Has.here (fun T lb => ?_)
  focus
   refine zs <| yB rfl fun b3 => yN fun b4 => zw rfl rfl <| zf 0 rfl rfl <| zy (.Lp (us := [_, _, _, _, _]) rfl (Nat.le_of_ble_eq_true rfl) rfl) <| zf 5 rfl rfl <| zy (.Lp (us := [_, _, _, _, _]) rfl (Nat.le_of_ble_eq_true rfl) rfl) <| zfl rfl rfl rfl <| JT.both ?_ ?_
   refine yE rfl rfl (.of (.t3 .rf)) (lkWaits_fn _ _ _ (by assumption)) fun ⟨a19, c19⟩ _ => JT.yA rfl (Ev.Lw rfl rfl) <| JT.yA rfl (Ev.Lp (us := [_, _, _, _, _]) rfl (Nat.le_of_ble_eq_true rfl) rfl) <| JT.yA rfl (Ev.Lp (us := [_, _, _, _, _]) rfl (Nat.le_of_ble_eq_true rfl) rfl) <| zg rfl <| yN fun b5 => yW rfl rfl rfl rfl rfl <| zd <| zs <| zfl rfl rfl rfl <| yD rfl rfl (.of (.t2 .rf)) (lkHolder_fn _ _ _) <| zc rfl ?_
   refine zc rfl <| zf 13 rfl rfl <| yS (us := [_, _]) rfl rfl rfl rfl rfl (Nat.le_of_ble_eq_true rfl) (by simp only [lput]; rfl) <| zf 12 rfl rfl <| yS (us := [_]) rfl rfl rfl rfl rfl (Nat.le_of_ble_eq_true rfl) (by simp only [lput]; rfl) <| zw rfl rfl <| yW rfl rfl rfl rfl rfl <| zd <| zr <| yQ ⟨_, _⟩ (.w rfl rfl .nil) trivial rfl (.of (.t3 (RecP.fold (.there (.there (.there (.there .here)))) (.there (.there .here)) (.d (.d (.d .rf))))))
   refine yN fun b5 => yE rfl rfl (.of (.t4 .rf)) (lkWaits_fn _ _ _ (by assumption)) fun ⟨a19, c19⟩ _ => JT.yA rfl (Ev.Lw rfl rfl) <| JT.yA rfl (Ev.Lp (us := [_, _, _, _, _]) rfl (Nat.le_of_ble_eq_true rfl) rfl) <| JT.yA rfl (Ev.Lp (us := [_, _, _, _, _]) rfl (Nat.le_of_ble_eq_true rfl) rfl) <| zg rfl <| yW rfl rfl rfl rfl rfl <| zd <| zs <| zfl rfl rfl rfl <| yD rfl rfl (.of (.t2 .rf)) (lkHolder_fn _ _ _) <| zc rfl ?_
   refine zc rfl <| zf 13 rfl rfl <| yS (us := [_, _]) rfl rfl rfl rfl rfl (Nat.le_of_ble_eq_true rfl) (by simp only [lput]; rfl) <| zf 12 rfl rfl <| yS (us := [_]) rfl rfl rfl rfl rfl (Nat.le_of_ble_eq_true rfl) (by simp only [lput]; rfl) <| zw rfl rfl <| yW rfl rfl rfl rfl rfl <| zd <| zr <| yQ ⟨_, _⟩ (.w rfl rfl .nil) trivial rfl (.of (.t3 (RecP.fold (.there (.there (.there (.there .here)))) (.there (.there .here)) (.d (.d (.d .rf))))))

theorem lnGet_fn (b : Nat) (l : LK) (w : Vec) (F : List Assn) (hS : ∀ a, l.rec? w = some a → a.lk.w.length ≤ 8388608) : Meets Tryz.prog 26 [ptr b, vv w] (LinksP b l :: F)
    (Some' (fun _ : Option Addr × Nat => True) (fun x => .tuple #[rsv (l.getS w) x.1 x.2, .bool (l.getB w)]) (fun x => SlT false ownerC 2 (.slice x.1 (l.getS w).waits.length x.2) x.2 (l.getS w).waits :: LinksP b (l.touch w) :: F)) := by
  refine Meets.intro b26 k26 (by simp) ?_
  unfold LK.getS LK.getB
  cases h : l.rec? w with
  | none =>
    rw [(rec?_none h).2.2]
    refine J.nilS ownerC 2 false (by decide) ?_
    focus
     refine zs <| yB rfl fun b3 => yN fun b4 => zc rfl <| yD rfl rfl (.of (.t3 .rf)) (lnIs_P _ _ _) <| zc rfl <| zd <| zq <| zu rfl <| zk <| zs <| zw rfl rfl ?_
     refine yD rfl rfl (.of (.t0 .rf)) (lnIn_none _ _ _ _ (by assumption)) <| zc rfl <| zd <| zq <| zt rfl <| zs <| zg rfl <| yW rfl rfl rfl rfl rfl <| zc rfl <| zd <| zr <| yQ ⟨_, _⟩ (.w rfl rfl (.t rfl .nil)) trivial rfl (.of (.t3 (.t1 (.d (.d .rf)))))
    | some a =>
    have hS' := hS a h
    focus
     refine zs <| yB rfl fun b3 => yN fun b4 => zc rfl <| yD rfl rfl (.of (.t2 .rf)) (lnIs_P _ _ _) <| zc rfl <| zd <| zq <| zu rfl <| zk <| zs <| zw rfl rfl ?_
     refine yE rfl rfl (.of (.t0 .rf)) (lnIn_some _ _ _ _ _ (by first | assumption | omega | decide | exact rfl)) fun x6 _ => ?_
     refine zc rfl <| zd <| zq <| zu rfl <| zk <| zs <| zw rfl rfl <| yE rfl rfl (.of (.t0 .rf)) (recState_fn _ _ _ _ (by assumption)) fun ⟨a19, c19⟩ _ => yW rfl rfl rfl rfl rfl <| zc rfl <| zd <| zr ?_
    refine retQ_up (LinksH.up (.there (.there .here)) (.there (.there .here)) (touch_upd h)) ?_
    focus
     refine yQ ⟨_, _⟩ (.w rfl rfl (.t rfl .nil)) trivial rfl (.of (.t2 (.t0 (.d (.d .rf)))))
  
theorem lnEnd_H (b : Nat) (l : LK) (w : Vec) (p : Nat) (F : List Assn) : Meets Tryz.prog 86 [ptr b] (LinksH b l w p :: F) (Det (.bool (decide (l.isEnd))) (LinksH b l w p :: F)) := by
  refine Meets.intro b86 k86 (by simp) ?_
  refine J.openLinksH Has.here (fun T mb g i he hi hp => ?_)
  obtain ⟨a0, hg⟩ := hp
  have hp : (g[i]?).map (fun y => y.2.1) = some p := by rw [hg]; rfl
  by_cases h1 : l.me.key.rank = 1
  · focus
     refine zs <| zc rfl <| yD rfl rfl (.of .rf) lnHead_fn <| yFs rfl (by assumption) <| zy (.pickTp rfl (by assumption) rfl) <| zd <| zr <| yR (.t rfl .nil) ?_ (.of (LinksH.fold .here .here .here (by first | assumption | omega | rfl | decide) (by first | assumption | omega | rfl | decide) (by first | assumption | omega | rfl | decide) .rf))
    simp only [mkRet]; rw [decide_eq_true (show l.isEnd from .inl h1)]
  · focus
     refine zs <| zc rfl <| yD rfl rfl (.of .rf) lnHead_fn <| yF rfl (by assumption) <| yD rfl rfl (.of .rf) lnTail_fn <| zy (.pickFp rfl (by assumption) rfl) <| zd <| zr <| yR (.t rfl .nil) ?_ (.of (LinksH.fold .here .here .here (by first | assumption | omega | rfl | decide) (by first | assumption | omega | rfl | decide) (by first | assumption | omega | rfl | decide) .rf))
    simp only [mkRet]; congr 1; rw [Bool.eq_iff_iff]; simp [LK.isEnd, h1]
theorem lnToLeft_H (b : Nat) (l : LK) (w : Vec) (p : Nat) (a : Ref) (F : List Assn) : Meets Tryz.prog 135 [ptr b, rv a] (LinksH b l w p :: F) (Det (.bool (decide (l.toLeft a))) (LinksH b l w p :: F)) := by
  refine Meets.intro b135 k135 (by simp) ?_
  refine J.openLinksH Has.here (fun T mb g i he hi hp => ?_)
  obtain ⟨a0, hg⟩ := hp
  have hp : (g[i]?).map (fun y => y.2.1) = some p := by rw [hg]; rfl
  focus
   refine zs <| yB rfl fun b3 => zc rfl <| zfw [_, _] rfl rfl rfl rfl <| yD rfl rfl (.of .rf) (kCheck_fn _ _) <| zj rfl rfl rfl <| zp rfl (fun h1 => ?_) (fun h1 => ?_)
   refine zf 1 rfl rfl <| yT rfl (by assumption) <| zy (.Lf rfl (Nat.le_of_ble_eq_true rfl)) <| yT rfl (by assumption) <| zf 0 rfl rfl <| yT rfl (by assumption) <| zf 1 rfl rfl <| yT rfl (by assumption) <| zy (.Lp (us := [_, _]) rfl (Nat.le_of_ble_eq_true rfl) rfl) <| yT rfl (by assumption) <| yD rfl rfl (.of .rf) (kLess_fn _ _ _) <| zy (.pickTp rfl (by assumption) rfl) ?_
   refine zd <| zr <| yR (.t rfl .nil) ?_ (.of (LinksH.fold (.there .here) (.there .here) (.there .here) (by first | assumption | omega | rfl | decide) (by first | assumption | omega | rfl | decide) (by first | assumption | omega | rfl | decide) (.d .rf)))
   rotate_left
   refine yTs rfl (by assumption) <| yTs rfl (by assumption) <| yTs rfl (by assumption) <| yTs rfl (by assumption) <| yTs rfl (by assumption) <| zy (.pickFp rfl (by assumption) rfl) <| zd <| zr <| yR (.t rfl .nil) ?_ (.of (LinksH.fold (.there .here) (.there .here) (.there .here) (by first | assumption | omega | rfl | decide) (by first | assumption | omega | rfl | decide) (by first | assumption | omega | rfl | decide) (.d .rf)))
   rotate_left
  all_goals (simp only [mkRet]; congr 1; rw [Bool.eq_iff_iff]; simp [LK.toLeft, h1])
theorem lnToRight_H (b : Nat) (l : LK) (w : Vec) (p : Nat) (a : Ref) (F : List Assn) : Meets Tryz.prog 136 [ptr b, rv a] (LinksH b l w p :: F) (Det (.bool (decide (l.toRight a))) (LinksH b l w p :: F)) := by
  refine Meets.intro b136 k136 (by simp) ?_
  refine J.openLinksH Has.here (fun T mb g i he hi hp => ?_)
  obtain ⟨a0, hg⟩ := hp
  have hp : (g[i]?).map (fun y => y.2.1) = some p := by rw [hg]; rfl
  focus
   refine zs <| yB rfl fun b3 => zc rfl <| zfw [_, _] rfl rfl rfl rfl <| yD rfl rfl (.of .rf) (kCheck_fn _ _) <| zj rfl rfl rfl <| zp rfl (fun h1 => ?_) (fun h1 => ?_)
   refine zf 0 rfl rfl <| yT rfl (by assumption) <| zf 1 rfl rfl <| yT rfl (by assumption) <| zy (.Lp (us := [_, _]) rfl (Nat.le_of_ble_eq_true rfl) rfl) <| yT rfl (by assumption) <| zf 1 rfl rfl <| yT rfl (by assumption) <| zy (.Lf rfl (Nat.le_of_ble_eq_true rfl)) <| yT rfl (by assumption) <| yD rfl rfl (.of .rf) (kLess_fn _ _ _) <| zy (.pickTp rfl (by assumption) rfl) ?_
   refine zd <| zr <| yR (.t rfl .nil) ?_ (.of (LinksH.fold (.there .here) (.there .here) (.there .here) (by first | assumption | omega | rfl | decide) (by first | assumption | omega | rfl | decide) (by first | assumption | omega | rfl | decide) (.d .rf)))
   rotate_left
   refine yTs rfl (by assumption) <| yTs rfl (by assumption) <| yTs rfl (by assumption) <| yTs rfl (by assumption) <| yTs rfl (by assumption) <| zy (.pickFp rfl (by assumption) rfl) <| zd <| zr <| yR (.t rfl .nil) ?_ (.of (LinksH.fold (.there .here) (.there .here) (.there .here) (by first | assumption | omega | rfl | decide) (by first | assumption | omega | rfl | decide) (by first | assumption | omega | rfl | decide) (.d .rf)))
   rotate_left
  all_goals (simp only [mkRet]; congr 1; rw [Bool.eq_iff_iff]; simp [LK.toRight, h1])
theorem lnToLeft_P (b : Nat) (l : LK) (a : Ref) (F : List Assn) : Meets Tryz.prog 135 [ptr b, rv a] (LinksP b l :: F) (Det (.bool (decide (l.toLeft a))) (LinksP b l :: F)) := by
  refine Meets.intro b135 k135 (by simp) ?_
  refine J.openLinks Has.here (fun T mb g hg => ?_)
  focus
   refine zs <| yB rfl fun b3 => zc rfl <| zfw [_, _] rfl rfl rfl rfl <| yD rfl rfl (.of .rf) (kCheck_fn _ _) <| zj rfl rfl rfl <| zp rfl (fun h1 => ?_) (fun h1 => ?_)
   refine zf 1 rfl rfl <| yT rfl (by assumption) <| zy (.Lf rfl (Nat.le_of_ble_eq_true rfl)) <| yT rfl (by assumption) <| zf 0 rfl rfl <| yT rfl (by assumption) <| zf 1 rfl rfl <| yT rfl (by assumption) <| zy (.Lp (us := [_, _]) rfl (Nat.le_of_ble_eq_true rfl) rfl) <| yT rfl (by assumption) <| yD rfl rfl (.of .rf) (kLess_fn _ _ _) <| zy (.pickTp rfl (by assumption) rfl) ?_
   refine zd <| zr <| yR (.t rfl .nil) ?_ (.of (LinksP.fold (.there .here) (.there .here) (.there .here) (by first | assumption | omega | rfl | decide) (.d .rf)))
   rotate_left
   refine yTs rfl (by assumption) <| yTs rfl (by assumption) <| yTs rfl (by assumption) <| yTs rfl (by assumption) <| yTs rfl (by assumption) <| zy (.pickFp rfl (by assumption) rfl) <| zd <| zr <| yR (.t rfl .nil) ?_ (.of (LinksP.fold (.there .here) (.there .here) (.there .here) (by first | assumption | omega | rfl | decide) (.d .rf)))
   rotate_left
  all_goals (simp only [mkRet]; congr 1; rw [Bool.eq_iff_iff]; simp [LK.toLeft, h1])
theorem lnToRight_P (b : Nat) (l : LK) (a : Ref) (F : List Assn) : Meets Tryz.prog 136 [ptr b, rv a] (LinksP b l :: F) (Det (.bool (decide (l.toRight a))) (LinksP b l :: F)) := by
  refine Meets.intro b136 k136 (by simp) ?_
  refine J.openLinks Has.here (fun T mb g hg => ?_)
  focus
   refine zs <| yB rfl fun b3 => zc rfl <| zfw [_, _] rfl rfl rfl rfl <| yD rfl rfl (.of .rf) (kCheck_fn _ _) <| zj rfl rfl rfl <| zp rfl (fun h1 => ?_) (fun h1 => ?_)
   refine zf 0 rfl rfl <| yT rfl (by assumption) <| zf 1 rfl rfl <| yT rfl (by assumption) <| zy (.Lp (us := [_, _]) rfl (Nat.le_of_ble_eq_true rfl) rfl) <| yT rfl (by assumption) <| zf 1 rfl rfl <| yT rfl (by assumption) <| zy (.Lf rfl (Nat.le_of_ble_eq_true rfl)) <| yT rfl (by assumption) <| yD rfl rfl (.of .rf) (kLess_fn _ _ _) <| zy (.pickTp rfl (by assumption) rfl) ?_
   refine zd <| zr <| yR (.t rfl .nil) ?_ (.of (LinksP.fold (.there .here) (.there .here) (.there .here) (by first | assumption | omega | rfl | decide) (.d .rf)))
   rotate_left
   refine yTs rfl (by assumption) <| yTs rfl (by assumption) <| yTs rfl (by assumption) <| yTs rfl (by assumption) <| yTs rfl (by assumption) <| zy (.pickFp rfl (by assumption) rfl) <| zd <| zr <| yR (.t rfl .nil) ?_ (.of (LinksP.fold (.there .here) (.there .here) (.there .here) (by first | assumption | omega | rfl | decide) (.d .rf)))
   rotate_left
  all_goals (simp only [mkRet]; congr 1; rw [Bool.eq_iff_iff]; simp [LK.toRight, h1])
theorem lnNew_ok (me : Ref) (F : List Assn) (h1 : keyOk me.key) (h2 : vecOk me.vec) : Meets Tryz.prog 24 [rv me] F (Some' (fun _ : Nat => True) (fun b => .tuple #[ptr b, i64 0]) (fun b => LinksP b ⟨me, []⟩ :: F)) := by
  refine Meets.intro b24 k24 (by simp) ?_
  have hg : GM.er [] = (⟨me, []⟩ : LK).m := rfl
  refine J.imp RecsA.nil ?_
  focus
   refine zs <| yB rfl fun b1 => zc rfl <| zc rfl <| zfw [_, _] rfl rfl rfl rfl <| yD rfl rfl (.of .rf) (kCheck_fn _ _) <| zj rfl rfl rfl <| yF rfl (by assumption) <| zf 3 rfl rfl <| yF rfl (by assumption) <| zy (.Lf rfl (Nat.le_of_ble_eq_true rfl)) <| yF rfl (by assumption) ?_
   refine yD rfl rfl (.of .rf) (vRight_fn _ _) <| yF rfl (by assumption) <| zj rfl rfl rfl <| zy (.pickFp rfl (by assumption) rfl) <| zd <| zq <| zi rfl (fun h3 => ?_) (fun h3 => ?_)
   contradiction
   refine zk <| zs <| zw rfl rfl ?_
  refine JT.mkm vv (fun x : Nat × RecA => ptr x.1) (fun b15 => ?_)
  focus
   refine zg rfl <| yB rfl fun b2 => zc rfl <| zd <| zr <| yQ _ (.t rfl (.t rfl .nil)) trivial rfl (.of (LinksP.fold .here .here (.there .here) (by first | assumption | omega | rfl | decide) (.d .rf)))
theorem lnNew_no (me : Ref) (F : List Assn) (h : ¬ (keyOk me.key ∧ vecOk me.vec)) : Meets Tryz.prog 24 [rv me] F (Det (.tuple #[.pointer none, i64 80]) F) := by
  refine Meets.intro b24 k24 (by simp) ?_
  by_cases h1 : keyOk me.key
  · have h2 : ¬ vecOk me.vec := fun h2 => h ⟨h1, h2⟩
    focus
     refine zs <| yB rfl fun b1 => zc rfl <| zc rfl <| zfw [_, _] rfl rfl rfl rfl <| yD rfl rfl (.of .rf) (kCheck_fn _ _) <| zj rfl rfl rfl <| yF rfl (by assumption) <| zf 3 rfl rfl <| yF rfl (by assumption) <| zy (.Lf rfl (Nat.le_of_ble_eq_true rfl)) <| yF rfl (by assumption) ?_
     refine yD rfl rfl (.of .rf) (vRight_fn _ _) <| yF rfl (by assumption) <| zj rfl rfl rfl <| zy (.pickFp rfl (by assumption) rfl) <| zd <| zq <| zi rfl (fun h3 => ?_) (fun h3 => ?_)
     refine zs <| zc rfl <| zc rfl <| zd <| zr <| yR (.t rfl (.t rfl .nil)) rfl (.of (.d .rf))
     contradiction
  · focus
     refine zs <| yB rfl fun b1 => zc rfl <| zc rfl <| zfw [_, _] rfl rfl rfl rfl <| yD rfl rfl (.of .rf) (kCheck_fn _ _) <| zj rfl rfl rfl <| yFs rfl (by assumption) <| yFs rfl (by assumption) <| yFs rfl (by assumption) <| yFs rfl (by assumption) <| zy (.pickTp rfl (by assumption) rfl) ?_
     refine zd <| zq <| zt rfl <| zs <| zc rfl <| zc rfl <| zd <| zr <| yR (.t rfl (.t rfl .nil)) rfl (.of (.d .rf))

theorem lnOwned_none (b : Nat) (l : LK) (w : Vec) (o : Owner) (e : Bool) (F : List Assn) (h : l.ownE w o e ≠ 0) : Meets Tryz.prog 140 [ptr b, vv w, ov o, .bool e] (LinksP b l :: F) (Det (.tuple #[.pointer none, i64 (l.ownE w o e)]) (LinksP b (l.touch w) :: F)) := by
  refine Meets.intro b140 k140 (by simp) ?_
  cases hr : l.rec? w with
  | none =>
    rw [(rec?_none hr).2.2]
    focus
     refine zs <| yB rfl fun b5 => yB rfl fun b6 => zc rfl <| zc rfl <| yD rfl rfl (.of (.t2 .rf)) (lnIs_P _ _ _) <| zc rfl <| zd <| zq <| zu rfl <| zk <| zs ?_
     refine zw rfl rfl <| yD rfl rfl (.of (.t0 .rf)) (lnIn_none _ _ _ _ (by assumption)) <| zc rfl <| zd <| zq <| zt rfl <| zs <| zc rfl <| zc rfl <| zd <| zr <| yR (.t rfl (.t rfl .nil)) ?_ (.of (.t0 (.d (.d .rf))))
    simp only [mkRet]; unfold LK.ownE; rw [hr]
  | some a =>
    focus
     refine zs <| yB rfl fun b5 => yB rfl fun b6 => zc rfl <| zc rfl <| yD rfl rfl (.of (.t2 .rf)) (lnIs_P _ _ _) <| zc rfl <| zd <| zq <| zu rfl <| zk <| zs ?_
     refine zw rfl rfl <| yE rfl rfl (.of (.t0 .rf)) (lnIn_some _ _ _ _ _ (by first | assumption | omega | decide | exact rfl)) fun x10 _ => ?_
     refine zc rfl <| zd <| zq <| zu rfl <| zk <| zs <| zc rfl <| zp rfl (fun h1 => ?_) (fun h1 => ?_)
     refine yD rfl rfl (.of (.t1 .rf)) (lnEnd_H _ _ _ _ _) <| zy (.pickTp rfl (by assumption) rfl) <| zd <| zq <| zi rfl (fun h2 => ?_) (fun h2 => ?_)
     refine zs <| zc rfl <| zc rfl <| zd <| zr <| seqQ_r ?_
     rotate_left
     refine zk <| zs <| zw rfl rfl <| yD rfl rfl (.of .rf) (lkCheck_fn _ _) <| zj rfl rfl rfl <| zd <| zq <| zi rfl (fun h3 => ?_) (fun h3 => ?_)
     refine zs <| zc rfl <| zc rfl <| zd <| zr <| seqQ_r ?_
     rotate_left
     refine zk <| zs <| zf 10 rfl rfl ?_
     rotate_left
     refine zy (.pickFp rfl (by assumption) rfl) <| zd <| zq <| zu rfl <| zk <| zs <| zw rfl rfl <| yD rfl rfl (.of .rf) (lkCheck_fn _ _) <| zj rfl rfl rfl <| zd <| zq <| zi rfl (fun h2 => ?_) (fun h2 => ?_)
     refine zs <| zc rfl <| zc rfl <| zd <| zr <| seqQ_r ?_
     rotate_left
     refine zk <| zs <| zf 10 rfl rfl ?_
     rotate_left
    · refine retQ_up (LinksH.up (by (repeat (first | exact Has.here | assumption | apply Has.there))) (by (repeat (first | exact Has.here | assumption | apply Has.there))) (touch_upd hr)) ?_
      unfold LK.ownE; rw [hr]; simp only; (repeat (first | rw [if_pos (by (first | assumption | omega | grind))] | rw [if_neg (by (first | assumption | omega | grind))]))
      focus
       refine yR (.t rfl (.t rfl .nil)) rfl (.of (.t0 (.d (.d .rf))))
    · refine retQ_up (LinksH.up (by (repeat (first | exact Has.here | assumption | apply Has.there))) (by (repeat (first | exact Has.here | assumption | apply Has.there))) (touch_upd hr)) ?_
      have hc : ckE o = 70 := by rw [ckE, if_neg h3]
      unfold LK.ownE; rw [hr]; simp only [hc]; (repeat (first | rw [if_pos (by (first | assumption | omega | grind))] | rw [if_neg (by (first | assumption | omega | grind))]))
      focus
       refine yR (.t rfl (.t rfl .nil)) rfl (.of (.t0 (.d (.d .rf))))
    · refine JT.openRec (p := x10) (a := a) (by (repeat (first | exact Has.here | assumption | apply Has.there))) (fun T lb => ?_)
      focus
       refine zl rfl rfl <| yD rfl rfl (.of (.t1 .rf)) (lkHolder_fn _ _ _) <| zc rfl <| zc rfl <| yN fun b12 => yW rfl rfl rfl rfl rfl <| zc rfl <| zh rfl rfl (fun h4 => .Lw rfl rfl) <| zh rfl rfl (fun h4 => .Lw rfl rfl) <| zh rfl rfl (fun h4 => by rw [h4]; exact .neT rfl rfl) <| zy (.pickO rfl rfl rfl) <| zd ?_
       refine zq <| zi rfl (fun h4 => ?_) (fun h4 => ?_)
       refine zs <| zc rfl <| zc rfl <| zd <| zr <| seqQ_r ?_
       rotate_left
       refine zk <| zs <| zc rfl <| zc rfl <| zd <| zr ?_
       rotate_left
      · refine retQ_up (Up.of (RecP.fold (p := x10) (a := a) (by (repeat (first | exact Has.here | assumption | apply Has.there))) (by (repeat (first | exact Has.here | assumption | apply Has.there))) (Imp.refl _))) ?_
        refine retQ_up (LinksH.up (by (repeat (first | exact Has.here | assumption | apply Has.there))) (by (repeat (first | exact Has.here | assumption | apply Has.there))) (touch_upd hr)) ?_
        have hc : ckE o = 0 := by rw [ckE, if_pos h3]
        unfold LK.ownE; rw [hr]; simp only [hc]; (repeat (first | rw [if_pos (by (first | assumption | omega | grind))] | rw [if_neg (by (first | assumption | omega | grind))]))
        focus
         refine yR (.t rfl (.t rfl .nil)) rfl (.of (.t0 (.d (.d (.d .rf)))))
      · exfalso; apply h; unfold LK.ownE ckE; rw [hr]; simp_all
    · refine retQ_up (LinksH.up (by (repeat (first | exact Has.here | assumption | apply Has.there))) (by (repeat (first | exact Has.here | assumption | apply Has.there))) (touch_upd hr)) ?_
      have hc : ckE o = 70 := by rw [ckE, if_neg h2]
      unfold LK.ownE; rw [hr]; simp only [hc]; (repeat (first | rw [if_pos (by (first | assumption | omega | grind))] | rw [if_neg (by (first | assumption | omega | grind))]))
      focus
       refine yR (.t rfl (.t rfl .nil)) rfl (.of (.t0 (.d (.d .rf))))
    · refine JT.openRec (p := x10) (a := a) (by (repeat (first | exact Has.here | assumption | apply Has.there))) (fun T lb => ?_)
      focus
       refine zl rfl rfl <| yD rfl rfl (.of (.t1 .rf)) (lkHolder_fn _ _ _) <| zc rfl <| zc rfl <| yN fun b12 => yW rfl rfl rfl rfl rfl <| zc rfl <| zh rfl rfl (fun h3 => .Lw rfl rfl) <| zh rfl rfl (fun h3 => .Lw rfl rfl) <| zh rfl rfl (fun h3 => by rw [h3]; exact .neT rfl rfl) <| zy (.pickO rfl rfl rfl) <| zd ?_
       refine zq <| zi rfl (fun h3 => ?_) (fun h3 => ?_)
       refine zs <| zc rfl <| zc rfl <| zd <| zr <| seqQ_r ?_
       rotate_left
       refine zk <| zs <| zc rfl <| zc rfl <| zd <| zr ?_
       rotate_left
      · refine retQ_up (Up.of (RecP.fold (p := x10) (a := a) (by (repeat (first | exact Has.here | assumption | apply Has.there))) (by (repeat (first | exact Has.here | assumption | apply Has.there))) (Imp.refl _))) ?_
        refine retQ_up (LinksH.up (by (repeat (first | exact Has.here | assumption | apply Has.there))) (by (repeat (first | exact Has.here | assumption | apply Has.there))) (touch_upd hr)) ?_
        have hc : ckE o = 0 := by rw [ckE, if_pos h2]
        unfold LK.ownE; rw [hr]; simp only [hc]; (repeat (first | rw [if_pos (by (first | assumption | omega | grind))] | rw [if_neg (by (first | assumption | omega | grind))]))
        focus
         refine yR (.t rfl (.t rfl .nil)) rfl (.of (.t0 (.d (.d (.d .rf)))))
      · exfalso; apply h; unfold LK.ownE ckE; rw [hr]; simp_all
theorem lnOwned_some (b : Nat) (l : LK) (w : Vec) (o : Owner) (e : Bool) (F : List Assn) (a : RecA) (ha : l.rec? w = some a) (h : l.ownE w o e = 0) : Meets Tryz.prog 140 [ptr b, vv w, ov o, .bool e] (LinksP b l :: F)
    (Some' (fun _ : Nat => True) (fun p => .tuple #[ptr p, i64 0]) (fun p => RecP p a :: LinksH b (l.touch w) w p :: F)) := by
  refine Meets.intro b140 k140 (by simp) ?_
  have h' := ownE_zero ha h
  obtain ⟨g1, g2, g3, g4⟩ := h'
  focus
   refine zs <| yB rfl fun b5 => yB rfl fun b6 => zc rfl <| zc rfl <| yD rfl rfl (.of (.t2 .rf)) (lnIs_P _ _ _) <| zc rfl <| zd <| zq <| zu rfl <| zk <| zs ?_
   refine zw rfl rfl <| yE rfl rfl (.of (.t0 .rf)) (lnIn_some _ _ _ _ _ (by first | assumption | omega | decide | exact rfl)) fun x10 _ => ?_
   refine zc rfl <| zd <| zq <| zu rfl <| zk <| zs <| zc rfl <| zp rfl (fun h1 => ?_) (fun h1 => ?_)
   refine yD rfl rfl (.of (.t1 .rf)) (lnEnd_H _ _ _ _ _) <| zy (.pickTp rfl (by assumption) rfl) <| zd <| zq <| zi rfl (fun h2 => ?_) (fun h2 => ?_)
   refine zs <| zc rfl <| zc rfl <| zd <| zr <| seqQ_r ?_
   rotate_left
   refine zk <| zs <| zw rfl rfl <| yD rfl rfl (.of .rf) (lkCheck_fn _ _) <| zj rfl rfl rfl <| zd <| zq <| zi rfl (fun h3 => ?_) (fun h3 => ?_)
   contradiction
   refine zk <| zs <| zf 10 rfl rfl ?_
   rotate_left
   refine zy (.pickFp rfl (by assumption) rfl) <| zd <| zq <| zu rfl <| zk <| zs <| zw rfl rfl <| yD rfl rfl (.of .rf) (lkCheck_fn _ _) <| zj rfl rfl rfl <| zd <| zq <| zi rfl (fun h2 => ?_) (fun h2 => ?_)
   contradiction
   refine zk <| zs <| zf 10 rfl rfl ?_
   rotate_left
  · exact absurd ⟨h1, h2⟩ g1
  · refine JT.openRec (p := x10) (a := a) (by (repeat (first | exact Has.here | assumption | apply Has.there))) (fun T lb => ?_)
    focus
     refine zl rfl rfl <| yD rfl rfl (.of (.t1 .rf)) (lkHolder_fn _ _ _) <| zc rfl <| zc rfl <| yN fun b12 => yW rfl rfl rfl rfl rfl <| zc rfl <| yF rfl (by assumption) <| zw rfl rfl <| yF rfl (by assumption) <| zw rfl rfl <| yF rfl (by assumption) ?_
     refine zy (.neTf rfl rfl (by assumption)) <| zy (.pickFp rfl (by assumption) rfl) <| zd <| zq <| zu rfl <| zk <| zs <| zc rfl <| zc rfl <| zd <| zr <| yQ _ (.t rfl (.t rfl .nil)) trivial rfl (.of (RecP.fold (.there (.there .here)) (.there .here) (.t1 (.d (.d (.d .rf))))))
    all_goals first | (exfalso; simp_all; done) | trace_state
  · refine JT.openRec (p := x10) (a := a) (by (repeat (first | exact Has.here | assumption | apply Has.there))) (fun T lb => ?_)
    focus
     refine zl rfl rfl <| yD rfl rfl (.of (.t1 .rf)) (lkHolder_fn _ _ _) <| zc rfl <| zc rfl <| yN fun b12 => yW rfl rfl rfl rfl rfl <| zc rfl <| yF rfl (by assumption) <| zw rfl rfl <| yF rfl (by assumption) <| zw rfl rfl <| yF rfl (by assumption) ?_
     refine zy (.neTf rfl rfl (by assumption)) <| zy (.pickFp rfl (by assumption) rfl) <| zd <| zq <| zu rfl <| zk <| zs <| zc rfl <| zc rfl <| zd <| zr <| yQ _ (.t rfl (.t rfl .nil)) trivial rfl (.of (RecP.fold (.there (.there .here)) (.there .here) (.t1 (.d (.d (.d .rf))))))
    all_goals first | (exfalso; simp_all; done) | trace_state
end Go.Proofs.YtnipmjpdklbbcaaGreat
