/- Layer 11: the reference's Members, Row, Beside: the functions. Conditions: none. -/
import Derived.Test.YtgcmglieciaifaaGg
set_option linter.unusedSimpArgs false
set_option linter.unusedVariables false
set_option maxRecDepth 100000
set_option maxHeartbeats 4000000
namespace Go.Proofs.Ytgcmglieciaifaa
open Go Go.SL
attribute [local irreducible] pc rc SlT Me Mt It pt ro pur ex sep old Meets
theorem r11members_ok (h : Int) {a1 : Option Addr} {c1 : Nat} {xs : List SL.Ref} (w : Vec) {F : List Assn} [Hs : HS F (.slice a1 xs.length c1) SL.Ref refC 5 c1 xs] (hg : grOk h xs) (hb : ∀ r ∈ xs, 0 ≤ r.vec.bits) (hw : 0 ≤ w.bits) : Meets Try.prog 49 [vv w, .slice a1 xs.length c1] F
    (Some' (fun _ : Option Addr × Nat => True) (fun x => .slice x.1 (gmem xs w).length x.2) (fun x => SlT true refC 5 (.slice x.1 (gmem xs w).length x.2) x.2 (gmem xs w) :: F)) := by
  have := r11members_fn (a1 := a1) (c1 := c1) (xs := xs) w (F := F) (by have := hg.len; omega) hb hw
  rw [gsort_filter hg.keys] at this
  exact this
theorem r11Row_fn (h : Int) {a1 : Option Addr} {c1 : Nat} {xs : List SL.Ref} (w : Vec) {F : List Assn} [Hs : HS F (.slice a1 xs.length c1) SL.Ref refC 5 c1 xs] (hg : grOk h xs) (hb : ∀ r ∈ xs, 0 ≤ r.vec.bits) (hw : 0 ≤ w.bits) : Meets Try.prog 27 [i64 h, vv w, .slice a1 xs.length c1] F
    (Some' (fun _ : Option Addr × Nat => True) (fun x => .slice x.1 (grow h xs w).length x.2) (fun x => SlT true refC 5 (.slice x.1 (grow h xs w).length x.2) x.2 (grow h xs w) :: F)) := by
  refine Meets.intro b27 k27 (by simp) ?_
  have hm : ∀ {F : List Assn} [HS F (.slice a1 xs.length c1) SL.Ref refC 5 c1 xs], Meets Try.prog 49 [vv w, .slice a1 xs.length c1] F _ := fun {F} _ => r11members_ok h w (F := F) hg hb hw
  have e1 := fun F => r9Head_fn h F
  have e2 := fun F => r9Tail_fn h F
  simp only [if_pos (show hOk h from ⟨hg.h0, hg.h32⟩)] at e1 e2
  have hle := gmem_le hg w
  unfold grow
  generalize gmem xs w = M at *
  have hl2 : ([endR false h] ++ M).length ≤ 1023 := by simp; omega
  focus
   refine zs <| yB rfl fun b4 => zc rfl <| yD rfl rfl (.of .rf) (e1 _) <| zc rfl <| zc rfl <| yN fun b7 => yW rfl rfl rfl rfl rfl <| yD rfl rfl (.of .rf) (e2 _) <| zc rfl <| zc rfl <| yN fun b9 => ?_
   refine yW rfl rfl rfl rfl rfl <| zw rfl rfl <| zw rfl rfl <| zw rfl rfl <| JT.both ?_ ?_
   refine JT.bsl1 (by repeat (first | exact Cells.nil | apply Cells.z | (apply Cells.cl; rfl; rfl; rfl))) (by simp only [List.length_cons, List.length_nil, Nat.reduceAdd]; rfl) (by decide) (by rfl) fun a22 => ?_
   refine JT.both ?_ ?_
   refine yE rfl rfl (.of .rf) hm fun ⟨a25, c25⟩ _ => JT.yA rfl (Ev.Lw rfl rfl) <| JT.yA rfl (Ev.Lw rfl rfl) <| JT.both ?_ ?_
   rotate_left
   refine JT.bsl1 (by repeat (first | exact Cells.nil | apply Cells.z | (apply Cells.cl; rfl; rfl; rfl))) (by simp only [List.length_cons, List.length_nil, Nat.reduceAdd]; rfl) (by decide) (by rfl) fun a28 => ?_
   rotate_left
   refine JT.bsl1 (by repeat (first | exact Cells.nil | apply Cells.z | (apply Cells.cl; rfl; rfl; rfl))) (by simp only [List.length_cons, List.length_nil, Nat.reduceAdd]; rfl) (by decide) (by rfl) fun a28 => ?_
   refine yE rfl rfl (.of .rf) hm fun ⟨a25, c25⟩ _ => JT.yA rfl (Ev.Lw rfl rfl) <| JT.yA rfl (Ev.Lw rfl rfl) ?_
   rotate_left
   refine JT.both ?_ ?_
   refine yE rfl rfl (.of .rf) hm fun ⟨a25, c25⟩ _ => JT.yA rfl (Ev.Lw rfl rfl) <| JT.yA rfl (Ev.Lw rfl rfl) <| JT.both ?_ ?_
   refine JT.bsl1 (by repeat (first | exact Cells.nil | apply Cells.z | (apply Cells.cl; rfl; rfl; rfl))) (by simp only [List.length_cons, List.length_nil, Nat.reduceAdd]; rfl) (by decide) (by rfl) fun a22 => ?_
   refine JT.both ?_ ?_
   rotate_left
   refine JT.bsl1 (by repeat (first | exact Cells.nil | apply Cells.z | (apply Cells.cl; rfl; rfl; rfl))) (by simp only [List.length_cons, List.length_nil, Nat.reduceAdd]; rfl) (by decide) (by rfl) fun a28 => ?_
   rotate_left
   refine JT.bsl1 (by repeat (first | exact Cells.nil | apply Cells.z | (apply Cells.cl; rfl; rfl; rfl))) (by simp only [List.length_cons, List.length_nil, Nat.reduceAdd]; rfl) (by decide) (by rfl) fun a28 => ?_
   refine JT.bsl1 (by repeat (first | exact Cells.nil | apply Cells.z | (apply Cells.cl; rfl; rfl; rfl))) (by simp only [List.length_cons, List.length_nil, Nat.reduceAdd]; rfl) (by decide) (by rfl) fun a22 => ?_
   rotate_left
   refine JT.bsl1 (by repeat (first | exact Cells.nil | apply Cells.z | (apply Cells.cl; rfl; rfl; rfl))) (by simp only [List.length_cons, List.length_nil, Nat.reduceAdd]; rfl) (by decide) (by rfl) fun a28 => ?_
   refine JT.both ?_ ?_
   refine JT.bsl1 (by repeat (first | exact Cells.nil | apply Cells.z | (apply Cells.cl; rfl; rfl; rfl))) (by simp only [List.length_cons, List.length_nil, Nat.reduceAdd]; rfl) (by decide) (by rfl) fun a22 => ?_
   refine yE rfl rfl (.of .rf) hm fun ⟨a25, c25⟩ _ => JT.yA rfl (Ev.Lw rfl rfl) <| JT.yA rfl (Ev.Lw rfl rfl) ?_
   rotate_left
   refine yE rfl rfl (.of .rf) hm fun ⟨a25, c25⟩ _ => JT.yA rfl (Ev.Lw rfl rfl) <| JT.yA rfl (Ev.Lw rfl rfl) <| JT.bsl1 (by repeat (first | exact Cells.nil | apply Cells.z | (apply Cells.cl; rfl; rfl; rfl))) (by simp only [List.length_cons, List.length_nil, Nat.reduceAdd]; rfl) (by decide) (by rfl) fun a22 => ?_
   rotate_left
  all_goals refine JT.imp (Imp.trans (Imp.take (c := SlT true (fun e : List Value => e) 5 (.slice a22 1 1) 1 [refC (endR false h)]) (by (repeat (first | exact Has.here | assumption | apply Has.there))) (Imp.refl _)) (SlT.ty (enc := refC) [endR false h] rfl)) ?_
  focus
   (refine JT.A3 rfl rfl rfl (by decide) (by simp; omega) (fun a26 c26 hc26 => ?_))
   refine JT.yA rfl (Ev.Lw rfl rfl) <| JT.bsl1 (by repeat (first | exact Cells.nil | apply Cells.z | (apply Cells.cl; rfl; rfl; rfl))) (by simp only [List.length_cons, List.length_nil, Nat.reduceAdd]; rfl) (by decide) (by rfl) fun a28 => ?_
   (refine JT.A1 rfl rfl (by rfl) rfl (by decide) (by omega) (fun a29 c29 hc29 => ?_))
   refine zc rfl <| zd <| zr <| yQ ⟨_, _⟩ (.t rfl .nil) trivial rfl (.of (.t0 (.d (.d (.d (.d (.d .rf)))))))
  focus
   (refine JT.A3 rfl rfl rfl (by decide) (by simp; omega) (fun a26 c26 hc26 => ?_))
   refine JT.yA rfl (Ev.Lw rfl rfl) ?_
   (refine JT.A1 rfl rfl (by rfl) rfl (by decide) (by omega) (fun a29 c29 hc29 => ?_))
   refine zc rfl <| zd <| zr <| yQ ⟨_, _⟩ (.t rfl .nil) trivial rfl (.of (.t0 (.d (.d (.d (.d (.d .rf)))))))
  focus
   (refine JT.A3 rfl rfl rfl (by decide) (by simp; omega) (fun a26 c26 hc26 => ?_))
   refine JT.yA rfl (Ev.Lw rfl rfl) ?_
   (refine JT.A1 rfl rfl (by rfl) rfl (by decide) (by omega) (fun a29 c29 hc29 => ?_))
   refine zc rfl <| zd <| zr <| yQ ⟨_, _⟩ (.t rfl .nil) trivial rfl (.of (.t0 (.d (.d (.d (.d (.d .rf)))))))
  focus
   (refine JT.A3 rfl rfl rfl (by decide) (by simp; omega) (fun a26 c26 hc26 => ?_))
   refine JT.yA rfl (Ev.Lw rfl rfl) <| JT.bsl1 (by repeat (first | exact Cells.nil | apply Cells.z | (apply Cells.cl; rfl; rfl; rfl))) (by simp only [List.length_cons, List.length_nil, Nat.reduceAdd]; rfl) (by decide) (by rfl) fun a28 => ?_
   (refine JT.A1 rfl rfl (by rfl) rfl (by decide) (by omega) (fun a29 c29 hc29 => ?_))
   refine zc rfl <| zd <| zr <| yQ ⟨_, _⟩ (.t rfl .nil) trivial rfl (.of (.t0 (.d (.d (.d (.d (.d .rf)))))))
  focus
   (refine JT.A3 rfl rfl rfl (by decide) (by simp; omega) (fun a26 c26 hc26 => ?_))
   refine JT.yA rfl (Ev.Lw rfl rfl) ?_
   (refine JT.A1 rfl rfl (by rfl) rfl (by decide) (by omega) (fun a29 c29 hc29 => ?_))
   refine zc rfl <| zd <| zr <| yQ ⟨_, _⟩ (.t rfl .nil) trivial rfl (.of (.t0 (.d (.d (.d (.d (.d .rf)))))))
  focus
   (refine JT.A3 rfl rfl rfl (by decide) (by simp; omega) (fun a26 c26 hc26 => ?_))
   refine JT.yA rfl (Ev.Lw rfl rfl) ?_
   (refine JT.A1 rfl rfl (by rfl) rfl (by decide) (by omega) (fun a29 c29 hc29 => ?_))
   refine zc rfl <| zd <| zr <| yQ ⟨_, _⟩ (.t rfl .nil) trivial rfl (.of (.t0 (.d (.d (.d (.d (.d .rf)))))))
  focus
   (refine JT.A3 rfl rfl rfl (by decide) (by simp; omega) (fun a26 c26 hc26 => ?_))
   refine JT.yA rfl (Ev.Lw rfl rfl) ?_
   (refine JT.A1 rfl rfl (by rfl) rfl (by decide) (by omega) (fun a29 c29 hc29 => ?_))
   refine zc rfl <| zd <| zr <| yQ ⟨_, _⟩ (.t rfl .nil) trivial rfl (.of (.t0 (.d (.d (.d (.d (.d .rf)))))))
  focus
   (refine JT.A3 rfl rfl rfl (by decide) (by simp; omega) (fun a26 c26 hc26 => ?_))
   refine JT.yA rfl (Ev.Lw rfl rfl) ?_
   (refine JT.A1 rfl rfl (by rfl) rfl (by decide) (by omega) (fun a29 c29 hc29 => ?_))
   refine zc rfl <| zd <| zr <| yQ ⟨_, _⟩ (.t rfl .nil) trivial rfl (.of (.t0 (.d (.d (.d (.d (.d .rf)))))))
theorem r11Members_no (h : Int) {a1 : Option Addr} {c1 : Nat} {xs : List SL.Ref} (w : Vec) {F : List Assn} [Hs : HS F (.slice a1 xs.length c1) SL.Ref refC 5 c1 xs] (hg : ¬ grOk h xs) : Meets Try.prog 22 [i64 h, vv w, .slice a1 xs.length c1] F (Det (.tuple #[.slice none 0 0, i64 110]) F) := by
  refine Meets.intro b22 k22 (by simp) ?_
  have hc : ∀ {F : List Assn} [HS F (.slice a1 xs.length c1) SL.Ref refC 5 c1 xs], Meets Try.prog 15 [i64 h, .slice a1 xs.length c1] F (Det (i64 110) F) := by
    intro F _
    have := r11Check_fn h (a1 := a1) (c1 := c1) (xs := xs) (F := F)
    unfold gE at this; rw [if_neg hg] at this; exact this
  focus
   refine zs <| yB rfl fun b4 => zc rfl <| zc rfl <| yD rfl rfl (.of .rf) hc <| zy (.cneT rfl rfl (by decide)) <| zd <| zq <| zt rfl <| zs <| zc rfl <| zc rfl ?_
   refine zd <| zr <| yR (.t rfl (.t rfl .nil)) rfl (.of (.d .rf))
theorem r11Members_vec (h : Int) {a1 : Option Addr} {c1 : Nat} {xs : List SL.Ref} (w : Vec) {F : List Assn} [Hs : HS F (.slice a1 xs.length c1) SL.Ref refC 5 c1 xs] (hg : grOk h xs) (hm : ¬ gmay h w) : Meets Try.prog 22 [i64 h, vv w, .slice a1 xs.length c1] F (Det (.tuple #[.slice none 0 0, i64 10]) F) := by
  refine Meets.intro b22 k22 (by simp) ?_
  have hc : ∀ {F : List Assn} [HS F (.slice a1 xs.length c1) SL.Ref refC 5 c1 xs], Meets Try.prog 15 [i64 h, .slice a1 xs.length c1] F (Det (i64 0) F) := by
    intro F _
    have := r11Check_fn h (a1 := a1) (c1 := c1) (xs := xs) (F := F)
    unfold gE at this; rw [if_pos hg] at this; exact this
  unfold gmay at hm
  by_cases hv : vecOk w
  · have hl : ¬ w.len ≤ h := fun e => hm ⟨hv, e⟩
    focus
     refine zs <| yB rfl fun b4 => zc rfl <| zc rfl <| yD rfl rfl (.of .rf) hc <| zy (.cneF rfl rfl (by decide)) <| zd <| zq <| zu rfl <| zk <| zs <| zw rfl rfl ?_
     refine yD rfl rfl (.of .rf) (r1Right_fn _ _) <| zc rfl <| yF rfl (by assumption) <| zf 0 rfl rfl <| yF rfl (by assumption) <| zl rfl rfl <| yF rfl (by assumption) <| zy (.cgtT rfl rfl (by omega)) <| zy (.pickFp rfl (by assumption) rfl) <| zd <| zq <| zt rfl ?_
     refine zs <| zc rfl <| zc rfl <| zd <| zr <| yR (.t rfl (.t rfl .nil)) rfl (.of (.d .rf))
  · focus
     refine zs <| yB rfl fun b4 => zc rfl <| zc rfl <| yD rfl rfl (.of .rf) hc <| zy (.cneF rfl rfl (by decide)) <| zd <| zq <| zu rfl <| zk <| zs <| zw rfl rfl ?_
     refine yD rfl rfl (.of .rf) (r1Right_fn _ _) <| zc rfl <| yFs rfl (by assumption) <| yFs rfl (by assumption) <| yFs rfl (by assumption) <| zy (.pickTp rfl (by assumption) rfl) <| zd <| zq <| zt rfl <| zs <| zc rfl <| zc rfl ?_
     refine zd <| zr <| yR (.t rfl (.t rfl .nil)) rfl (.of (.d .rf))
theorem r11Members_ok (h : Int) {a1 : Option Addr} {c1 : Nat} {xs : List SL.Ref} (w : Vec) {F : List Assn} [Hs : HS F (.slice a1 xs.length c1) SL.Ref refC 5 c1 xs] (hg : grOk h xs) (hb : ∀ r ∈ xs, 0 ≤ r.vec.bits) (hw : 0 ≤ w.bits) (hm : gmay h w) : Meets Try.prog 22 [i64 h, vv w, .slice a1 xs.length c1] F
    (Some' (fun _ : Option Addr × Nat => True) (fun x => .tuple #[.slice x.1 (gmem xs w).length x.2, i64 0]) (fun x => SlT true refC 5 (.slice x.1 (gmem xs w).length x.2) x.2 (gmem xs w) :: F)) := by
  refine Meets.intro b22 k22 (by simp) ?_
  have hc : ∀ {F : List Assn} [HS F (.slice a1 xs.length c1) SL.Ref refC 5 c1 xs], Meets Try.prog 15 [i64 h, .slice a1 xs.length c1] F (Det (i64 0) F) := by
    intro F _
    have := r11Check_fn h (a1 := a1) (c1 := c1) (xs := xs) (F := F)
    unfold gE at this; rw [if_pos hg] at this; exact this
  have hM : ∀ {F : List Assn} [HS F (.slice a1 xs.length c1) SL.Ref refC 5 c1 xs], Meets Try.prog 49 [vv w, .slice a1 xs.length c1] F _ := fun {F} _ => r11members_ok h w (F := F) hg hb hw
  obtain ⟨hv, hl⟩ := hm
  focus
   refine zs <| yB rfl fun b4 => zc rfl <| zc rfl <| yD rfl rfl (.of .rf) hc <| zy (.cneF rfl rfl (by decide)) <| zd <| zq <| zu rfl <| zk <| zs <| zw rfl rfl ?_
   refine yD rfl rfl (.of .rf) (r1Right_fn _ _) <| zc rfl <| yF rfl (by assumption) <| zf 0 rfl rfl <| yF rfl (by assumption) <| zl rfl rfl <| yF rfl (by assumption) <| zy (.cgtF rfl rfl (by omega)) <| zy (.pickFp rfl (by assumption) rfl) <| zd <| zq <| zu rfl ?_
   refine zk <| zs <| zw rfl rfl <| yE rfl rfl (.of .rf) hM fun ⟨a6, c6⟩ _ => zc rfl <| zd <| zr <| yQ ⟨_, _⟩ (.t rfl (.t rfl .nil)) trivial rfl (.of (.t0 (.d .rf)))
theorem r11Beside_fn (h : Int) {a1 : Option Addr} {c1 : Nat} {xs : List SL.Ref} (w : Vec) (id : Int) {F : List Assn} [Hs : HS F (.slice a1 xs.length c1) SL.Ref refC 5 c1 xs] (hb : ∀ r ∈ xs, 0 ≤ r.vec.bits) (hw : 0 ≤ w.bits) : Meets Try.prog 21 [i64 h, vv w, i64 id, .slice a1 xs.length c1] F
    (Det (.tuple #[rv (gbesE h xs w id).1, rv (gbesE h xs w id).2.1, i64 (gbesE h xs w id).2.2]) F) := by
  refine Meets.intro b21 k21 (by simp) ?_
  have hc : ∀ {F : List Assn} [HS F (.slice a1 xs.length c1) SL.Ref refC 5 c1 xs], Meets Try.prog 15 [i64 h, .slice a1 xs.length c1] F (Det (i64 (gE h xs)) F) := fun {F} _ => r11Check_fn h (F := F)
  unfold gE at hc
  unfold gbesE
  by_cases hg : grOk h xs
  · simp only [if_pos hg] at hc ⊢
    by_cases hm : gmay h w
    · simp only [if_pos hm]
      have hr : ∀ {F : List Assn} [HS F (.slice a1 xs.length c1) SL.Ref refC 5 c1 xs], Meets Try.prog 27 [i64 h, vv w, .slice a1 xs.length c1] F _ := fun {F} _ => r11Row_fn h w (F := F) hg hb hw
      have hno := fun e => gbes_no (l := grow h xs w) (id := id) e
      have hbs := fun {a : Option Addr} {c : Nat} {F : List Assn} [HS F (.slice a (grow h xs w).length c) SL.Ref refC 5 c (grow h xs w)] => r11beside_fn (a1 := a) (c1 := c) (L := grow h xs w) (F := F) id
      generalize gbes (grow h xs w) id = R at *
      generalize grow h xs w = L at *
      obtain ⟨A, B, ok⟩ := R
      dsimp only at hbs hno ⊢
      obtain ⟨hv, hl⟩ := hm
      cases ok
      · obtain ⟨rfl, rfl⟩ := hno rfl
        focus
         refine zs <| yB rfl fun b5 => yN fun b8 => yN fun b9 => zc rfl <| yD rfl rfl (.of .rf) hc <| zy (.cneF rfl rfl (by decide)) <| zd <| zq <| zu rfl <| zk <| zs ?_
         refine zw rfl rfl <| yD rfl rfl (.of .rf) (r1Right_fn _ _) <| zc rfl <| yF rfl (by assumption) <| zf 0 rfl rfl <| yF rfl (by assumption) <| zl rfl rfl <| yF rfl (by assumption) <| zy (.cgtF rfl rfl (by omega)) <| zy (.pickFp rfl (by assumption) rfl) <| zd <| zq ?_
         refine zu rfl <| zk <| zs <| zw rfl rfl <| yE rfl rfl (.of .rf) hr fun ⟨a35, c35⟩ _ => yD rfl rfl (.of .rf) hbs <| zc rfl <| zc rfl <| zc rfl <| yN fun b11 => yN fun b12 => yW rfl rfl rfl rfl rfl ?_
         refine yW rfl rfl rfl rfl rfl <| zc rfl <| zd <| zq <| zt rfl <| zs <| zw rfl rfl <| zw rfl rfl <| yW rfl rfl rfl rfl rfl <| JT.yA rfl (Ev.Lw rfl rfl) <| yW rfl rfl rfl rfl rfl <| zc rfl ?_
         refine zd <| zr <| yR (.w rfl rfl (.w rfl rfl (.t rfl .nil))) rfl (.of (.d (.d (.d (.d (.d (.d .rf)))))))
      · focus
         refine zs <| yB rfl fun b5 => yN fun b8 => yN fun b9 => zc rfl <| yD rfl rfl (.of .rf) hc <| zy (.cneF rfl rfl (by decide)) <| zd <| zq <| zu rfl <| zk <| zs ?_
         refine zw rfl rfl <| yD rfl rfl (.of .rf) (r1Right_fn _ _) <| zc rfl <| yF rfl (by assumption) <| zf 0 rfl rfl <| yF rfl (by assumption) <| zl rfl rfl <| yF rfl (by assumption) <| zy (.cgtF rfl rfl (by omega)) <| zy (.pickFp rfl (by assumption) rfl) <| zd <| zq ?_
         refine zu rfl <| zk <| zs <| zw rfl rfl <| yE rfl rfl (.of .rf) hr fun ⟨a35, c35⟩ _ => yD rfl rfl (.of .rf) hbs <| zc rfl <| zc rfl <| zc rfl <| yN fun b11 => yN fun b12 => yW rfl rfl rfl rfl rfl ?_
         refine yW rfl rfl rfl rfl rfl <| zc rfl <| zd <| zq <| zu rfl <| zk <| zs <| zw rfl rfl <| zw rfl rfl <| yW rfl rfl rfl rfl rfl <| JT.yA rfl (Ev.Lw rfl rfl) <| yW rfl rfl rfl rfl rfl ?_
         refine zc rfl <| zd <| zr <| yR (.w rfl rfl (.w rfl rfl (.t rfl .nil))) rfl (.of (.d (.d (.d (.d (.d (.d .rf)))))))
    · simp only [if_neg hm]
      unfold gmay at hm
      by_cases hv : vecOk w
      · have hl : ¬ w.len ≤ h := fun e => hm ⟨hv, e⟩
        focus
         refine zs <| yB rfl fun b5 => yN fun b8 => yN fun b9 => zc rfl <| yD rfl rfl (.of .rf) hc <| zy (.cneF rfl rfl (by decide)) <| zd <| zq <| zu rfl <| zk <| zs ?_
         refine zw rfl rfl <| yD rfl rfl (.of .rf) (r1Right_fn _ _) <| zc rfl <| yF rfl (by assumption) <| zf 0 rfl rfl <| yF rfl (by assumption) <| zl rfl rfl <| yF rfl (by assumption) <| zy (.cgtT rfl rfl (by omega)) <| zy (.pickFp rfl (by assumption) rfl) <| zd <| zq ?_
         refine zt rfl <| zs <| zg rfl <| zg rfl <| yW rfl rfl rfl rfl rfl <| yW rfl rfl rfl rfl rfl <| zc rfl <| zd <| zr <| yR (.w rfl rfl (.w rfl rfl (.t rfl .nil))) rfl (.of (.d (.d (.d .rf))))
      · focus
         refine zs <| yB rfl fun b5 => yN fun b8 => yN fun b9 => zc rfl <| yD rfl rfl (.of .rf) hc <| zy (.cneF rfl rfl (by decide)) <| zd <| zq <| zu rfl <| zk <| zs ?_
         refine zw rfl rfl <| yD rfl rfl (.of .rf) (r1Right_fn _ _) <| zc rfl <| yFs rfl (by assumption) <| yFs rfl (by assumption) <| yFs rfl (by assumption) <| zy (.pickTp rfl (by assumption) rfl) <| zd <| zq <| zt rfl <| zs <| zg rfl ?_
         refine zg rfl <| yW rfl rfl rfl rfl rfl <| yW rfl rfl rfl rfl rfl <| zc rfl <| zd <| zr <| yR (.w rfl rfl (.w rfl rfl (.t rfl .nil))) rfl (.of (.d (.d (.d .rf))))
  · simp only [if_neg hg] at hc ⊢
    focus
     refine zs <| yB rfl fun b5 => yN fun b8 => yN fun b9 => zc rfl <| yD rfl rfl (.of .rf) hc <| zy (.cneT rfl rfl (by decide)) <| zd <| zq <| zt rfl <| zs <| zg rfl ?_
     refine zg rfl <| yW rfl rfl rfl rfl rfl <| yW rfl rfl rfl rfl rfl <| zc rfl <| zd <| zr <| yR (.w rfl rfl (.w rfl rfl (.t rfl .nil))) rfl (.of (.d (.d (.d .rf))))
end Go.Proofs.Ytgcmglieciaifaa
