/- Layer 8: the reference's records: Get and set. Conditions: none. -/
import Derived.Test.YtnipmjpdklbbcaaGreatMq
set_option linter.unusedSimpArgs false
set_option linter.unusedVariables false
set_option maxRecDepth 100000
set_option maxHeartbeats 2000000
namespace Go.SL
open Go
theorem Imp.exE {α : Type} {A : α → Assn} {r ds : List Assn} (h : ∀ x, Imp (A x :: r) ds) : Imp (ex A :: r) ds := fun S H ⟨H1, H2, k1, k2, hd, ⟨x, hx⟩, hr⟩ => h x S H ⟨H1, H2, k1, k2, hd, hx, hr⟩
theorem Imp.purE {p : Prop} {cs r ds : List Assn} (hh : Has cs (pur p) r) (h : p → Imp cs ds) : Imp cs ds := fun S H hs => h (Imp.pur_out (hh S H hs)) S H hs
theorem RfP.touch {b : Nat} {l : LK} {w : Vec} {r : List Assn} : Imp (RfP b l :: r) (RfP b (l.touch w) :: r) := by
  refine Imp.exE fun x => Imp.trans Imp.sep_out (Imp.purE (Has.there (Has.there (Has.there Has.here))) fun R => ?_)
  refine RfP.fold (T := x.1) (a := x.2.1) (c := x.2.2.1) (xs := x.2.2.2) ?_ Has.here Has.here (R.touch w) (Imp.drop (c := pur (RRel l (x.2.2.2.map (·.s)))))
  rw [touch_me]; exact Has.here
end Go.SL
namespace Go.Proofs.YtnipmjpdklbbcaaGreat
open Go Go.SL
attribute [local irreducible] pc rc SlT Me Mt It pt ro pur ex sep old Meets
attribute [local irreducible] LockP RecP RecsA LinksP LinksH WaitsA RlockP RfP
instance : TE 53 RecE recEC 16 := ⟨recEC_one, by decide⟩
theorem r8Get_P (b : Nat) (l : LK) (w : Vec) (F : List Assn) (hk : keyOk l.me.key) (hv : 0 ≤ l.me.vec.bits) (hb : 0 ≤ w.bits) : Meets Tryz.prog 27 [ptr b, vv w] (RfP b l :: F)
    (Some' (fun _ : Option Addr × Nat => True) (fun x => .tuple #[rsv (l.getS w) x.1 x.2, .bool (l.getB w)]) (fun x => SlT false ownerC 2 (.slice x.1 (l.getS w).waits.length x.2) x.2 (l.getS w).waits :: RfP b l :: F)) := by
  refine Meets.intro b27 k27 (by simp) ?_
  refine J.openRf Has.here (fun T a c xs R hC hL => ?_)
  have hlen : (xs.map (·.s)).length = xs.length := by simp
  rcases hr : rat w (xs.map (·.s)) with ⟨i, bb⟩
  have hf := rat_find R.srt hb
  rw [hr] at hf
  simp only at hf
  have hP : ∀ {F r : List Assn} [HP F b T (rfC l.me xs.length a c) r] [HS F (.slice a xs.length c) RecE recEC 16 c xs], Meets Tryz.prog 81 [ptr b, vv w] F (Det (.tuple #[i64 (i : Int), .bool bb]) F) := by
    intro F r _ _
    have := r8at_fn (b := b) (T := T) (a := a) (c := c) (me := l.me) (xs := xs) (F := F) w hb
    rw [hr] at this; exact this
  cases bb with
  | true =>
    obtain ⟨hf1, hf2⟩ := hf
    cases hfd : rfind (xs.map (·.s)) w with
    | none => rw [hfd] at hf1; cases hf1
    | some r =>
      obtain ⟨hi, hn⟩ := hf2 r hfd
      have hi' : i < xs.length := by omega
      rw [nth_map hi'] at hn
      have hgS : l.getS w = r ∧ l.getB w = true := by
        have := R.get w
        unfold rget at this; rw [hfd] at this; simp only at this
        unfold LK.getS LK.getB
        cases e : l.rec? w with
        | none => rw [e] at this; cases this
        | some x => rw [e] at this; injection this with this; exact ⟨this.symm, rfl⟩
      rw [hgS.1, hgS.2, ← hn]
      refine J.imp (Imp.take (c := WaitsA xs) (by (repeat (first | exact Has.here | assumption | apply Has.there))) (Imp.refl _)) ?_
      refine J.imp (WaitsA.get hi') ?_
      focus
       refine zs <| yB rfl fun b3 => yN fun b4 => zc rfl <| zw rfl rfl <| yD rfl rfl (.of .rf) hP <| zc rfl <| zc rfl <| zc rfl <| zc rfl <| zd <| zq ?_
       refine zb <| zs <| zc rfl <| zd <| zt rfl <| zs <| zfl rfl rfl rfl <| zy (.iC rfl rfl (by omega)) <| zy (.LE rfl (by omega)) <| yW rfl rfl rfl rfl rfl <| zc rfl <| zd ?_
       refine zr <| yQ ⟨_, _⟩ (.w rfl rfl (.t rfl .nil)) trivial rfl (.of (.t2 (RfP.fold (.there (.there (.there .here))) (.there (.there (.there .here))) (.there (.there .here)) (by first | assumption | omega | rfl | decide) (.d (.d .rf)))))
  | false =>
    have hfd : rfind (xs.map (·.s)) w = none := by
      cases hfd : rfind (xs.map (·.s)) w with
      | none => rfl
      | some r => rw [hfd] at hf; cases hf.1
    have hg := R.get w
    unfold rget at hg; rw [hfd] at hg; simp only at hg
    by_cases hE : l.isEnd
    · by_cases hm : l.may w
      · rw [if_pos ⟨hE, hm⟩] at hg
        have hgS : l.getS w = l.first.state w ∧ l.getB w = true := by
          unfold LK.getS LK.getB
          cases e : l.rec? w with
          | none => rw [e] at hg; cases hg
          | some x => rw [e] at hg; injection hg with hg; exact ⟨hg.symm, rfl⟩
        rw [hgS.1, hgS.2]
        have hw0 : (l.first.state w).waits = [] := by unfold LK.first; split <;> rfl
        refine J.nilS ownerC 2 false (by decide) ?_
        refine J.imp (cs' := SlT false ownerC 2 (.slice none (l.first.state w).waits.length 0) 0 (l.first.state w).waits :: _) (by rw [hw0]; exact Imp.refl _) ?_
        focus
         refine zs <| yB rfl fun b3 => yN fun b4 => zc rfl <| zw rfl rfl <| yD rfl rfl (.of .rf) hP <| zc rfl <| zc rfl <| zc rfl <| zc rfl <| zd <| zq ?_
         refine zb <| zs <| zc rfl <| zd <| zu rfl <| zs <| yD rfl rfl (.of .rf) (r8end_fn (by first | assumption | omega | decide | exact rfl)) ?_
         refine yT rfl (by assumption) <| zw rfl rfl <| yT rfl (by assumption) <| yD rfl rfl (.of .rf) (r8May_fn _ (by first | assumption | omega | decide | exact rfl) (by first | assumption | omega | decide | exact rfl) (by assumption)) ?_
         refine zy (.pickTp rfl (by assumption) rfl) <| zd <| zi rfl (fun h1 => ?_) (fun h1 => ?_)
         refine zs <| zw rfl rfl <| yD rfl rfl (.of .rf) (r8first_fn _) <| yW rfl rfl rfl rfl rfl <| zc rfl <| zd <| zr <| yQ ⟨_, _⟩ (.w rfl rfl (.t rfl .nil)) trivial rfl (.of (.t2 (RfP.fold (.there (.there .here)) (.there (.there .here)) (.there (.there .here)) (by first | assumption | omega | rfl | decide) (.d (.d .rf)))))
         contradiction
      · rw [if_neg (fun h => hm h.2)] at hg
        have hgS : l.getS w = RecS.zero ∧ l.getB w = false := by
          unfold LK.getS LK.getB
          cases e : l.rec? w with
          | none => exact ⟨rfl, rfl⟩
          | some x => rw [e] at hg; cases hg
        rw [hgS.1, hgS.2]
        refine J.nilS ownerC 2 false (by decide) ?_
        focus
         refine zs <| yB rfl fun b3 => yN fun b4 => zc rfl <| zw rfl rfl <| yD rfl rfl (.of .rf) hP <| zc rfl <| zc rfl <| zc rfl <| zc rfl <| zd <| zq ?_
         refine zb <| zs <| zc rfl <| zd <| zu rfl <| zs <| yD rfl rfl (.of .rf) (r8end_fn (by first | assumption | omega | decide | exact rfl)) ?_
         refine yT rfl (by assumption) <| zw rfl rfl <| yT rfl (by assumption) <| yD rfl rfl (.of .rf) (r8May_fn _ (by first | assumption | omega | decide | exact rfl) (by first | assumption | omega | decide | exact rfl) (by assumption)) ?_
         refine zy (.pickTp rfl (by assumption) rfl) <| zd <| zi rfl (fun h1 => ?_) (fun h1 => ?_)
         contradiction
         refine zk <| zs <| zg rfl <| yW rfl rfl rfl rfl rfl <| zc rfl <| zd <| zr <| yQ ⟨_, _⟩ (.w rfl rfl (.t rfl .nil)) trivial rfl (.of (.t2 (RfP.fold (.there (.there .here)) (.there (.there .here)) (.there (.there .here)) (by first | assumption | omega | rfl | decide) (.d (.d .rf)))))
    · rw [if_neg (fun h => hE h.1)] at hg
      have hgS : l.getS w = RecS.zero ∧ l.getB w = false := by
        unfold LK.getS LK.getB
        cases e : l.rec? w with
        | none => exact ⟨rfl, rfl⟩
        | some x => rw [e] at hg; cases hg
      rw [hgS.1, hgS.2]
      refine J.nilS ownerC 2 false (by decide) ?_
      focus
       refine zs <| yB rfl fun b3 => yN fun b4 => zc rfl <| zw rfl rfl <| yD rfl rfl (.of .rf) hP <| zc rfl <| zc rfl <| zc rfl <| zc rfl <| zd <| zq ?_
       refine zb <| zs <| zc rfl <| zd <| zu rfl <| zs <| yD rfl rfl (.of .rf) (r8end_fn (by first | assumption | omega | decide | exact rfl)) ?_
       refine yTs rfl (by assumption) <| yTs rfl (by assumption) <| zy (.pickFp rfl (by assumption) rfl) <| zd <| zu rfl <| zk <| zs <| zg rfl <| yW rfl rfl rfl rfl rfl <| zc rfl <| zd <| zr ?_
       refine yQ ⟨_, _⟩ (.w rfl rfl (.t rfl .nil)) trivial rfl (.of (.t2 (RfP.fold (.there (.there .here)) (.there (.there .here)) (.there (.there .here)) (by first | assumption | omega | rfl | decide) (.d (.d .rf)))))
theorem r8Get_fn (b : Nat) (l : LK) (w : Vec) (F : List Assn) (hk : keyOk l.me.key) (hv : 0 ≤ l.me.vec.bits) (hb : 0 ≤ w.bits) : Meets Tryz.prog 27 [ptr b, vv w] (RfP b l :: F)
    (Some' (fun _ : Option Addr × Nat => True) (fun x => .tuple #[rsv (l.getS w) x.1 x.2, .bool (l.getB w)]) (fun x => SlT false ownerC 2 (.slice x.1 (l.getS w).waits.length x.2) x.2 (l.getS w).waits :: RfP b (l.touch w) :: F)) := by
  refine Meets.post (r8Get_P b l w F hk hv hb) ?_
  rintro v c ⟨x, _, rfl, rfl⟩
  exact ⟨_, Up.of (Imp.cons RfP.touch), x, trivial, rfl, rfl⟩
theorem r8set_fn (b : Nat) (l : LK) (a0 : Option Addr) (c0 : Nat) (x : RecA) (w : Vec) (F : List Assn) (hw : vecG w) (hm : l.m.length ≤ 1000) : Meets Tryz.prog 153 [ptr b, rsv (x.state w) a0 c0] (SlT false ownerC 2 (.slice a0 x.lk.w.length c0) c0 x.lk.w :: RfP b l :: F) (Det (.tuple #[]) (RfP b (l.upd w x) :: F)) := by
  refine Meets.intro b153 k153 (by simp) ?_
  refine J.openRf (Has.there Has.here) (fun T a c xs R hC hL => ?_)
  have hb := hw.2
  have hlen : (xs.map (·.s)).length = xs.length := by simp
  have hl2 := R.len
  rcases hr : rat w (xs.map (·.s)) with ⟨i, bb⟩
  have hP : ∀ {F r : List Assn} [HP F b T (rfC l.me xs.length a c) r] [HS F (.slice a xs.length c) RecE recEC 16 c xs], Meets Tryz.prog 81 [ptr b, vv w] F (Det (.tuple #[i64 (i : Int), .bool bb]) F) := by
    intro F r _ _
    have := r8at_fn (b := b) (T := T) (a := a) (c := c) (me := l.me) (xs := xs) (F := F) w hb
    rw [hr] at this; exact this
  have hi : i ≤ xs.length ∧ (bb = true → i < xs.length) := by
    rcases rat_split hb R.srt with ⟨A, r, B, e1, e2, e3⟩ | ⟨e1, e2, e3⟩
    · rw [hr] at e3; injection e3 with e3 e4; subst e3 e4
      have : (xs.map (·.s)).length = A.length + (B.length + 1) := by rw [e1]; simp
      omega
    · rw [hr] at e1 e3; simp only at e1 e3
      obtain ⟨A, B, f1, f2, _⟩ := e3 hw.1
      have : (xs.map (·.s)).length = A.length + B.length := by rw [f1]; simp
      rw [e1]; exact ⟨by omega, fun h => by cases h⟩
  have hR := R.upd hw x
  unfold rset at hR
  rw [show (x.state w).w = w from rfl, hr] at hR
  simp only at hR
  cases bb with
  | true =>
    have hi2 := hi.2 rfl
    have e1 : RRel (l.upd w x) (([] ++ List.drop 0 (List.take i xs) ++ [(⟨x.state w, a0, c0, hw⟩ : RecE)] ++ List.drop (i + 1) (List.take xs.length xs)).map (fun y : RecE => y.s)) := by simpa [List.map_take, List.map_drop] using hR
    have e2 : ∀ y ∈ ([] ++ List.drop 0 (List.take i xs)) ++ List.drop (i + 1) (List.take xs.length xs), y ∈ xs := fun y hy => by
      rw [List.nil_append, List.drop_zero, List.take_length] at hy
      rcases List.mem_append.1 hy with hy | hy
      · exact List.mem_of_mem_take hy
      · exact List.mem_of_mem_drop hy
    focus
     refine zs <| yB rfl fun b3 => zfw [_, _] rfl rfl rfl rfl <| yD rfl rfl (.of .rf) hP <| zc rfl <| zc rfl <| zc rfl <| zfl rfl rfl rfl <| JT.V rfl (.c rfl) .no .no (by decide) (by omega) (by omega) (by omega) (by omega) fun a6 => zc rfl <| zd <| zq ?_
     refine zt rfl <| zo <| zfl rfl rfl rfl <| zy (.addN rfl rfl (by omega)) <| JT.V rfl (.c rfl) .no .no (by decide) (by omega) (by omega) (by omega) (by omega) fun a6_1 => zd <| zo <| zfl rfl rfl rfl <| JT.V rfl .no (.c rfl) .no (by decide) (by omega) (by omega) (by omega) (by omega) fun a35 => zw rfl rfl <| JT.both ?_ ?_
     refine JT.b0 fun a29 => JT.both ?_ ?_
     (refine JT.A3 rfl rfl rfl (by decide) (by simp; omega) (fun a36 c36 hc36 => ?_))
     refine JT.yA rfl (Ev.Lw rfl rfl) <| JT.bsl1 (by repeat (first | exact Cells.nil | apply Cells.z | (apply Cells.cl; rfl; rfl; rfl))) (by simp only [List.length_cons, List.length_nil, Nat.reduceAdd]; rfl) (by decide) (by rfl) fun a38 => ?_
     rotate_left
     refine JT.bsl1 (by repeat (first | exact Cells.nil | apply Cells.z | (apply Cells.cl; rfl; rfl; rfl))) (by simp only [List.length_cons, List.length_nil, Nat.reduceAdd]; rfl) (by decide) (by rfl) fun a38 => ?_
     (refine JT.A3 rfl rfl rfl (by decide) (by simp; omega) (fun a36 c36 hc36 => ?_))
     refine JT.yA rfl (Ev.Lw rfl rfl) ?_
     rotate_left
     refine JT.bsl1 (by repeat (first | exact Cells.nil | apply Cells.z | (apply Cells.cl; rfl; rfl; rfl))) (by simp only [List.length_cons, List.length_nil, Nat.reduceAdd]; rfl) (by decide) (by rfl) fun a38 => ?_
     refine JT.b0 fun a29 => ?_
     (refine JT.A3 rfl rfl rfl (by decide) (by simp; omega) (fun a36 c36 hc36 => ?_))
     refine JT.yA rfl (Ev.Lw rfl rfl) ?_
     rotate_left
    all_goals refine JT.A1 (v := ⟨x.state w, a0, c0, hw⟩) rfl rfl (by rfl) rfl (by decide) (by simp; omega) (fun a3' c3' hc3 => ?_)
    focus
     (refine JT.A3 rfl rfl rfl (by decide) (by simp; omega) (fun a41 c41 hc41 => ?_))
     refine zc rfl <| zf 5 rfl rfl <| yS rfl rfl rfl rfl rfl (Nat.le_of_ble_eq_true rfl) rfl <| zd ?_
     rotate_left
    rotate_left 1
    focus
     (refine JT.A3 rfl rfl rfl (by decide) (by simp; omega) (fun a41 c41 hc41 => ?_))
     refine zc rfl <| zf 5 rfl rfl <| yS rfl rfl rfl rfl rfl (Nat.le_of_ble_eq_true rfl) rfl <| zd ?_
     rotate_left
    rotate_left 1
    focus
     (refine JT.A3 rfl rfl rfl (by decide) (by simp; omega) (fun a41 c41 hc41 => ?_))
     refine zc rfl <| zf 5 rfl rfl <| yS rfl rfl rfl rfl rfl (Nat.le_of_ble_eq_true rfl) rfl <| zd ?_
     rotate_left
    rotate_left 1
    all_goals refine retQ_up (Up.of (Imp.trans (Imp.take (c := waitsO ⟨x.state w, a0, c0, hw⟩) (by (repeat (first | exact Has.here | assumption | apply Has.there))) (Imp.take (c := WaitsA xs) (by (repeat (first | exact Has.here | assumption | apply Has.there))) (Imp.refl _))) (WaitsA.put e2))) ?_
    focus
     refine yR .nil rfl (.frz (.there (.there .here)) (.of (RfP.fold (.there (.there .here)) .here .here (by first | assumption | omega | rfl | decide) (.d (.d (.d (.d (.d (.d .rf)))))))))
    focus
     refine yR .nil rfl (.frz (.there (.there .here)) (.of (RfP.fold (.there (.there .here)) .here .here (by first | assumption | omega | rfl | decide) (.d (.d (.d (.d (.d (.d .rf)))))))))
    focus
     refine yR .nil rfl (.frz (.there (.there .here)) (.of (RfP.fold (.there (.there .here)) .here .here (by first | assumption | omega | rfl | decide) (.d (.d (.d (.d (.d (.d .rf)))))))))
  | false =>
    have e1 : RRel (l.upd w x) (([] ++ List.drop 0 (List.take i xs) ++ [(⟨x.state w, a0, c0, hw⟩ : RecE)] ++ List.drop (i) (List.take xs.length xs)).map (fun y : RecE => y.s)) := by simpa [List.map_take, List.map_drop] using hR
    have e2 : ∀ y ∈ ([] ++ List.drop 0 (List.take i xs)) ++ List.drop (i) (List.take xs.length xs), y ∈ xs := fun y hy => by
      rw [List.nil_append, List.drop_zero, List.take_length] at hy
      rcases List.mem_append.1 hy with hy | hy
      · exact List.mem_of_mem_take hy
      · exact List.mem_of_mem_drop hy
    focus
     refine zs <| yB rfl fun b3 => zfw [_, _] rfl rfl rfl rfl <| yD rfl rfl (.of .rf) hP <| zc rfl <| zc rfl <| zc rfl <| zfl rfl rfl rfl <| JT.V rfl (.c rfl) .no .no (by decide) (by omega) (by omega) (by omega) (by omega) fun a6 => zc rfl <| zd <| zq ?_
     refine zu rfl <| zk <| zo <| zfl rfl rfl rfl <| JT.V rfl .no (.c rfl) .no (by decide) (by omega) (by omega) (by omega) (by omega) fun a35 => zw rfl rfl <| JT.both ?_ ?_
     refine JT.b0 fun a29 => JT.both ?_ ?_
     (refine JT.A3 rfl rfl rfl (by decide) (by simp; omega) (fun a36 c36 hc36 => ?_))
     refine JT.yA rfl (Ev.Lw rfl rfl) <| JT.bsl1 (by repeat (first | exact Cells.nil | apply Cells.z | (apply Cells.cl; rfl; rfl; rfl))) (by simp only [List.length_cons, List.length_nil, Nat.reduceAdd]; rfl) (by decide) (by rfl) fun a38 => ?_
     rotate_left
     refine JT.bsl1 (by repeat (first | exact Cells.nil | apply Cells.z | (apply Cells.cl; rfl; rfl; rfl))) (by simp only [List.length_cons, List.length_nil, Nat.reduceAdd]; rfl) (by decide) (by rfl) fun a38 => ?_
     (refine JT.A3 rfl rfl rfl (by decide) (by simp; omega) (fun a36 c36 hc36 => ?_))
     refine JT.yA rfl (Ev.Lw rfl rfl) ?_
     rotate_left
     refine JT.bsl1 (by repeat (first | exact Cells.nil | apply Cells.z | (apply Cells.cl; rfl; rfl; rfl))) (by simp only [List.length_cons, List.length_nil, Nat.reduceAdd]; rfl) (by decide) (by rfl) fun a38 => ?_
     refine JT.b0 fun a29 => ?_
     (refine JT.A3 rfl rfl rfl (by decide) (by simp; omega) (fun a36 c36 hc36 => ?_))
     refine JT.yA rfl (Ev.Lw rfl rfl) ?_
     rotate_left
    all_goals refine JT.A1 (v := ⟨x.state w, a0, c0, hw⟩) rfl rfl (by rfl) rfl (by decide) (by simp; omega) (fun a3' c3' hc3 => ?_)
    focus
     (refine JT.A3 rfl rfl rfl (by decide) (by simp; omega) (fun a41 c41 hc41 => ?_))
     refine zc rfl <| zf 5 rfl rfl <| yS rfl rfl rfl rfl rfl (Nat.le_of_ble_eq_true rfl) rfl <| zd ?_
     rotate_left
    rotate_left 1
    focus
     (refine JT.A3 rfl rfl rfl (by decide) (by simp; omega) (fun a41 c41 hc41 => ?_))
     refine zc rfl <| zf 5 rfl rfl <| yS rfl rfl rfl rfl rfl (Nat.le_of_ble_eq_true rfl) rfl <| zd ?_
     rotate_left
    rotate_left 1
    focus
     (refine JT.A3 rfl rfl rfl (by decide) (by simp; omega) (fun a41 c41 hc41 => ?_))
     refine zc rfl <| zf 5 rfl rfl <| yS rfl rfl rfl rfl rfl (Nat.le_of_ble_eq_true rfl) rfl <| zd ?_
     rotate_left
    rotate_left 1
    all_goals refine retQ_up (Up.of (Imp.trans (Imp.take (c := waitsO ⟨x.state w, a0, c0, hw⟩) (by (repeat (first | exact Has.here | assumption | apply Has.there))) (Imp.take (c := WaitsA xs) (by (repeat (first | exact Has.here | assumption | apply Has.there))) (Imp.refl _))) (WaitsA.put e2))) ?_
    focus
     refine yR .nil rfl (.frz (.there (.there .here)) (.of (RfP.fold (.there (.there .here)) .here .here (by first | assumption | omega | rfl | decide) (.d (.d (.d (.d (.d .rf))))))))
    focus
     refine yR .nil rfl (.frz (.there (.there .here)) (.of (RfP.fold (.there (.there .here)) .here .here (by first | assumption | omega | rfl | decide) (.d (.d (.d (.d (.d .rf))))))))
    focus
     refine yR .nil rfl (.frz (.there (.there .here)) (.of (RfP.fold (.there (.there .here)) .here .here (by first | assumption | omega | rfl | decide) (.d (.d (.d (.d (.d .rf))))))))
end Go.Proofs.YtnipmjpdklbbcaaGreat
