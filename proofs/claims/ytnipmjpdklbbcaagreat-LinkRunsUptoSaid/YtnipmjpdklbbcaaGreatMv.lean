/- Layer 8: the reference's records: the calls. Conditions: none. -/
import Derived.Test.YtnipmjpdklbbcaaGreatMu
set_option linter.unusedSimpArgs false
set_option linter.unusedVariables false
set_option maxRecDepth 100000
set_option maxHeartbeats 2000000
namespace Go.SL
open Go
theorem Meets.openRf {P : Program} {f b : Nat} {l : LK} {args : List Value} {r : List Assn} {R : Value → List Assn → Prop} (hok : callOk P f = true)
    (h : ∀ T a c (xs : List RecE), RRel l (xs.map (·.s)) → Meets P f args (pc b T (rfC l.me xs.length a c) :: SlT false recEC 16 (.slice a xs.length c) c xs :: WaitsA xs :: r) R) : Meets P f args (RfP b l :: r) R := ⟨hok, fun w hs => by
  obtain ⟨S, H, hS, hH, hd, H1, H2, h1, h2, hd', ⟨x, hx⟩, hr⟩ := hs
  have hs : Sat w.heap (sep [pc b x.1 (rfC l.me x.2.2.2.length x.2.1 x.2.2.1), SlT false recEC 16 (.slice x.2.1 x.2.2.2.length x.2.2.1) x.2.2.1 x.2.2.2, WaitsA x.2.2.2, pur (RRel l (x.2.2.2.map (·.s)))] :: r) := ⟨S, H, hS, hH, hd, H1, H2, h1, h2, hd', hx, hr⟩
  have hs := hs.imp Imp.sep_out
  have hR : RRel l (x.2.2.2.map (·.s)) := by
    obtain ⟨S, H, _, _, _, hst⟩ := hs.imp (Has.there (Has.there (Has.there Has.here)))
    exact Imp.pur_out hst
  exact (h _ _ _ _ hR).2 w (hs.imp (Imp.cons (Imp.cons (Imp.cons Imp.drop))))⟩
theorem Meets.rfD {P : Program} {f b : Nat} {l : LK} {args : List Value} {r : List Assn} {v : Value} (hok : callOk P f = true)
    (h : ∀ T a c (xs : List RecE), RRel l (xs.map (·.s)) → Meets P f args (pc b T (rfC l.me xs.length a c) :: SlT false recEC 16 (.slice a xs.length c) c xs :: WaitsA xs :: r) (Det v (pc b T (rfC l.me xs.length a c) :: SlT false recEC 16 (.slice a xs.length c) c xs :: WaitsA xs :: r))) : Meets P f args (RfP b l :: r) (Det v (RfP b l :: r)) :=
  Meets.openRf hok fun T a c xs R => Meets.post (h T a c xs R) (by
    rintro v c' ⟨rfl, rfl⟩
    exact ⟨_, Up.of (RfP.fold Has.here Has.here Has.here R (Imp.refl _)), rfl, rfl⟩)
end Go.SL
namespace Go.Proofs.YtnipmjpdklbbcaaGreat
open Go Go.SL
attribute [local irreducible] pc rc SlT Me Mt It pt ro pur ex sep old Meets
attribute [local irreducible] LockP RecP RecsA LinksP LinksH WaitsA RlockP RfP

/-- What is known of a run's records. -/
structure RGood (l : LK) : Prop where
  inv : l.Inv
  srt : l.Srt
  key : keyOk l.me.key
  vec : 0 ≤ l.me.vec.bits
  len : l.m.length ≤ 900
theorem r8end_P (b : Nat) (l : LK) (F : List Assn) (hk : keyOk l.me.key) : Meets Tryz.prog 82 [ptr b] (RfP b l :: F) (Det (.bool (decide l.isEnd)) (RfP b l :: F)) :=
  Meets.rfD k82 fun _ _ _ _ _ => r8end_fn hk
theorem r8May_P (b : Nat) (l : LK) (w : Vec) (F : List Assn) (h : RGood l) (hw : 0 ≤ w.bits) : Meets Tryz.prog 31 [ptr b, vv w] (RfP b l :: F) (Det (.bool (decide (l.may w))) (RfP b l :: F)) :=
  Meets.rfD k31 fun _ _ _ _ _ => r8May_fn w h.key h.vec hw
theorem r8left_P (b : Nat) (l : LK) (x : Ref) (F : List Assn) : Meets Tryz.prog 150 [ptr b, rv x] (RfP b l :: F) (Det (.bool (decide (l.toLeft x))) (RfP b l :: F)) :=
  Meets.rfD k150 fun _ _ _ _ _ => r8left_fn x
theorem r8right_P (b : Nat) (l : LK) (x : Ref) (F : List Assn) : Meets Tryz.prog 151 [ptr b, rv x] (RfP b l :: F) (Det (.bool (decide (l.toRight x))) (RfP b l :: F)) :=
  Meets.rfD k151 fun _ _ _ _ _ => r8right_fn x
theorem r8Get_no (b : Nat) (l : LK) (w : Vec) (F : List Assn) (h : RGood l) (hb : 0 ≤ w.bits) (hr : l.rec? w = none) : Meets Tryz.prog 27 [ptr b, vv w] (RfP b l :: F)
    (Some' (fun _ : Option Addr × Nat => True) (fun x => .tuple #[rsv RecS.zero x.1 x.2, .bool false]) (fun x => RfP b (l.touch w) :: F)) := by
  have := r8Get_fn b l w F h.key h.vec hb
  unfold LK.getS LK.getB at this; rw [hr] at this
  refine this.post ?_
  rintro v c ⟨x, _, rfl, rfl⟩
  exact ⟨_, Up.of Imp.drop, x, trivial, rfl, rfl⟩
theorem r8Get_in (b : Nat) (l : LK) (w : Vec) (F : List Assn) (h : RGood l) (hb : 0 ≤ w.bits) (a : RecA) (hr : l.rec? w = some a) : Meets Tryz.prog 27 [ptr b, vv w] (RfP b l :: F)
    (Some' (fun _ : Option Addr × Nat => True) (fun x => .tuple #[rsv (a.state w) x.1 x.2, .bool true]) (fun x => SlT false ownerC 2 (.slice x.1 a.lk.w.length x.2) x.2 a.lk.w :: RfP b (l.touch w) :: F)) := by
  have := r8Get_fn b l w F h.key h.vec hb
  unfold LK.getS LK.getB at this; rw [hr] at this
  exact this
theorem hld_own {l : LK} {w : Vec} {a : RecA} (hr : l.rec? w = some a) {o : Owner} {e : Bool} (h : e = true ∨ ¬ l.isEnd) : l.ownE w o e = hldE (a.state w) o := by
  unfold LK.ownE hldE; rw [hr]; simp only
  rw [if_neg (by rintro ⟨h1, h2⟩; rcases h with h | h; rw [h] at h1; cases h1; exact h h2)]; rfl
theorem r8Out_no (b : Nat) (l : LK) (w : Vec) (o : Owner) (F : List Assn) (h : RGood l) (hb : 0 ≤ w.bits) (hz : l.ownE w o false ≠ 0) : Meets Tryz.prog 90 [ptr b, vv w, ov o] (RfP b l :: F) (Det (.tuple #[.slice none 0 0, i64 (l.ownE w o false)]) (RfP b (l.touch w) :: F)) := by
  refine Meets.intro b90 k90 (by simp) ?_
  have hk' : keyOk (l.touch w).me.key := by rw [touch_me]; exact h.key
  cases hr : l.rec? w with
  | none =>
    have e : l.ownE w o false = 82 := by unfold LK.ownE; rw [hr]
    rw [e]
    focus
     refine zs <| yB rfl fun b4 => yB rfl fun b5 => zc rfl <| zc rfl <| zw rfl rfl <| yE rfl rfl (.of (.t2 .rf)) (r8Get_no _ _ _ _ (by assumption) (by assumption) (by assumption)) fun ⟨a16, c16⟩ _ => zc rfl <| zc rfl <| yN fun b8 => yW rfl rfl rfl rfl rfl <| zc rfl ?_
     refine zd <| zq <| zt rfl <| zs <| zc rfl <| zc rfl <| zd <| zr <| yR (.t rfl (.t rfl .nil)) rfl (.of (.t1 (.d (.d (.d .rf)))))
  | some a =>
    by_cases hE : l.isEnd
    · have e : l.ownE w o false = 80 := by unfold LK.ownE; rw [hr]; exact if_pos ⟨rfl, hE⟩
      rw [e]
      focus
       refine zs <| yB rfl fun b4 => yB rfl fun b5 => zc rfl <| zc rfl <| zw rfl rfl <| yE rfl rfl (.of (.t2 .rf)) (r8Get_in _ _ _ _ (by assumption) (by assumption) _ (by first | assumption | omega | decide | exact rfl)) fun ⟨a16, c16⟩ _ => ?_
       refine zc rfl <| zc rfl <| yN fun b8 => yW rfl rfl rfl rfl rfl <| zc rfl <| zd <| zq <| zu rfl <| zk <| zs <| yD rfl rfl (.of (.t2 .rf)) (r8end_P _ _ _ (by assumption)) <| zd ?_
       refine zq <| zi rfl (fun h1 => ?_) (fun h1 => ?_)
       refine zs <| zc rfl <| zc rfl <| zd <| zr <| yR (.t rfl (.t rfl .nil)) rfl (.of (.t0 (.d (.d (.d (.d .rf))))))
       contradiction
    · have e := hld_own hr (o := o) (e := false) (.inr hE)
      rw [e] at hz ⊢
      focus
       refine zs <| yB rfl fun b4 => yB rfl fun b5 => zc rfl <| zc rfl <| zw rfl rfl <| yE rfl rfl (.of (.t2 .rf)) (r8Get_in _ _ _ _ (by assumption) (by assumption) _ (by first | assumption | omega | decide | exact rfl)) fun ⟨a16, c16⟩ _ => ?_
       refine zc rfl <| zc rfl <| yN fun b8 => yW rfl rfl rfl rfl rfl <| zc rfl <| zd <| zq <| zu rfl <| zk <| zs <| yD rfl rfl (.of (.t2 .rf)) (r8end_P _ _ _ (by assumption)) <| zd ?_
       refine zq <| zi rfl (fun h1 => ?_) (fun h1 => ?_)
       contradiction
       refine zk <| zs <| zw rfl rfl <| zw rfl rfl <| yD rfl rfl (.of .rf) (r8held_fn _ _ _ _ _) <| zy (.cneT rfl rfl (by omega)) <| zd <| zq <| zt rfl <| zs <| zc rfl <| zc rfl ?_
       refine zd <| zr <| yR (.t rfl (.t rfl .nil)) rfl (.of (.t0 (.d (.d (.d (.d .rf))))))
theorem r8Out_ok (b : Nat) (l : LK) (w : Vec) (o : Owner) (F : List Assn) (h : RGood l) (hb : 0 ≤ w.bits) (a : RecA) (hr : l.rec? w = some a) (hz : l.ownE w o false = 0) : Meets Tryz.prog 90 [ptr b, vv w, ov o] (RfP b l :: F)
    (Some' (fun _ : Option Addr × Nat => True) (fun x => .tuple #[.slice x.1 a.lk.w.length x.2, i64 0]) (fun x => SlT false ownerC 2 (.slice x.1 a.lk.w.length x.2) x.2 a.lk.w :: RfP b ((l.touch w).del w) :: F)) := by
  refine Meets.intro b90 k90 (by simp) ?_
  have hk' : keyOk (l.touch w).me.key := by rw [touch_me]; exact h.key
  have hn := h.len
  have hE : ¬ l.isEnd := fun hh => (ownE_zero hr hz).1 ⟨rfl, hh⟩
  have hz' := hz
  rw [hld_own hr (o := o) (e := false) (.inr hE)] at hz'
  have ht : alk l.m w = some a ∧ l.touch w = l := by
    rcases rec?_some hr with h1 | ⟨_, h2, _⟩
    · exact h1
    · exact absurd h2 hE
  have hk := h.key
  rw [ht.2]
  have hG : ∀ F, Meets Tryz.prog 27 [ptr b, vv w] (RfP b l :: F) (Some' (fun _ : Option Addr × Nat => True) (fun x => .tuple #[rsv (a.state w) x.1 x.2, .bool true]) (fun x => SlT false ownerC 2 (.slice x.1 a.lk.w.length x.2) x.2 a.lk.w :: RfP b l :: F)) := fun F => by
    have := r8Get_in b l w F h hb a hr
    rw [ht.2] at this; exact this
  focus
   refine zs <| yB rfl fun b4 => yB rfl fun b5 => zc rfl <| zc rfl <| zw rfl rfl <| yE rfl rfl (.of (.t2 .rf)) (hG _) fun ⟨a16, c16⟩ _ => zc rfl <| zc rfl <| yN fun b8 => yW rfl rfl rfl rfl rfl <| zc rfl ?_
   refine zd <| zq <| zu rfl <| zk <| zs <| yD rfl rfl (.of (.t2 .rf)) (r8end_P _ _ _ (by assumption)) <| zd <| zq <| zi rfl (fun h1 => ?_) (fun h1 => ?_)
   contradiction
   refine zk <| zs <| zw rfl rfl <| zw rfl rfl <| yD rfl rfl (.of .rf) (r8held_fn _ _ _ _ _) <| zy (.cneF rfl rfl (by omega)) <| zd <| zq <| zu rfl <| zk <| zs <| zw rfl rfl ?_
  refine JT.openRf (b := b) (l := l) (by (repeat (first | exact Has.here | assumption | apply Has.there))) (fun T a2 c2 xs R hC hL => ?_)
  have hlen : (xs.map (·.s)).length = xs.length := by simp
  have hl2 := R.len
  have hD := R.del h.inv hE hb (by rw [ht.1]; rfl)
  have hf := rat_find R.srt hb
  rw [R.find hE, ht.1] at hf
  rcases hq : rat w (xs.map (·.s)) with ⟨i, bb⟩
  unfold rdel at hD
  rw [hq] at hf hD
  obtain ⟨rfl, hf⟩ := hf
  have hi := (hf _ rfl).1
  simp only at hi hD
  have hP : ∀ {F r : List Assn} [HP F b T (rfC l.me xs.length a2 c2) r] [HS F (.slice a2 xs.length c2) RecE recEC 16 c2 xs], Meets Tryz.prog 81 [ptr b, vv w] F (Det (.tuple #[i64 (i : Int), .bool true]) F) := by
    intro F r _ _
    have := r8at_fn (b := b) (T := T) (a := a2) (c := c2) (me := l.me) (xs := xs) (F := F) w hb
    rw [hq] at this; exact this
  have e1 : RRel (l.del w) (([] ++ List.drop 0 (List.take i xs) ++ List.drop (i + 1) (List.take xs.length xs)).map (fun y : RecE => y.s)) := by simpa [List.map_take, List.map_drop] using hD
  have e2 : ∀ y ∈ [] ++ List.drop 0 (List.take i xs) ++ List.drop (i + 1) (List.take xs.length xs), y ∈ xs := fun y hy => by
    rw [List.nil_append, List.drop_zero, List.take_length] at hy
    rcases List.mem_append.1 hy with hy | hy
    · exact List.mem_of_mem_take hy
    · exact List.mem_of_mem_drop hy
  focus
   refine yD rfl rfl (.of .rf) hP <| zc rfl <| zc rfl <| zfl rfl rfl rfl <| JT.V rfl .no (.c rfl) .no (by decide) (by omega) (by omega) (by omega) (by omega) fun a42 => zf 5 rfl rfl <| zl rfl rfl <| zy (.addN rfl rfl (by omega)) <| JT.V rfl (.c rfl) .no .no (by decide) (by omega) (by omega) (by omega) (by omega) fun a50 => JT.b0 fun a36 => ?_
   (refine JT.A3 rfl rfl rfl (by decide) (by simp; omega) (fun a43 c43 hc43 => ?_))
   refine JT.yA rfl (Ev.L rfl rfl) ?_
   (refine JT.A3 rfl rfl rfl (by decide) (by simp; omega) (fun a51 c51 hc51 => ?_))
   refine zf 5 rfl rfl <| yS rfl rfl rfl rfl rfl (Nat.le_of_ble_eq_true rfl) rfl <| zfl rfl rfl rfl <| zc rfl <| zd <| zr ?_
  all_goals refine retQ_up (Up.of (Imp.trans (Imp.take (c := WaitsA xs) (by (repeat (first | exact Has.here | assumption | apply Has.there))) (Imp.refl _)) (WaitsA.of e2))) ?_
  focus
   refine yQ ⟨_, _⟩ (.t rfl (.t rfl .nil)) trivial rfl (.frz (.there (.there (.there .here))) (.of (.tk (.there (.there (.there (.there (.there (.there (.there (.there .here)))))))) (RfP.fold (.there (.there (.there .here))) .here .here (by first | assumption | omega | rfl | decide) (.d (.d (.d (.d (.d (.d (.d .rf)))))))))))
theorem r8Out_fn (b : Nat) (l : LK) (w : Vec) (o : Owner) (F : List Assn) (h : RGood l) (hb : 0 ≤ w.bits) : Meets Tryz.prog 90 [ptr b, vv w, ov o] (RfP b l :: F)
    (Some' (fun _ : Option Addr × Nat => True) (fun x => .tuple #[.slice x.1 (l.out w o).2.1.length x.2, i64 (l.out w o).2.2]) (fun x => SlT false ownerC 2 (.slice x.1 (l.out w o).2.1.length x.2) x.2 (l.out w o).2.1 :: RfP b (l.out w o).1 :: F)) := by
  unfold LK.out
  cases e : l.rec? w with
  | none =>
    have hz : l.ownE w o false ≠ 0 := by unfold LK.ownE; rw [e]; simp
    refine (r8Out_no b l w o F h hb hz).post ?_
    rintro v cs' ⟨rfl, rfl⟩
    exact ⟨_, Up.nilS (enc := ownerC) (sz := 2) false (by decide) (Up.refl _), (none, 0), trivial, rfl, rfl⟩
  | some a =>
    simp only
    by_cases hz : l.ownE w o false = 0
    · rw [if_pos hz]; exact r8Out_ok b l w o F h hb a e hz
    · rw [if_neg hz]
      refine (r8Out_no b l w o F h hb hz).post ?_
      rintro v cs' ⟨rfl, rfl⟩
      exact ⟨_, Up.nilS (enc := ownerC) (sz := 2) false (by decide) (Up.refl _), (none, 0), trivial, rfl, rfl⟩
theorem r8at_P (b : Nat) (l : LK) (w : Vec) (F : List Assn) (hE : ¬ l.isEnd) (hb : 0 ≤ w.bits) : Meets Tryz.prog 81 [ptr b, vv w] (RfP b l :: F) (Some' (fun _ : Int => True) (fun i => .tuple #[i64 i, .bool (alk l.m w).isSome]) (fun _ => RfP b l :: F)) :=
  Meets.openRf k81 fun T a c xs R => Meets.post (r8at_fn (me := l.me) (xs := xs) (T := T) (a := a) (c := c) w hb) (by
    rintro v c' ⟨rfl, rfl⟩
    refine ⟨_, Up.of (RfP.fold Has.here Has.here Has.here R (Imp.refl _)), (((rat w (xs.map (·.s))).1 : Nat) : Int), trivial, ?_, rfl⟩
    rw [(rat_find R.srt hb).1, R.find hE]
    cases alk l.m w <;> rfl)
theorem r8Put_fn (b : Nat) (l : LK) (w : Vec) (x y : Ref) (o : Owner) (F : List Assn) (h : RGood l) (hb : 0 ≤ w.bits) : Meets Tryz.prog 89 [ptr b, vv w, rv x, rv y, ov o] (RfP b l :: F) (Det (i64 (l.put w x y o).2) (RfP b (l.put w x y o).1 :: F)) := by
  refine Meets.intro b89 k89 (by simp) ?_
  have hk := h.key
  have hn := h.len
  unfold LK.put
  by_cases hE : l.isEnd
  · focus
     refine zs <| yB rfl fun b6 => yB rfl fun b7 => yB rfl fun b8 => yB rfl fun b9 => zc rfl <| yD rfl rfl (.of (.t4 .rf)) (r8end_P _ _ _ (by assumption)) <| yFs rfl (by assumption) <| yFs rfl (by assumption) <| yFs rfl (by assumption) <| zy (.pickTp rfl (by assumption) rfl) <| zd ?_
     refine zq <| zt rfl <| zs <| zc rfl <| zd <| zr <| seqQ_r ?_
    all_goals (repeat (first | rw [if_pos (by (first | assumption | omega | grind))] | rw [if_neg (by (first | assumption | omega | grind))]))
    focus
     refine yR (.t rfl .nil) rfl (.of (.t0 (.d (.d (.d (.d .rf))))))
  · by_cases hm : l.may w
    · have hw : vecG w := ⟨by unfold LK.may at hm; rw [if_neg hE] at hm; exact hm.2.1, hb⟩
      refine J.nilS ownerC 2 false (by decide) ?_
      by_cases ho : okO o
      · have e : (LS.new.ask o).1 = ⟨true, o, []⟩ := by simp [LS.ask, ho, LS.new]
        have hc : ckE o = 0 := if_pos ho
        have hS : ∀ F, Meets Tryz.prog 153 [ptr b, rsv ⟨w, x, y, true, o, []⟩ none 0] (SlT false ownerC 2 (.slice none 0 0) 0 [] :: RfP b l :: F) (Det (.tuple #[]) (RfP b (l.upd w ⟨x, y, (LS.new.ask o).1⟩) :: F)) := fun F => by
          rw [e]; exact r8set_fn b l none 0 ⟨x, y, ⟨true, o, []⟩⟩ w F hw (by omega)
        simp only [hc]
        focus
         refine zs <| yB rfl fun b6 => yB rfl fun b7 => yB rfl fun b8 => yB rfl fun b9 => zc rfl <| yD rfl rfl (.of (.t5 .rf)) (r8end_P _ _ _ (by assumption)) <| yF rfl (by assumption) <| zw rfl rfl <| yF rfl (by assumption) <| yD rfl rfl (.of (.t0 .rf)) (r8May_P _ _ _ _ (by assumption) (by assumption)) <| yF rfl (by assumption) ?_
         refine zc rfl <| zy (.pickFp rfl (by assumption) rfl) <| zd <| zq <| zi rfl (fun h1 => ?_) (fun h1 => ?_)
         contradiction
         refine zk <| zs <| zw rfl rfl <| yE rfl rfl (.of (.t0 .rf)) (r8at_P _ _ _ _ (by assumption) (by assumption)) fun x24 _ => zc rfl <| zc rfl <| zd <| zq <| zb <| zs <| zc rfl <| zd ?_
         refine zi rfl (fun h2 => ?_) (fun h2 => ?_)
         refine zs <| zc rfl <| zd <| zr <| blockQ_r <| seqQ_r ?_
         rotate_left
         refine zs <| zw rfl rfl <| yD rfl rfl (.of (.t0 .rf)) (r8left_P _ _ _ _) <| zc rfl <| zn rfl (fun h3 => ?_) (fun h3 => ?_)
         refine zw rfl rfl <| yF rfl (by assumption) <| yD rfl rfl (.of (.t0 .rf)) (r8right_P _ _ _ _) <| yF rfl (by assumption) <| zc rfl <| zy (.pickFp rfl (by assumption) rfl) <| zd <| zi rfl (fun h4 => ?_) (fun h4 => ?_)
         refine zs <| zc rfl <| zd <| zr <| blockQ_r <| seqQ_r ?_
         rotate_left
         refine zs <| zw rfl rfl <| yD rfl rfl (.of .rf) (r8owner_fn _ _) <| zy (.cneF rfl rfl (by omega)) <| zd <| zu rfl <| zk <| zs <| zw rfl rfl <| zw rfl rfl <| zw rfl rfl <| zw rfl rfl ?_
         refine zg rfl <| yD rfl rfl (.of (.t5 (.t0 .rf))) (hS _) <| zc rfl <| zd <| zr ?_
         rotate_left
         refine yFs rfl (by assumption) <| yFs rfl (by assumption) <| zy (.pickTp rfl (by assumption) rfl) <| zd <| zt rfl <| zs <| zc rfl <| zd <| zr <| blockQ_r <| seqQ_r ?_
         rotate_left
        all_goals (try (repeat (first | rw [if_pos (by (first | assumption | omega | grind))] | rw [if_neg (by (first | assumption | omega | grind))])))
        focus
         refine yR (.t rfl .nil) rfl (.of (.t0 (.d (.d (.d (.d (.d .rf)))))))
        focus
         refine yR (.t rfl .nil) rfl (.of (.t0 (.d (.d (.d (.d (.d .rf)))))))
        focus
         refine yR (.t rfl .nil) rfl (.of (.t0 (.d (.d (.d (.d .rf))))))
        focus
         refine yR (.t rfl .nil) rfl (.of (.t0 (.d (.d (.d (.d (.d .rf)))))))
      · have hc : ckE o = 70 := if_neg ho
        simp only [hc]
        focus
         refine zs <| yB rfl fun b6 => yB rfl fun b7 => yB rfl fun b8 => yB rfl fun b9 => zc rfl <| yD rfl rfl (.of (.t5 .rf)) (r8end_P _ _ _ (by assumption)) <| yF rfl (by assumption) <| zw rfl rfl <| yF rfl (by assumption) <| yD rfl rfl (.of (.t0 .rf)) (r8May_P _ _ _ _ (by assumption) (by assumption)) <| yF rfl (by assumption) ?_
         refine zc rfl <| zy (.pickFp rfl (by assumption) rfl) <| zd <| zq <| zi rfl (fun h1 => ?_) (fun h1 => ?_)
         contradiction
         refine zk <| zs <| zw rfl rfl <| yE rfl rfl (.of (.t0 .rf)) (r8at_P _ _ _ _ (by assumption) (by assumption)) fun x24 _ => zc rfl <| zc rfl <| zd <| zq <| zb <| zs <| zc rfl <| zd ?_
         refine zi rfl (fun h2 => ?_) (fun h2 => ?_)
         refine zs <| zc rfl <| zd <| zr <| blockQ_r <| seqQ_r ?_
         rotate_left
         refine zs <| zw rfl rfl <| yD rfl rfl (.of (.t0 .rf)) (r8left_P _ _ _ _) <| zc rfl <| zn rfl (fun h3 => ?_) (fun h3 => ?_)
         refine zw rfl rfl <| yF rfl (by assumption) <| yD rfl rfl (.of (.t0 .rf)) (r8right_P _ _ _ _) <| yF rfl (by assumption) <| zc rfl <| zy (.pickFp rfl (by assumption) rfl) <| zd <| zi rfl (fun h4 => ?_) (fun h4 => ?_)
         refine zs <| zc rfl <| zd <| zr <| blockQ_r <| seqQ_r ?_
         rotate_left
         refine zs <| zw rfl rfl <| yD rfl rfl (.of .rf) (r8owner_fn _ _) <| zy (.cneT rfl rfl (by omega)) <| zd <| zt rfl <| zs <| zc rfl <| zd <| zr <| blockQ_r <| seqQ_r ?_
         rotate_left
         refine yFs rfl (by assumption) <| yFs rfl (by assumption) <| zy (.pickTp rfl (by assumption) rfl) <| zd <| zt rfl <| zs <| zc rfl <| zd <| zr <| blockQ_r <| seqQ_r ?_
         rotate_left
        all_goals (try (repeat (first | rw [if_pos (by (first | assumption | omega | grind))] | rw [if_neg (by (first | assumption | omega | grind))])))
        focus
         refine yR (.t rfl .nil) rfl (.of (.t0 (.d (.d (.d (.d (.d .rf)))))))
        focus
         refine yR (.t rfl .nil) rfl (.of (.t0 (.d (.d (.d (.d (.d .rf)))))))
        focus
         refine yR (.t rfl .nil) rfl (.of (.t0 (.d (.d (.d (.d (.d .rf)))))))
        focus
         refine yR (.t rfl .nil) rfl (.of (.t0 (.d (.d (.d (.d (.d .rf)))))))
    · focus
       refine zs <| yB rfl fun b6 => yB rfl fun b7 => yB rfl fun b8 => yB rfl fun b9 => zc rfl <| yD rfl rfl (.of (.t4 .rf)) (r8end_P _ _ _ (by assumption)) <| yF rfl (by assumption) <| zw rfl rfl <| yF rfl (by assumption) <| yD rfl rfl (.of (.t0 .rf)) (r8May_P _ _ _ _ (by assumption) (by assumption)) <| yF rfl (by assumption) ?_
       refine zc rfl <| zy (.pickFp rfl (by assumption) rfl) <| zd <| zq <| zi rfl (fun h1 => ?_) (fun h1 => ?_)
       refine zs <| zc rfl <| zd <| zr <| seqQ_r ?_
       rotate_left
       contradiction
      all_goals (repeat (first | rw [if_pos (by (first | assumption | omega | grind))] | rw [if_neg (by (first | assumption | omega | grind))]))
      focus
       refine yR (.t rfl .nil) rfl (.of (.t0 (.d (.d (.d (.d .rf))))))
theorem r8Left_fn (b : Nat) (l : LK) (w : Vec) (x : Ref) (F : List Assn) (h : RGood l) (hb : 0 ≤ w.bits) : Meets Tryz.prog 92 [ptr b, vv w, rv x] (RfP b l :: F) (Det (i64 (l.left w x).2) (RfP b (l.left w x).1 :: F)) := by
  refine Meets.intro b92 k92 (by simp) ?_
  have hn := h.len
  have hl := touch_len l w
  unfold LK.left
  cases hr : l.rec? w with
  | none =>
    simp only
    focus
     refine zs <| yB rfl fun b4 => yB rfl fun b5 => zc rfl <| zw rfl rfl <| yE rfl rfl (.of (.t2 .rf)) (r8Get_no _ _ _ _ (by assumption) (by assumption) (by assumption)) fun ⟨a12, c12⟩ _ => zc rfl <| zc rfl <| yN fun b7 => yW rfl rfl rfl rfl rfl <| zc rfl <| zd ?_
     refine zq <| zb <| zs <| zc rfl <| zd <| zt rfl <| zs <| zc rfl <| zd <| zr <| yR (.t rfl .nil) rfl (.of (.t1 (.d (.d (.d .rf)))))
  | some a =>
    have hw := (h.srt.at_ hr hb).g
    have hS : ∀ a0 c0 F, Meets Tryz.prog 153 [ptr b, rsv (({ a with left := x } : RecA).state w) a0 c0] (SlT false ownerC 2 (.slice a0 a.lk.w.length c0) c0 a.lk.w :: RfP b (l.touch w) :: F) (Det (.tuple #[]) (RfP b ((l.touch w).upd w { a with left := x }) :: F)) := fun a0 c0 F => r8set_fn b (l.touch w) a0 c0 { a with left := x } w F hw (by omega)
    simp only
    by_cases c : l.toLeft x
    · rw [if_pos c]
      focus
       refine zs <| yB rfl fun b4 => yB rfl fun b5 => zc rfl <| zw rfl rfl <| yE rfl rfl (.of (.t2 .rf)) (r8Get_in _ _ _ _ (by assumption) (by assumption) _ (by first | assumption | omega | decide | exact rfl)) fun ⟨a12, c12⟩ _ => ?_
       refine zc rfl <| zc rfl <| yN fun b7 => yW rfl rfl rfl rfl rfl <| zc rfl <| zd <| zq <| zb <| zs <| zc rfl <| zd <| zu rfl ?_
       refine zs <| zw rfl rfl <| yD rfl rfl (.of (.t2 .rf)) (r8left_P _ _ _ _) <| zc rfl <| zd <| zi rfl (fun h1 => ?_) (fun h1 => ?_)
       contradiction
       refine zk <| zs <| zw rfl rfl <| zf 2 rfl rfl <| yS (us := [_, _, _, _, _]) rfl rfl rfl rfl rfl (Nat.le_of_ble_eq_true rfl) (by simp only [lput]; rfl) <| zw rfl rfl <| yD rfl rfl (.of (.t2 (.t1 .rf))) (hS _ _ _) <| zc rfl <| zd <| zr <| yR (.t rfl .nil) rfl (.of (.t0 (.d (.d (.d .rf)))))
    · rw [if_neg c]
      focus
       refine zs <| yB rfl fun b4 => yB rfl fun b5 => zc rfl <| zw rfl rfl <| yE rfl rfl (.of (.t2 .rf)) (r8Get_in _ _ _ _ (by assumption) (by assumption) _ (by first | assumption | omega | decide | exact rfl)) fun ⟨a12, c12⟩ _ => ?_
       refine zc rfl <| zc rfl <| yN fun b7 => yW rfl rfl rfl rfl rfl <| zc rfl <| zd <| zq <| zb <| zs <| zc rfl <| zd <| zu rfl ?_
       refine zs <| zw rfl rfl <| yD rfl rfl (.of (.t2 .rf)) (r8left_P _ _ _ _) <| zc rfl <| zd <| zi rfl (fun h1 => ?_) (fun h1 => ?_)
       refine zs <| zc rfl <| zd <| zr <| yR (.t rfl .nil) rfl (.of (.t0 (.d (.d (.d (.d .rf))))))
       contradiction
theorem r8Right_fn (b : Nat) (l : LK) (w : Vec) (x : Ref) (o : Owner) (F : List Assn) (h : RGood l) (hb : 0 ≤ w.bits) : Meets Tryz.prog 93 [ptr b, vv w, rv x, ov o] (RfP b l :: F) (Det (i64 (l.right w x o).2) (RfP b (l.right w x o).1 :: F)) := by
  refine Meets.intro b93 k93 (by simp) ?_
  have hn := h.len
  have hl := touch_len l w
  unfold LK.right
  cases hr : l.rec? w with
  | none =>
    have e : l.ownE w o true = 82 := by unfold LK.ownE; rw [hr]
    simp only [e]
    focus
     refine zs <| yB rfl fun b5 => yB rfl fun b6 => yB rfl fun b7 => zc rfl <| zw rfl rfl <| yE rfl rfl (.of (.t3 .rf)) (r8Get_no _ _ _ _ (by assumption) (by assumption) (by assumption)) fun ⟨a15, c15⟩ _ => zc rfl <| zc rfl <| yN fun b9 => yW rfl rfl rfl rfl rfl <| zc rfl ?_
     refine zd <| zq <| zt rfl <| zs <| zc rfl <| zd <| zr <| yR (.t rfl .nil) rfl (.of (.t1 (.d (.d (.d (.d .rf))))))
  | some a =>
    have hw := (h.srt.at_ hr hb).g
    have hS : ∀ a0 c0 F, Meets Tryz.prog 153 [ptr b, rsv (({ a with right := x } : RecA).state w) a0 c0] (SlT false ownerC 2 (.slice a0 a.lk.w.length c0) c0 a.lk.w :: RfP b (l.touch w) :: F) (Det (.tuple #[]) (RfP b ((l.touch w).upd w { a with right := x }) :: F)) := fun a0 c0 F => r8set_fn b (l.touch w) a0 c0 { a with right := x } w F hw (by omega)
    have e := hld_own hr (o := o) (e := true) (.inl rfl)
    simp only [e]
    by_cases hz : hldE (a.state w) o = 0
    · rw [if_neg (by simp [hz])]
      by_cases c : l.toRight x
      · rw [if_pos c]
        focus
         refine zs <| yB rfl fun b5 => yB rfl fun b6 => yB rfl fun b7 => zc rfl <| zw rfl rfl <| yE rfl rfl (.of (.t3 .rf)) (r8Get_in _ _ _ _ (by assumption) (by assumption) _ (by first | assumption | omega | decide | exact rfl)) fun ⟨a15, c15⟩ _ => ?_
         refine zc rfl <| zc rfl <| yN fun b9 => yW rfl rfl rfl rfl rfl <| zc rfl <| zd <| zq <| zu rfl <| zk <| zs <| zw rfl rfl <| zw rfl rfl ?_
         refine yD rfl rfl (.of .rf) (r8held_fn _ _ _ _ _) <| zy (.cneF rfl rfl (by omega)) <| zd <| zq <| zu rfl <| zk <| zs <| zw rfl rfl <| yD rfl rfl (.of (.t2 .rf)) (r8right_P _ _ _ _) <| zc rfl <| zd <| zq ?_
         refine zi rfl (fun h1 => ?_) (fun h1 => ?_)
         contradiction
         refine zk <| zs <| zw rfl rfl <| zf 7 rfl rfl <| yS (us := [_, _, _, _, _]) rfl rfl rfl rfl rfl (Nat.le_of_ble_eq_true rfl) (by simp only [lput]; rfl) <| zw rfl rfl <| yD rfl rfl (.of (.t2 (.t1 .rf))) (hS _ _ _) <| zc rfl <| zd <| zr <| yR (.t rfl .nil) rfl (.of (.t0 (.d (.d (.d (.d .rf))))))
      · rw [if_neg c]
        focus
         refine zs <| yB rfl fun b5 => yB rfl fun b6 => yB rfl fun b7 => zc rfl <| zw rfl rfl <| yE rfl rfl (.of (.t3 .rf)) (r8Get_in _ _ _ _ (by assumption) (by assumption) _ (by first | assumption | omega | decide | exact rfl)) fun ⟨a15, c15⟩ _ => ?_
         refine zc rfl <| zc rfl <| yN fun b9 => yW rfl rfl rfl rfl rfl <| zc rfl <| zd <| zq <| zu rfl <| zk <| zs <| zw rfl rfl <| zw rfl rfl ?_
         refine yD rfl rfl (.of .rf) (r8held_fn _ _ _ _ _) <| zy (.cneF rfl rfl (by omega)) <| zd <| zq <| zu rfl <| zk <| zs <| zw rfl rfl <| yD rfl rfl (.of (.t2 .rf)) (r8right_P _ _ _ _) <| zc rfl <| zd <| zq ?_
         refine zi rfl (fun h1 => ?_) (fun h1 => ?_)
         refine zs <| zc rfl <| zd <| zr <| yR (.t rfl .nil) rfl (.of (.t0 (.d (.d (.d (.d (.d .rf)))))))
         contradiction
    · rw [if_pos hz]
      focus
       refine zs <| yB rfl fun b5 => yB rfl fun b6 => yB rfl fun b7 => zc rfl <| zw rfl rfl <| yE rfl rfl (.of (.t3 .rf)) (r8Get_in _ _ _ _ (by assumption) (by assumption) _ (by first | assumption | omega | decide | exact rfl)) fun ⟨a15, c15⟩ _ => ?_
       refine zc rfl <| zc rfl <| yN fun b9 => yW rfl rfl rfl rfl rfl <| zc rfl <| zd <| zq <| zu rfl <| zk <| zs <| zw rfl rfl <| zw rfl rfl ?_
       refine yD rfl rfl (.of .rf) (r8held_fn _ _ _ _ _) <| zy (.cneT rfl rfl (by omega)) <| zd <| zq <| zt rfl <| zs <| zc rfl <| zd <| zr <| yR (.t rfl .nil) rfl (.of (.t2 (.d (.d (.d (.d (.d .rf)))))))
theorem r8Lock_fn (b : Nat) (l : LK) (w : Vec) (o : Owner) (F : List Assn) (h : RGood l) (hb : 0 ≤ w.bits) : Meets Tryz.prog 94 [ptr b, vv w, ov o] (RfP b l :: F) (Det (.tuple #[.bool (l.lock w o).2.1, i64 (l.lock w o).2.2]) (RfP b (l.lock w o).1 :: F)) := by
  refine Meets.intro b94 k94 (by simp) ?_
  have hn := h.len
  have hl := touch_len l w
  unfold LK.lock
  cases hr : l.rec? w with
  | none =>
    simp only
    focus
     refine zs <| yB rfl fun b4 => yB rfl fun b5 => zc rfl <| zc rfl <| zw rfl rfl <| yE rfl rfl (.of (.t2 .rf)) (r8Get_no _ _ _ _ (by assumption) (by assumption) (by assumption)) fun ⟨a16, c16⟩ _ => zc rfl <| zc rfl <| yN fun b8 => yW rfl rfl rfl rfl rfl <| zc rfl ?_
     refine zd <| zq <| zt rfl <| zs <| zc rfl <| zc rfl <| zd <| zr <| yR (.t rfl (.t rfl .nil)) rfl (.of (.t1 (.d (.d (.d .rf)))))
  | some a =>
    have hw := (h.srt.at_ hr hb).g
    have hS : ∀ a0 c0 F, Meets Tryz.prog 153 [ptr b, rsv (({ a with lk := (a.lk.ask o).1 } : RecA).state w) a0 c0] (SlT false ownerC 2 (.slice a0 (a.lk.ask o).1.w.length c0) c0 (a.lk.ask o).1.w :: RfP b (l.touch w) :: F) (Det (.tuple #[]) (RfP b ((l.touch w).upd w { a with lk := (a.lk.ask o).1 }) :: F)) := fun a0 c0 F => r8set_fn b (l.touch w) a0 c0 { a with lk := (a.lk.ask o).1 } w F hw (by omega)
    have hL : ∀ a0 c0 F, Meets Tryz.prog 155 [rsv (a.state w) a0 c0] (SlT false ownerC 2 (.slice a0 a.lk.w.length c0) c0 a.lk.w :: F) (Some' (fun _ : Nat => True) (fun p => ptr p) (fun p => RlockP p a.lk :: F)) := fun a0 c0 F => r8lock_fn a0 c0 (a.state w) F
    have hB : ∀ a0 c0 k F, Meets Tryz.prog 157 [rsv (a.state w) a0 c0, ptr k] (RlockP k (a.lk.ask o).1 :: F)
      (Some' (fun _ : Option Addr × Nat => True) (fun x => rsv (({ a with lk := (a.lk.ask o).1 } : RecA).state w) x.1 x.2) (fun x => SlT false ownerC 2 (.slice x.1 (a.lk.ask o).1.w.length x.2) x.2 (a.lk.ask o).1.w :: RlockP k (a.lk.ask o).1 :: F)) := fun a0 c0 k F => r8back_fn (a.state w) a0 c0 k _ F
    simp only
    focus
     refine zs <| yB rfl fun b4 => yB rfl fun b5 => zc rfl <| zc rfl <| zw rfl rfl <| yE rfl rfl (.of (.t2 .rf)) (r8Get_in _ _ _ _ (by assumption) (by assumption) _ (by first | assumption | omega | decide | exact rfl)) fun ⟨a16, c16⟩ _ => ?_
     refine zc rfl <| zc rfl <| yN fun b8 => yW rfl rfl rfl rfl rfl <| zc rfl <| zd <| zq <| zu rfl <| zk <| zs <| zw rfl rfl <| yE rfl rfl (.of (.t1 .rf)) (hL _ _ _) fun x22 _ => ?_
     refine zw rfl rfl <| yD rfl rfl (.of (.t0 .rf)) (r7Ask_fn _ _ _ _) <| zc rfl <| zc rfl <| zw rfl rfl <| yE rfl rfl (.of (.t0 .rf)) (hB _ _ _ _) fun ⟨a32, c32⟩ _ => yD rfl rfl (.of (.t0 (.t2 .rf))) (hS _ _ _) <| zc rfl <| zc rfl <| zd <| zr <| yR (.t rfl (.t rfl .nil)) rfl (.of (.t0 (.d (.d (.d (.d .rf))))))
theorem r8Free_fn (b : Nat) (l : LK) (w : Vec) (o : Owner) (F : List Assn) (h : RGood l) (hb : 0 ≤ w.bits) : Meets Tryz.prog 96 [ptr b, vv w, ov o] (RfP b l :: F) (Det (.tuple #[ov (l.free w o).2.1, .bool (l.free w o).2.2.1, i64 (l.free w o).2.2.2]) (RfP b (l.free w o).1 :: F)) := by
  refine Meets.intro b96 k96 (by simp) ?_
  have hn := h.len
  have hl := touch_len l w
  unfold LK.free
  cases hr : l.rec? w with
  | none =>
    simp only
    focus
     refine zs <| yB rfl fun b4 => yB rfl fun b5 => yN fun b6 => zc rfl <| zc rfl <| zw rfl rfl <| yE rfl rfl (.of (.t3 .rf)) (r8Get_no _ _ _ _ (by assumption) (by assumption) (by assumption)) fun ⟨a18, c18⟩ _ => zc rfl <| zc rfl <| yN fun b9 => yW rfl rfl rfl rfl rfl ?_
     refine zc rfl <| zd <| zq <| zt rfl <| zs <| zg rfl <| yW rfl rfl rfl rfl rfl <| zc rfl <| zc rfl <| zd <| zr <| yR (.w rfl rfl (.t rfl (.t rfl .nil))) rfl (.of (.t2 (.d (.d (.d (.d .rf))))))
  | some a =>
    have hw := (h.srt.at_ hr hb).g
    have hlk := Nat.le_trans (h.inv.at_ hr).le (by decide : 64 ≤ 8388608)
    have hS : ∀ a0 c0 F, Meets Tryz.prog 153 [ptr b, rsv (({ a with lk := (a.lk.free o).1 } : RecA).state w) a0 c0] (SlT false ownerC 2 (.slice a0 (a.lk.free o).1.w.length c0) c0 (a.lk.free o).1.w :: RfP b (l.touch w) :: F) (Det (.tuple #[]) (RfP b ((l.touch w).upd w { a with lk := (a.lk.free o).1 }) :: F)) := fun a0 c0 F => r8set_fn b (l.touch w) a0 c0 { a with lk := (a.lk.free o).1 } w F hw (by omega)
    have hL : ∀ a0 c0 F, Meets Tryz.prog 155 [rsv (a.state w) a0 c0] (SlT false ownerC 2 (.slice a0 a.lk.w.length c0) c0 a.lk.w :: F) (Some' (fun _ : Nat => True) (fun p => ptr p) (fun p => RlockP p a.lk :: F)) := fun a0 c0 F => r8lock_fn a0 c0 (a.state w) F
    have hB : ∀ a0 c0 k F, Meets Tryz.prog 157 [rsv (a.state w) a0 c0, ptr k] (RlockP k (a.lk.free o).1 :: F)
      (Some' (fun _ : Option Addr × Nat => True) (fun x => rsv (({ a with lk := (a.lk.free o).1 } : RecA).state w) x.1 x.2) (fun x => SlT false ownerC 2 (.slice x.1 (a.lk.free o).1.w.length x.2) x.2 (a.lk.free o).1.w :: RlockP k (a.lk.free o).1 :: F)) := fun a0 c0 k F => r8back_fn (a.state w) a0 c0 k _ F
    simp only
    focus
     refine zs <| yB rfl fun b4 => yB rfl fun b5 => yN fun b6 => zc rfl <| zc rfl <| zw rfl rfl <| yE rfl rfl (.of (.t3 .rf)) (r8Get_in _ _ _ _ (by assumption) (by assumption) _ (by first | assumption | omega | decide | exact rfl)) fun ⟨a18, c18⟩ _ => ?_
     refine zc rfl <| zc rfl <| yN fun b9 => yW rfl rfl rfl rfl rfl <| zc rfl <| zd <| zq <| zu rfl <| zk <| zs <| zw rfl rfl <| yE rfl rfl (.of (.t1 .rf)) (hL _ _ _) fun x25 _ => ?_
     refine zw rfl rfl <| yD rfl rfl (.of (.t0 .rf)) (r7Free_fn _ _ _ _ (by assumption)) <| zc rfl <| zc rfl <| zc rfl <| yN fun b12 => yW rfl rfl rfl rfl rfl <| zw rfl rfl <| yE rfl rfl (.of (.t1 .rf)) (hB _ _ _ _) fun ⟨a36, c36⟩ _ => yD rfl rfl (.of (.t0 (.t3 .rf))) (hS _ _ _) <| zw rfl rfl <| yW rfl rfl rfl rfl rfl ?_
     refine zc rfl <| zc rfl <| zd <| zr <| yR (.w rfl rfl (.t rfl (.t rfl .nil))) rfl (.of (.t1 (.d (.d (.d (.d (.d (.d .rf))))))))
end Go.Proofs.YtnipmjpdklbbcaaGreat
