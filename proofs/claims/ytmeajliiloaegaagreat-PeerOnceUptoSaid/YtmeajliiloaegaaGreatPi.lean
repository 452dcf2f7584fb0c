/- Layer 9: a peer: a lock is given back; it is out of a list; it has joined. Conditions: none. -/
import Derived.Test.YtmeajliiloaegaaGreatPh
import Derived.Test.YtmeajliiloaegaaGreatKc
import Derived.Test.YtmeajliiloaegaaGreatTb
set_option linter.unusedSimpArgs false
set_option linter.unusedVariables false
set_option maxRecDepth 100000
set_option maxHeartbeats 4000000
namespace Go.SL
open Go
theorem Meets.inSep {P : Program} {f : Nat} {args : List Value} {v : Value} {A B cs F : List Assn} (h : Meets P f args (A ++ (cs ++ F)) (Det v (B ++ (cs ++ F)))) : Meets P f args (A ++ (sep cs :: F)) (Det v (B ++ (sep cs :: F))) := by
  have e : ∀ A : List Assn, Imp (A ++ (sep cs :: F)) (A ++ (cs ++ F)) := fun A => by
    induction A with
    | nil => exact Imp.sep_out
    | cons a A ih => exact Imp.cons ih
  have e2 : ∀ A : List Assn, Imp (A ++ (cs ++ F)) (A ++ (sep cs :: F)) := fun A => by
    induction A with
    | nil => exact (show Imp (cs ++ F) (sep cs :: F) from Imp.sep_in)
    | cons a A ih => exact Imp.cons ih
  refine (Meets.up (Up.of (e A)) h).post ?_
  rintro v' c ⟨rfl, rfl⟩
  exact ⟨_, Up.of (e2 B), rfl, rfl⟩
theorem Meets.outSep {P : Program} {f : Nat} {args : List Value} {v : Value} {A B cs F : List Assn} (h : Meets P f args (A ++ (sep cs :: F)) (Det v (B ++ (sep cs :: F)))) : Meets P f args (A ++ (cs ++ F)) (Det v (B ++ (cs ++ F))) := by
  have e : ∀ A : List Assn, Imp (A ++ (sep cs :: F)) (A ++ (cs ++ F)) := fun A => by
    induction A with
    | nil => exact Imp.sep_out
    | cons a A ih => exact Imp.cons ih
  have e2 : ∀ A : List Assn, Imp (A ++ (cs ++ F)) (A ++ (sep cs :: F)) := fun A => by
    induction A with
    | nil => exact (show Imp (cs ++ F) (sep cs :: F) from Imp.sep_in)
    | cons a A ih => exact Imp.cons ih
  refine (Meets.up (Up.of (e2 A)) h).post ?_
  rintro v' c ⟨rfl, rfl⟩
  exact ⟨_, Up.of (e B), rfl, rfl⟩
theorem Pe.read_waits (P : Pe) (t : Int) (w : Vec) : (P.read t w).waits = P.waits := rfl
end Go.SL
namespace Go.Proofs.YtmeajliiloaegaaGreat
open Go Go.SL
attribute [local irreducible] pc rc SlT Me Mt It pt ro pur ex sep old Meets
attribute [local irreducible] LockP RecP RecsA LinksP LinksH RdA PeW
theorem peFree1_fn (x : WaitE) (a : SL.Ask) (o : SL.Owner) (b5 b6 T5 T6 : Nat) (F : List Assn) : Meets Tryz.prog 56 [wtv x, ptr b5, ptr b6] (pc b5 T5 (askC a) :: pc b6 T6 (ownerC o) :: F) (Det (.bool (!x.mark && (decide (x.w = a.w) && decide (x.o = o)))) (pc b5 T5 (askC a) :: pc b6 T6 (ownerC o) :: F)) := by
  refine Meets.intro b56 k56 (by simp) ?_
  cases hm : x.mark
  focus
   refine zs <| yB rfl fun b3 => zc rfl <| zfl rfl rfl rfl <| zc rfl <| yT rfl (by assumption) <| zf 2 rfl rfl <| yT rfl (by assumption) <| zy (.Lf rfl (Nat.le_of_ble_eq_true rfl)) <| yT rfl (by assumption) <| zf 1 rfl rfl <| yT rfl (by assumption) ?_
   refine zy (.Lf rfl (Nat.le_of_ble_eq_true rfl)) <| yT rfl (by assumption) <| zy (.eqT rfl rfl) <| zy (.pickTp rfl (by assumption) rfl) <| zp rfl (fun h1 => ?_) (fun h1 => ?_)
   refine zf 4 rfl rfl <| yT rfl (by assumption) <| zy (.Lf rfl (Nat.le_of_ble_eq_true rfl)) <| yT rfl (by assumption) <| zw rfl rfl <| yT rfl (by assumption) ?_
   refine zy (.eqT rfl rfl) <| zy (.pickTp rfl (by assumption) rfl) <| zd <| zr <| yR (.t rfl .nil) ?_ (.of (.t1 (.t1 (.d .rf))))
   rotate_left
   refine yTs rfl (by assumption) <| yTs rfl (by assumption) <| yTs rfl (by assumption) <| zy (.pickFp rfl (by assumption) rfl) <| zd <| zr <| yR (.t rfl .nil) ?_ (.of (.t1 (.t1 (.d .rf))))
   rotate_left
  rotate_left 2
  focus
   refine zs <| yB rfl fun b3 => zc rfl <| zfl rfl rfl rfl <| zc rfl <| yTs rfl (by assumption) <| yTs rfl (by assumption) <| yTs rfl (by assumption) <| yTs rfl (by assumption) <| yTs rfl (by assumption) <| zy (.pickFp rfl (by assumption) rfl) <| zv rfl rfl ?_
   refine zv rfl rfl <| zv rfl rfl <| zv rfl rfl <| zy (.pickF rfl rfl) <| zd <| zr <| yR (.t rfl .nil) rfl (.of (.t1 (.t1 (.d .rf))))
  all_goals (simp only [mkRet]; simp [*])
theorem peRead_W (b : Nat) (P : Pe) (wa : Option Addr) (wc : Nat) (x : WaitE) (b3 T3 : Nat) (F : List Assn) (hI : P.lk.Inv) (hl : P.rd.length ≤ 100000) : Meets Tryz.prog 57 [wtv x, ptr b3] (PeW b P wa wc :: pc b3 T3 [ptr b] :: F) (Det (.tuple #[]) (PeW b (P.read x.ticket x.w) wa wc :: pc b3 T3 [ptr b] :: F)) := by
  refine Meets.intro b57 k57 (by simp) ?_
  have h3 := fun F => peRecord_W b P wa wc x.w F hI
  refine J.nilS byteC 1 false (by decide) ?_
  unfold Pe.read
  cases hg : P.lk.getB x.w with
  | true =>
    rw [Pe.recd_in hg] at h3 ⊢
    have h4 := fun F => peTell_W b (P.touch x.w) wa wc x.ticket ⟨⟨1, P.marked, (P.lk.getS x.w).left, (P.lk.getS x.w).right, []⟩, none, 0⟩ F hl
    focus
     refine zo <| yB rfl fun b2 => zl rfl rfl <| zf 0 rfl rfl <| zl rfl rfl <| zl rfl rfl <| zfw [_, _] rfl rfl rfl rfl <| yD rfl rfl (.of (.t2 .rf)) (h3 _) <| JT.yA rfl (Ev.L rfl rfl) <| JT.yA rfl (Ev.L rfl rfl) <| yD rfl rfl (.of (.t0 (.t1 .rf))) (h4 _) <| zd ?_
    all_goals exact retQD .nil rfl (.of (.t0 (.t1 (.d .rf))))
  | false =>
    rw [Pe.recd_no hg] at h3 ⊢
    have h4 := fun F => peTell_W b (P.touch x.w) wa wc x.ticket ⟨plainA 2, none, 0⟩ F hl
    focus
     refine zo <| yB rfl fun b2 => zl rfl rfl <| zf 0 rfl rfl <| zl rfl rfl <| zl rfl rfl <| zfw [_, _] rfl rfl rfl rfl <| yD rfl rfl (.of (.t2 .rf)) (h3 _) <| JT.yA rfl (Ev.L rfl rfl) <| JT.yA rfl (Ev.L rfl rfl) <| yD rfl rfl (.of (.t0 (.t1 .rf))) (h4 _) <| zd ?_
    all_goals exact retQD .nil rfl (.of (.t0 (.t1 (.d .rf))))
theorem peOut1_fn (x : WaitE) (a : SL.Ask) (b5 T5 : Nat) (F : List Assn) : Meets Tryz.prog 69 [wtv x, ptr b5] (pc b5 T5 (askC a) :: F) (Det (.bool (!x.mark && decide (x.w = a.w))) (pc b5 T5 (askC a) :: F)) := by
  refine Meets.intro b69 k69 (by simp) ?_
  cases hm : x.mark
  focus
   refine zs <| yB rfl fun b2 => zc rfl <| zfl rfl rfl rfl <| zc rfl <| yT rfl (by assumption) <| zf 2 rfl rfl <| yT rfl (by assumption) <| zy (.Lf rfl (Nat.le_of_ble_eq_true rfl)) <| yT rfl (by assumption) <| zf 1 rfl rfl <| yT rfl (by assumption) ?_
   refine zy (.Lf rfl (Nat.le_of_ble_eq_true rfl)) <| yT rfl (by assumption) <| zy (.eqT rfl rfl) <| zy (.pickTp rfl (by assumption) rfl) <| zd <| zr <| yR (.t rfl .nil) rfl (.of (.t1 (.d .rf)))
  focus
   refine zs <| yB rfl fun b2 => zc rfl <| zfl rfl rfl rfl <| zc rfl <| yTs rfl (by assumption) <| yTs rfl (by assumption) <| yTs rfl (by assumption) <| yTs rfl (by assumption) <| yTs rfl (by assumption) <| zy (.pickFp rfl (by assumption) rfl) <| zd ?_
   refine zr <| yR (.t rfl .nil) rfl (.of (.t1 (.d .rf)))
  all_goals (simp only [mkRet]; simp [*])
theorem peOut2_W (b : Nat) (P : Pe) (wa : Option Addr) (wc : Nat) (x : WaitE) (b3 T3 : Nat) (F : List Assn) (hl : P.rd.length ≤ 100000) : Meets Tryz.prog 70 [wtv x, ptr b3] (PeW b P wa wc :: pc b3 T3 [ptr b] :: F) (Det (.tuple #[]) (PeW b (P.plain x.ticket 2) wa wc :: pc b3 T3 [ptr b] :: F)) := by
  refine Meets.intro b70 k70 (by simp) ?_
  have h4 := fun F => pePlain_W b P wa wc x.ticket 2 F hl
  focus
   refine zo <| yB rfl fun b2 => zl rfl rfl <| zfl rfl rfl rfl <| yD rfl rfl (.of (.t1 .rf)) (h4 _) <| zd ?_
  all_goals exact retQD .nil rfl (.of (.t0 (.t1 (.d .rf))))
theorem peJoin1_fn (x : WaitE) (F : List Assn) : Meets Tryz.prog 72 [wtv x] F (Det (.bool x.mark) F) := by
  refine Meets.intro b72 k72 (by simp) ?_
  focus
   refine zs <| yB rfl fun b1 => zc rfl <| zfl rfl rfl rfl <| zd <| zr <| yR (.t rfl .nil) rfl (.of (.d .rf))
theorem peJoin2_W (b : Nat) (P : Pe) (wa : Option Addr) (wc : Nat) (x : WaitE) (b3 T3 : Nat) (F : List Assn) (hl : P.rd.length ≤ 100000) (hj : P.joined = true) (hv : P.value.length ≤ 1048576) : Meets Tryz.prog 73 [wtv x, ptr b3] (PeW b P wa wc :: pc b3 T3 [ptr b] :: F) (Det (.tuple #[]) (PeW b (P.mark x.ticket) wa wc :: pc b3 T3 [ptr b] :: F)) := by
  refine Meets.intro b73 k73 (by simp) ?_
  have h4 : ∀ F, Meets Tryz.prog 36 [ptr b, i64 x.ticket] (PeW b P wa wc :: F) (Det (.tuple #[]) (PeW b (P.mark x.ticket) wa wc :: F)) := fun F => by
    by_cases h : P.isEnd ∨ P.marked = true
    · exact peMark_no b P wa wc x.ticket F hl h
    · exact peMark_now b P wa wc x.ticket F hl (fun h' => h (.inl h')) (by simpa using fun h' => h (.inr h')) hj hv
  focus
   refine zo <| yB rfl fun b2 => zl rfl rfl <| zfl rfl rfl rfl <| yD rfl rfl (.of (.t1 .rf)) (h4 _) <| zd ?_
  all_goals exact retQD .nil rfl (.of (.t0 (.t1 (.d .rf))))
theorem peServed_free (b : Nat) (P : Pe) (wa : Option Addr) (wc : Nat) (a : SL.Ask) (o : SL.Owner) (b3 b5 b6 T3 T5 T6 : Nat) (F : List Assn) (hI : P.lk.Inv) (hl : P.rd.length ≤ 2000) (hw : P.waits.length ≤ 2000) :
    Meets Tryz.prog 55 [ptr b, .func (.func 56) #[] #[ptr b5, ptr b6], .func (.func 57) #[] #[ptr b3]] (PeW b P wa wc :: pc b3 T3 [ptr b] :: pc b5 T5 (askC a) :: pc b6 T6 (ownerC o) :: F)
      (Det (.tuple #[]) (PeP b (P.served (fun x => !x.mark && (decide (x.w = a.w) && decide (x.o = o))) (fun P x => P.read x.ticket x.w)) :: pc b3 T3 [ptr b] :: pc b5 T5 (askC a) :: pc b6 T6 (ownerC o) :: F)) := by
  refine Meets.outSep (A := [_]) (B := [_]) (cs := [pc b3 T3 [ptr b], pc b5 T5 (askC a), pc b6 T6 (ownerC o)]) ?_
  refine peServed_W b P wa wc 56 57 [ptr b5, ptr b6] [ptr b3] _ _ (fun k Q => Q.lk.Inv ∧ Q.rd.length ≤ P.rd.length + k) _ F (fun x F => ?_) (fun k Q x F hk hO _ => ?_) (fun k Q x hO _ => ⟨hO.1.touch _, ?_⟩) (fun k Q hO => ⟨hO.1, by have := hO.2; omega⟩) (fun _ _ _ _ _ => rfl) ⟨hI, by omega⟩ (by omega)
  · refine Meets.inSep (A := []) (B := []) (cs := [_, _, _]) ?_
    refine (Meets.up (Up.of (Imp.take (c := pc b5 T5 (askC a)) (by (repeat (first | exact Has.here | assumption | apply Has.there))) (Imp.take (c := pc b6 T6 (ownerC o)) (by (repeat (first | exact Has.here | assumption | apply Has.there))) (Imp.refl _)))) (peFree1_fn x a o b5 b6 T5 T6 _)).post ?_
    rintro v c ⟨rfl, rfl⟩
    exact ⟨_, Up.of (Imp.take (by (repeat (first | exact Has.here | assumption | apply Has.there))) (Imp.refl _)), rfl, rfl⟩
  · exact Meets.inSep (A := [_]) (B := [_]) (cs := [_, _, _]) (peRead_W b Q wa wc x b3 T3 _ hO.1 (by have := hO.2; omega))
  · have := hO.2
    simp only [Pe.read, Pe.tell, Pe.touch, List.length_append, List.length_cons, List.length_nil]; omega
theorem peServed_out (b : Nat) (P : Pe) (wa : Option Addr) (wc : Nat) (a : SL.Ask) (b3 b5 T3 T5 : Nat) (F : List Assn) (hl : P.rd.length ≤ 2000) (hw : P.waits.length ≤ 2000) :
    Meets Tryz.prog 55 [ptr b, .func (.func 69) #[] #[ptr b5], .func (.func 70) #[] #[ptr b3]] (PeW b P wa wc :: pc b3 T3 [ptr b] :: pc b5 T5 (askC a) :: F)
      (Det (.tuple #[]) (PeP b (P.served (fun x => !x.mark && decide (x.w = a.w)) (fun P x => P.plain x.ticket 2)) :: pc b3 T3 [ptr b] :: pc b5 T5 (askC a) :: F)) := by
  refine Meets.outSep (A := [_]) (B := [_]) (cs := [pc b3 T3 [ptr b], pc b5 T5 (askC a)]) ?_
  refine peServed_W b P wa wc 69 70 [ptr b5] [ptr b3] _ _ (fun k Q => Q.rd.length ≤ P.rd.length + k) _ F (fun x F => ?_) (fun k Q x F hk hO _ => ?_) (fun k Q x hO _ => ?_) (fun k Q hO => by omega) (fun _ _ _ _ _ => rfl) (by omega) (by omega)
  · refine Meets.inSep (A := []) (B := []) (cs := [_, _]) ?_
    refine (Meets.up (Up.of (Imp.take (c := pc b5 T5 (askC a)) (by (repeat (first | exact Has.here | assumption | apply Has.there))) (Imp.refl _))) (peOut1_fn x a b5 T5 _)).post ?_
    rintro v c ⟨rfl, rfl⟩
    exact ⟨_, Up.of (Imp.take (by (repeat (first | exact Has.here | assumption | apply Has.there))) (Imp.refl _)), rfl, rfl⟩
  · exact Meets.inSep (A := [_]) (B := [_]) (cs := [_, _]) (peOut2_W b Q wa wc x b3 T3 _ (by omega))
  · simp only [Pe.plain, Pe.tell, List.length_append, List.length_cons, List.length_nil]; omega
theorem Pe.mark_joined {P : Pe} (t : Int) (h : P.joined = true) : (P.mark t).waits = P.waits ∧ (P.mark t).joined = true ∧ (P.mark t).rd.length = P.rd.length + 1 ∧ (P.mark t).value = P.value := by
  unfold Pe.mark
  split
  · exact ⟨rfl, h, by simp [Pe.plain, Pe.tell], rfl⟩
  · rw [if_neg (by rw [h]; decide)]
    exact ⟨rfl, h, by simp [Pe.tell], rfl⟩
theorem peServed_join (b : Nat) (P : Pe) (wa : Option Addr) (wc : Nat) (b3 T3 : Nat) (F : List Assn) (hl : P.rd.length ≤ 2000) (hw : P.waits.length ≤ 2000) (hj : P.joined = true) (hv : P.value.length ≤ 1048576) :
    Meets Tryz.prog 55 [ptr b, .func (.func 72) #[] #[], .func (.func 73) #[] #[ptr b3]] (PeW b P wa wc :: pc b3 T3 [ptr b] :: F)
      (Det (.tuple #[]) (PeP b (P.served (fun x => x.mark) (fun P x => P.mark x.ticket)) :: pc b3 T3 [ptr b] :: F)) := by
  refine peServed_W b P wa wc 72 73 [] [ptr b3] _ _ (fun k Q => Q.rd.length ≤ P.rd.length + k ∧ Q.joined = true ∧ Q.value = P.value) _ F (fun x F => ?_) (fun k Q x F hk hO _ => ?_) (fun k Q x hO _ => ?_) (fun k Q hO => ⟨by omega, hO.2⟩) (fun _ _ _ hO _ => (Pe.mark_joined _ hO.2.1).1) ⟨by omega, hj, rfl⟩ (by omega)
  · exact peJoin1_fn x _
  · exact peJoin2_W b Q wa wc x b3 T3 _ (by omega) hO.2.1 (by rw [hO.2.2]; exact hv)
  · obtain ⟨_, h2, h3, h4⟩ := Pe.mark_joined x.ticket hO.2.1
    exact ⟨by rw [h3]; omega, h2, h4.trans hO.2.2⟩
end Go.Proofs.YtmeajliiloaegaaGreat

set_option linter.unusedSimpArgs false
set_option linter.unusedVariables false
set_option maxRecDepth 100000
set_option maxHeartbeats 4000000
namespace Go.Proofs.YtmeajliiloaegaaGreat
open Go Go.SL
attribute [local irreducible] pc rc SlT Me Mt It pt ro pur ex sep old Meets
attribute [local irreducible] LockP RecP RecsA LinksP LinksH RdA
theorem peFree_P (b : Nat) (P : Pe) (t : Int) (a : SL.Ask) (F : List Assn) (hI : P.lk.Inv) (hl : P.rd.length ≤ 1000) (hw : P.waits.length ≤ 1000) : Meets Tryz.prog 30 [ptr b, i64 t, askv a] (PeP b P :: F) (Det (.tuple #[]) (PeP b (P.free t a) :: F)) := by
  refine Meets.intro b30 k30 (by simp) ?_
  refine J.openPeP Has.here (fun wa wc => ?_)
  obtain ⟨me, v, lk, j, m, ws, rd⟩ := P
  dsimp only at hI hl hw
  refine J.openPe (by (repeat (first | exact Has.here | assumption | apply Has.there))) (fun lb va vc ra rc rs hrs hw1 hw2 hr1 hr2 => ?_)
  unfold Pe.free
  dsimp only
  have hL := fun F => lnFree_fn lb lk a.w a.o F
  have hI1 := hI.free a.w a.o
  generalize lk.free a.w a.o = z at *
  obtain ⟨l1, nx, ok, e⟩ := z
  dsimp only at *
  have h4 := fun F => pePlain_W b ⟨me, v, l1, j, m, ws, rd⟩ wa wc t 4 F (by dsimp only; omega)
  have h5 := fun F => pePlain_W b ⟨me, v, l1, j, m, ws, rd⟩ wa wc t 1 F (by dsimp only; omega)
  have h6 := fun b3 b5 b6 T3 T5 T6 F => peServed_free b (Pe.plain ⟨me, v, l1, j, m, ws, rd⟩ t 1) wa wc a nx b3 b5 b6 T3 T5 T6 F hI1 (by simp only [Pe.plain, Pe.tell, List.length_append, List.length_cons, List.length_nil]; omega) (by show ws.length ≤ 2000; omega)
  generalize hP1 : Pe.plain ⟨me, v, l1, j, m, ws, rd⟩ t 1 = P1 at *
  generalize hP4 : Pe.plain ⟨me, v, l1, j, m, ws, rd⟩ t 4 = P4 at *
  focus
   refine zs <| JT.box1 rfl rfl fun b3 => yB rfl fun b5 => zl rfl rfl <| zfl rfl rfl rfl <| zfw [_, _] rfl rfl rfl rfl <| zfw [_, _] rfl rfl rfl rfl <| JT.both ?_ ?_
   refine yD rfl rfl (.of (.t3 .rf)) (hL _) <| zc rfl <| zc rfl <| zc rfl <| yN fun b6 => yW rfl rfl rfl rfl rfl <| zc rfl <| zc rfl <| zd <| zs <| zj rfl rfl rfl <| zd ?_
   refine zq <| zi rfl (fun h1 => ?_) (fun h1 => ?_)
   refine zs <| zl rfl rfl ?_
   rotate_left
   refine zk <| zs <| zl rfl rfl ?_
   rotate_left
   refine yN fun b6 => yD rfl rfl (.of (.t4 .rf)) (hL _) <| zc rfl <| zc rfl <| zc rfl <| yW rfl rfl rfl rfl rfl <| zc rfl <| zc rfl <| zd <| zs <| zj rfl rfl rfl <| zd ?_
   refine zq <| zi rfl (fun h1 => ?_) (fun h1 => ?_)
   refine zs <| zl rfl rfl ?_
   rotate_left
   refine zk <| zs <| zl rfl rfl ?_
   rotate_left
  all_goals refine JT.imp (PeW.fold (lk := l1) (m := m) (ws := ws) (rd := rd) (wa := wa) (wc := wc) (b := b) (me := me) (v := v) (j := j) (lb := lb) (va := va) (vc := vc) (ra := ra) (rc := rc) (rs := rs) (by (repeat (first | exact Has.here | assumption | apply Has.there))) (by (repeat (first | exact Has.here | assumption | apply Has.there))) (by (repeat (first | exact Has.here | assumption | apply Has.there))) (by (repeat (first | exact Has.here | assumption | apply Has.there))) (by (repeat (first | exact Has.here | assumption | apply Has.there))) (by (repeat (first | exact Has.here | assumption | apply Has.there))) hrs (Imp.refl _)) ?_
  focus
   refine yD rfl rfl (.of (.t0 .rf)) (h4 _) <| zd <| zr <| seqQ_r ?_
   rotate_left
  rotate_left 1
  focus
   refine yD rfl rfl (.of (.t0 .rf)) (h5 _) <| zc rfl <| zd <| zq <| zi rfl (fun h2 => ?_) (fun h2 => ?_)
   refine zr <| seqQ_r ?_
   rotate_left
   refine zk <| zo <| zl rfl rfl <| zy (.mkf rfl) <| zy (.mkf rfl) <| yD rfl rfl (.of (.t0 (.t2 (.t1 (.t0 .rf))))) (h6 _ _ _ _ _ _ _) <| zd ?_
   rotate_left
  rotate_left 2
  focus
   refine yD rfl rfl (.of (.t0 .rf)) (h4 _) <| zd <| zr <| seqQ_r ?_
   rotate_left
  rotate_left 1
  focus
   refine yD rfl rfl (.of (.t0 .rf)) (h5 _) <| zc rfl <| zd <| zq <| zi rfl (fun h2 => ?_) (fun h2 => ?_)
   refine zr <| seqQ_r ?_
   rotate_left
   refine zk <| zo <| zl rfl rfl <| zy (.mkf rfl) <| zy (.mkf rfl) <| yD rfl rfl (.of (.t0 (.t2 (.t1 (.t0 .rf))))) (h6 _ _ _ _ _ _ _) <| zd ?_
   rotate_left
  rotate_left 2
  all_goals (repeat (first | rw [if_pos (by (first | assumption | omega | grind))] | rw [if_neg (by (first | assumption | omega | grind))]))
  · exact retQD .nil rfl (.of (PeP.fold .here (.d (.d (.d .rf)))))
  · exact retQD .nil rfl (.of (PeP.fold .here (.d (.d (.d .rf)))))
  · exact retQD .nil rfl (.of (.t0 (.d (.d (.d .rf)))))
  · exact retQD .nil rfl (.of (PeP.fold .here (.d (.d (.d .rf)))))
  · exact retQD .nil rfl (.of (PeP.fold .here (.d (.d (.d .rf)))))
  · exact retQD .nil rfl (.of (.t0 (.d (.d (.d .rf)))))
theorem peOut_P (b : Nat) (P : Pe) (t : Int) (a : SL.Ask) (F : List Assn) (hI : P.lk.Inv) (hl : P.rd.length ≤ 1000) (hw : P.waits.length ≤ 1000) : Meets Tryz.prog 35 [ptr b, i64 t, askv a] (PeP b P :: F) (Det (.tuple #[]) (PeP b (P.out t a) :: F)) := by
  refine Meets.intro b35 k35 (by simp) ?_
  refine J.openPeP Has.here (fun wa wc => ?_)
  obtain ⟨me, v, lk, j, m, ws, rd⟩ := P
  dsimp only at hI hl hw
  refine J.openPe (by (repeat (first | exact Has.here | assumption | apply Has.there))) (fun lb va vc ra rc rs hrs hw1 hw2 hr1 hr2 => ?_)
  unfold Pe.out
  dsimp only
  have hL := fun F => lnOut_fn lb lk a.w a.o F hI
  generalize lk.out a.w a.o = z at *
  obtain ⟨l1, wl, e⟩ := z
  dsimp only at *
  by_cases he : e = 0
  · subst he
    rw [if_pos rfl]
    have h5 : ∀ F, Meets Tryz.prog 31 [ptr b, i64 t, i64 0, .bool false] (PeW b ⟨me, v, l1, j, m, ws, rd⟩ wa wc :: F) (Det (.tuple #[]) (PeW b (Pe.plain ⟨me, v, l1, j, m, ws, rd⟩ t 1) wa wc :: F)) := fun F => peYes_W b ⟨me, v, l1, j, m, ws, rd⟩ wa wc t 0 false F (by dsimp only; omega)
    have h6 := fun b3 b5 T3 T5 F => peServed_out b (Pe.plain ⟨me, v, l1, j, m, ws, rd⟩ t 1) wa wc a b3 b5 T3 T5 F (by simp only [Pe.plain, Pe.tell, List.length_append, List.length_cons, List.length_nil]; omega) (by show ws.length ≤ 2000; omega)
    generalize hP1 : Pe.plain ⟨me, v, l1, j, m, ws, rd⟩ t 1 = P1 at *
    focus
     refine zs <| JT.box1 rfl rfl fun b3 => yB rfl fun b5 => zl rfl rfl <| zfl rfl rfl rfl <| zfw [_, _] rfl rfl rfl rfl <| zfw [_, _] rfl rfl rfl rfl <| yE rfl rfl (.of (.t3 .rf)) (hL _) fun ⟨a17, c17⟩ _ => zc rfl <| zc rfl <| zl rfl rfl ?_
    all_goals refine JT.imp (PeW.fold (lk := l1) (m := m) (ws := ws) (rd := rd) (wa := wa) (wc := wc) (b := b) (me := me) (v := v) (j := j) (lb := lb) (va := va) (vc := vc) (ra := ra) (rc := rc) (rs := rs) (by (repeat (first | exact Has.here | assumption | apply Has.there))) (by (repeat (first | exact Has.here | assumption | apply Has.there))) (by (repeat (first | exact Has.here | assumption | apply Has.there))) (by (repeat (first | exact Has.here | assumption | apply Has.there))) (by (repeat (first | exact Has.here | assumption | apply Has.there))) (by (repeat (first | exact Has.here | assumption | apply Has.there))) hrs (Imp.refl _)) ?_
    focus
     refine yD rfl rfl (.of (.t0 .rf)) (h5 _) <| zy (.ceqT rfl rfl (by decide)) <| zd <| zt rfl <| zo <| zl rfl rfl <| zy (.mkf rfl) <| zy (.mkf rfl) <| yD rfl rfl (.of (.t0 (.t2 (.t1 .rf)))) (h6 _ _ _ _ _) <| zd ?_
    rotate_left 1
    all_goals exact retQD .nil rfl (.of (.t0 (.d (.d (.d .rf)))))
  · rw [if_neg he]
    have h4 : ∀ F, Meets Tryz.prog 31 [ptr b, i64 t, i64 e, .bool false] (PeW b ⟨me, v, l1, j, m, ws, rd⟩ wa wc :: F) (Det (.tuple #[]) (PeW b (Pe.plain ⟨me, v, l1, j, m, ws, rd⟩ t 4) wa wc :: F)) := fun F => by
      have h := peYes_W b ⟨me, v, l1, j, m, ws, rd⟩ wa wc t e false F (by dsimp only; omega)
      unfold yesK at h; rw [if_neg he, if_neg (by simp)] at h; exact h
    generalize hP4 : Pe.plain ⟨me, v, l1, j, m, ws, rd⟩ t 4 = P4 at *
    focus
     refine zs <| JT.box1 rfl rfl fun b3 => yB rfl fun b5 => zl rfl rfl <| zfl rfl rfl rfl <| zfw [_, _] rfl rfl rfl rfl <| zfw [_, _] rfl rfl rfl rfl <| yE rfl rfl (.of (.t3 .rf)) (hL _) fun ⟨a17, c17⟩ _ => zc rfl <| zc rfl <| zl rfl rfl ?_
    all_goals refine JT.imp (PeW.fold (lk := l1) (m := m) (ws := ws) (rd := rd) (wa := wa) (wc := wc) (b := b) (me := me) (v := v) (j := j) (lb := lb) (va := va) (vc := vc) (ra := ra) (rc := rc) (rs := rs) (by (repeat (first | exact Has.here | assumption | apply Has.there))) (by (repeat (first | exact Has.here | assumption | apply Has.there))) (by (repeat (first | exact Has.here | assumption | apply Has.there))) (by (repeat (first | exact Has.here | assumption | apply Has.there))) (by (repeat (first | exact Has.here | assumption | apply Has.there))) (by (repeat (first | exact Has.here | assumption | apply Has.there))) hrs (Imp.refl _)) ?_
    focus
     refine yD rfl rfl (.of (.t0 .rf)) (h4 _) <| zy (.ceqF rfl rfl (by omega)) <| zd <| zu rfl <| zk ?_
    rotate_left 1
    all_goals exact retQD .nil rfl (.of (PeP.fold .here (.d (.d (.d .rf)))))
theorem peJoin_P (b : Nat) (P : Pe) (t : Int) (F : List Assn) (hl : P.rd.length ≤ 1000) (hw : P.waits.length ≤ 1000) (hv : P.value.length ≤ 1048576) : Meets Tryz.prog 37 [ptr b, i64 t] (PeP b P :: F) (Det (.tuple #[]) (PeP b (P.join t) :: F)) := by
  refine Meets.intro b37 k37 (by simp) ?_
  refine J.openPeP Has.here (fun wa wc => ?_)
  have h2 := fun F => peIsEnd_W b P wa wc F
  unfold Pe.join
  by_cases he : P.isEnd
  · rw [if_pos he]; rw [decide_eq_true he] at h2
    have h4 := fun F => pePlain_W b P wa wc t 4 F (by omega)
    generalize hP4 : P.plain t 4 = P4 at *
    focus
     refine zs <| JT.box1 rfl rfl fun b2 => zl rfl rfl <| yD rfl rfl (.of (.t1 .rf)) (h2 _) <| zd <| zq <| zt rfl <| zs <| zl rfl rfl <| yD rfl rfl (.of (.t0 .rf)) (h4 _) <| zd <| zr ?_
     refine yR .nil rfl (.of (PeP.fold .here (.d .rf)))
    all_goals exact retQD .nil rfl (by (first | (refine Up.of ?_; (repeat (first | exact Imp.refl _ | (apply Imp.take; (· (repeat (first | exact Has.here | assumption | apply Has.there)))) | fail | apply Imp.dropT | exact Imp.nil _)); done) | (refine Up.frz (by (repeat (first | exact Has.here | assumption | apply Has.there))) ?_; refine Up.of ?_; (repeat (first | exact Imp.refl _ | (apply Imp.take; (· (repeat (first | exact Has.here | assumption | apply Has.there)))) | fail | apply Imp.dropT | exact Imp.nil _)); done)))
  · rw [if_neg he]; rw [decide_eq_false he] at h2
    obtain ⟨me, v, lk, j, m, ws, rd⟩ := P
    dsimp only at hl hw hv ⊢
    have h5 := fun F => pePlain_W b ⟨me, v, lk, true, m, ws, rd⟩ wa wc t 1 F (by dsimp only; omega)
    have h6 := fun b3 T3 F => peServed_join b (Pe.plain ⟨me, v, lk, true, m, ws, rd⟩ t 1) wa wc b3 T3 F (by simp only [Pe.plain, Pe.tell, List.length_append, List.length_cons, List.length_nil]; omega) (by show ws.length ≤ 2000; omega) rfl hv
    generalize hP1 : Pe.plain ⟨me, v, lk, true, m, ws, rd⟩ t 1 = P1 at *
    focus
     refine zs <| JT.box1 rfl rfl fun b2 => zl rfl rfl <| yD rfl rfl (.of (.t1 .rf)) (h2 _) <| zd <| zq <| zu rfl <| zk <| zo <| zl rfl rfl <| zf 7 rfl rfl ?_
    refine JT.openPe (by (repeat (first | exact Has.here | assumption | apply Has.there))) (fun lb va vc ra rc rs hrs => ?_)
    focus
     refine yS rfl rfl rfl rfl rfl (Nat.le_of_ble_eq_true rfl) rfl <| zl rfl rfl <| yD rfl rfl (.of (PeW.fold .here .here .here .here .here .here (by first | assumption | omega | rfl | decide) .rf)) (h5 _) ?_
     refine zl rfl rfl <| zy (.mkf rfl) <| yD rfl rfl (.of (.t0 (.t0 .rf))) (h6 _ _ _) <| zd ?_
    all_goals exact retQD .nil rfl (.of (.t0 (.d .rf)))
end Go.Proofs.YtmeajliiloaegaaGreat

set_option linter.unusedSimpArgs false
set_option linter.unusedVariables false
set_option maxRecDepth 100000
set_option maxHeartbeats 4000000
namespace Go.SL
open Go
/-- A peer between asks: what was answered is not its own. -/
def PeI (b : Nat) (P : Pe) : Assn := ex fun x : Nat × (Option Addr × Nat) × (Option Addr × Nat) × (Option Addr × Nat × Nat) =>
  sep [pc b 75 (peC P x.1 x.2.1.1 x.2.1.2 x.2.2.1.1 x.2.2.1.2 x.2.2.2.1 x.2.2.2.2.1 x.2.2.2.2.2), LinksP x.1 P.lk, byO x.2.1.1 x.2.1.2 P.value, SlT true waitC 6 (.slice x.2.2.1.1 P.waits.length x.2.2.1.2) x.2.2.1.2 P.waits]
section
variable {P : Program} {n : Nat} {ρ : Env} {cs r r1 r2 r3 r4 r5 ds : List Assn} {cc : CC} {t : Tr} {K : Env → List Assn → Prop} {Q : Exit → Env → List Assn → Prop} {b lb : Nat} {p : Pe} {wa va ra : Option Addr} {wc vc rl rc : Nat}
theorem J.openPeI (hh : Has cs (PeI b p) r)
    (h : ∀ lb va vc wa wc ra rl rc, J P n cc ρ (pc b 75 (peC p lb va vc wa wc ra rl rc) :: LinksP lb p.lk :: byO va vc p.value :: SlT true waitC 6 (.slice wa p.waits.length wc) wc p.waits :: r) Q) : J P n cc ρ cs Q :=
  J.has hh (J.ex fun x => J.sep (h x.1 x.2.1.1 x.2.1.2 x.2.2.1.1 x.2.2.1.2 x.2.2.2.1 x.2.2.2.2.1 x.2.2.2.2.2))
theorem JT.openPeI (hh : Has cs (PeI b p) r)
    (h : ∀ lb va vc wa wc ra rl rc, JT P t ρ (pc b 75 (peC p lb va vc wa wc ra rl rc) :: LinksP lb p.lk :: byO va vc p.value :: SlT true waitC 6 (.slice wa p.waits.length wc) wc p.waits :: r) K) : JT P t ρ cs K :=
  JT.has hh (JT.ex fun x => JT.sep (h x.1 x.2.1.1 x.2.1.2 x.2.2.1.1 x.2.2.1.2 x.2.2.2.1 x.2.2.2.2.1 x.2.2.2.2.2))
theorem PeI.fold (h1 : Has cs (pc b 75 (peC p lb va vc wa wc ra rl rc)) r) (h2 : Has r (LinksP lb p.lk) r1) (h3 : Has r1 (byO va vc p.value) r2) (h4 : Has r2 (SlT true waitC 6 (.slice wa p.waits.length wc) wc p.waits) r3) (h5 : Imp r3 ds) : Imp cs (PeI b p :: ds) :=
  Imp.trans (Imp.take h1 (Imp.take h2 (Imp.take h3 (Imp.take h4 h5)))) (Imp.trans (Imp.sep_in (cs := [_, _, _, _])) (Imp.ex_in (A := fun x : Nat × (Option Addr × Nat) × (Option Addr × Nat) × (Option Addr × Nat × Nat) =>
  sep [pc b 75 (peC p x.1 x.2.1.1 x.2.1.2 x.2.2.1.1 x.2.2.1.2 x.2.2.2.1 x.2.2.2.2.1 x.2.2.2.2.2), LinksP x.1 p.lk, byO x.2.1.1 x.2.1.2 p.value, SlT true waitC 6 (.slice x.2.2.1.1 p.waits.length x.2.2.1.2) x.2.2.1.2 p.waits]) (lb, (va, vc), (wa, wc), (ra, rl, rc))))
theorem JT.openPe' (hh : Has cs (PeP b p) r)
    (h : ∀ lb va vc wa wc ra rc (rs : List RdyE), rs.map RdyE.pl = p.rd → JT P t ρ (pc b 75 (peC p lb va vc wa wc ra rs.length rc) :: LinksP lb p.lk :: byO va vc p.value :: SlT true waitC 6 (.slice wa p.waits.length wc) wc p.waits :: SlT true rdyC 14 (.slice ra rs.length rc) rc rs :: RdA rs :: r) K) : JT P t ρ cs K := by
  obtain ⟨me, v, lk, j, m, ws, rd⟩ := p
  exact JT.openPeP hh fun wa wc => JT.openPe Has.here fun lb va vc ra rc rs e => h lb va vc wa wc ra rc rs e
/-- What was answered is let go; nothing is answered yet. -/
theorem PeP.of (h1 : Has cs (pc b 75 (peC p lb va vc wa wc none 0 0)) r) (h2 : Has r (LinksP lb p.lk) r1) (h3 : Has r1 (byO va vc p.value) r2) (h4 : Has r2 (SlT true waitC 6 (.slice wa p.waits.length wc) wc p.waits) r3) (h5 : Imp r3 ds) : Up cs (PeP b { p with rd := [] } :: ds) := by
  obtain ⟨me, v, lk, j, m, ws, rd⟩ := p
  refine Up.trans (Up.of (Imp.take h1 (Imp.take h2 (Imp.take h3 (Imp.take h4 h5))))) ?_
  refine Up.nilS (enc := rdyC) (sz := 14) true (by decide) ?_
  refine Up.of (PeP.fold (wa := wa) (wc := wc) (PeW.fold (wa := wa) (wc := wc) (rs := []) (rd := []) (ra := none) (rc := 0) (lb := lb) (va := va) (vc := vc) (me := me) (v := v) (lk := lk) (j := j) (m := m) (ws := ws) (Has.there Has.here) (Has.there Has.here) (Has.there Has.here) (Has.there Has.here) Has.here RdA.nil rfl (Imp.refl _)) (Imp.refl _))
end
end Go.SL
namespace Go.Proofs.YtmeajliiloaegaaGreat
open Go Go.SL
attribute [local irreducible] pc rc SlT Me Mt It pt ro pur ex sep old Meets
attribute [local irreducible] LockP RecP RecsA LinksP LinksH RdA PeW PeP PeI
theorem peMade_I (b : Nat) (P : Pe) (F : List Assn) : Meets Tryz.prog 24 [ptr b] (PeI b P :: F) (Det (.bool true) (PeI b P :: F)) := by
  refine Meets.intro b24 k24 (by simp) ?_
  refine J.openPeI Has.here (fun lb va vc wa wc ra rl rc => ?_)
  focus
   refine zs <| zc rfl <| zc rfl <| zm rfl rfl (fun h1 => .fa' 6 rfl rfl) <| zm rfl rfl (fun h1 => by rw [h1]; exact .L rfl rfl) <| zm rfl rfl (fun h1 => by rw [h1]; exact .calc rfl) <| zy (.pickT rfl rfl) <| zd <| zr <| yR (.t rfl .nil) rfl (.of (PeI.fold .here .here .here .here .rf))
theorem peAsk_fn (b : Nat) (P : Pe) (t : Int) (a : SL.Ask) (F : List Assn) (hI : P.lk.Inv) (hw : P.waits.length ≤ 1000) (hv : P.value.length ≤ 1048576) : Meets Tryz.prog 9 [ptr b, i64 t, askv a] (PeI b P :: F)
    (Some' (fun x : Option Addr × Nat × List RdyE => x.2.2.map RdyE.pl = if a.ok then (P.ask t a).1.rd else []) (fun x => .tuple #[.slice x.1 x.2.2.length x.2.1, i64 (P.ask t a).2]) (fun x => SlT true rdyC 14 (.slice x.1 x.2.2.length x.2.1) x.2.1 x.2.2 :: RdA x.2.2 :: PeI b (P.ask t a).1 :: F)) := by
  refine Meets.intro b9 k9 (by simp) ?_
  unfold Pe.ask
  by_cases ho : a.ok
  · rw [if_pos ho, if_pos ho]
    have hk := kind10 ⟨ho.1, ho.2.1⟩
    focus
     refine zs <| yB rfl fun b5 => zc rfl <| zc rfl <| yD rfl rfl (.of (.t1 .rf)) (peMade_I _ _ _) <| zc rfl <| zd <| zq <| zu rfl <| zk <| zs <| zw rfl rfl ?_
     refine yD rfl rfl (.of .rf) (mgCheckAsk_fn _ _) <| zj rfl rfl rfl <| zd <| zq <| zi rfl (fun h1 => ?_) (fun h1 => ?_)
     contradiction
     refine zk <| zs <| zf 10 rfl rfl ?_
    refine JT.openPeI (by (repeat (first | exact Has.here | assumption | apply Has.there))) (fun lb va vc wa wc ra rl rc => ?_)
    focus
     refine yS rfl rfl rfl rfl rfl (Nat.le_of_ble_eq_true rfl) rfl <| zfl rfl rfl rfl <| zd ?_
    have e0 : ∃ P0 : Pe, P0 = { P with rd := [] } := ⟨_, rfl⟩
    obtain ⟨P0, e0⟩ := e0
    refine J.weak (ρ' := [(0, ptr b), (1, i64 t), (5, ptr b5), (18, i64 a.kind)]) (cs' := PeP b P0 :: pc b5 47 (askC a) :: F) ?_ (Env.subx.sub (by exact subxR rfl)) (by rw [e0]; exact PeP.of (by (repeat (first | exact Has.here | assumption | apply Has.there))) (by (repeat (first | exact Has.here | assumption | apply Has.there))) (by (repeat (first | exact Has.here | assumption | apply Has.there))) (by (repeat (first | exact Has.here | assumption | apply Has.there))) (by (repeat (first | exact Imp.refl _ | (apply Imp.take; (· (repeat (first | exact Has.here | assumption | apply Has.there)))) | fail | apply Imp.dropT | exact Imp.nil _))))
    rw [← e0]
    have hl0 : P0.rd.length ≤ 1000 := by rw [e0]; simp
    have hw0 : P0.waits.length ≤ 1000 := by rw [e0]; exact hw
    have hv0 : P0.value.length ≤ 1048576 := by rw [e0]; exact hv
    have hI0 : P0.lk.Inv := by rw [e0]; exact hI
    clear e0 hI hw hv
    refine J.cutE (ι := Unit) (fun _ => True) (fun _ => [(0, ptr b)]) (fun _ => PeP b (P0.ask1 t a) :: F) ?_ (fun _ _ => ?_)
    · unfold Pe.ask1
      rcases hk with k | k | k | k | k | k | k | k | k | k
      · rw [k]; simp only [Int.reduceEq, if_false, if_true, reduceIte]
        unfold Pe.read
        have h3 := fun F => peRecord_P b P0 a.w F hI0
        refine J.nilS byteC 1 false (by decide) ?_
        cases hg : P0.lk.getB a.w with
        | true =>
          rw [Pe.recd_in hg] at h3 ⊢
          have h4 := fun F => peTell_P b (P0.touch a.w) t ⟨⟨1, P0.marked, (P0.lk.getS a.w).left, (P0.lk.getS a.w).right, []⟩, none, 0⟩ F (by show P0.rd.length ≤ 100000; omega)
          focus
           refine zb <| zq <| zb <| zb <| zq <| zb <| zq <| zb <| zq <| zb <| zq <| zb ?_
           refine zq <| zb <| zq <| zb <| zq <| zb <| zq <| zb <| zq <| zb <| zs <| zy (.ceqT rfl rfl (by decide)) ?_
           refine zd <| zq <| zt rfl <| zx <| zs <| zfw [_, _] rfl rfl rfl rfl <| yD rfl rfl (.of (.t1 .rf)) (h3 _) <| yD rfl rfl (.of (.t0 (.t0 .rf))) (h4 _) <| zd <| zx <| blockQ_miss rfl <| seqQ_x ?_
           refine blockQ_miss rfl <| seqQ_x <| blockQ_miss rfl <| seqQ_x <| blockQ_miss rfl <| seqQ_x <| blockQ_miss rfl <| seqQ_x <| blockQ_miss rfl <| seqQ_x <| blockQ_miss rfl <| seqQ_x ?_
           refine blockQ_miss rfl <| seqQ_x <| blockQ_miss rfl <| blockQ_miss rfl <| seqQ_x <| blockQ_hit <| seqQ_n ?_
          exact ⟨(), trivial, by exact subxR rfl, by exact (.of (.t0 (.d .rf)))⟩
        | false =>
          rw [Pe.recd_no hg] at h3 ⊢
          have h4 := fun F => peTell_P b (P0.touch a.w) t ⟨plainA 2, none, 0⟩ F (by show P0.rd.length ≤ 100000; omega)
          focus
           refine zb <| zq <| zb <| zb <| zq <| zb <| zq <| zb <| zq <| zb <| zq <| zb ?_
           refine zq <| zb <| zq <| zb <| zq <| zb <| zq <| zb <| zq <| zb <| zs <| zy (.ceqT rfl rfl (by decide)) ?_
           refine zd <| zq <| zt rfl <| zx <| zs <| zfw [_, _] rfl rfl rfl rfl <| yD rfl rfl (.of (.t1 .rf)) (h3 _) <| yD rfl rfl (.of (.t0 (.t0 .rf))) (h4 _) <| zd <| zx <| blockQ_miss rfl <| seqQ_x ?_
           refine blockQ_miss rfl <| seqQ_x <| blockQ_miss rfl <| seqQ_x <| blockQ_miss rfl <| seqQ_x <| blockQ_miss rfl <| seqQ_x <| blockQ_miss rfl <| seqQ_x <| blockQ_miss rfl <| seqQ_x ?_
           refine blockQ_miss rfl <| seqQ_x <| blockQ_miss rfl <| blockQ_miss rfl <| seqQ_x <| blockQ_hit <| seqQ_n ?_
          exact ⟨(), trivial, by exact subxR rfl, by exact (.of (.t0 (.d .rf)))⟩
      · rw [k]; simp only [Int.reduceEq, if_false, if_true, reduceIte]
        focus
         refine zb <| zq <| zb <| zb <| zq <| zb <| zq <| zb <| zq <| zb <| zq <| zb ?_
         refine zq <| zb <| zq <| zb <| zq <| zb <| zq <| zb <| zq <| zb <| zs <| zy (.ceqF rfl rfl (by decide)) ?_
         refine zd <| zq <| zu rfl <| zk <| zs <| zy (.ceqT rfl rfl (by decide)) <| zd <| zq <| zt rfl <| zx <| seqQ_x <| blockQ_miss rfl ?_
         refine zs <| yD rfl rfl (.of (.t0 .rf)) (peGet_P _ _ _ _ (by assumption) (by omega) (by assumption)) <| zd <| zx <| blockQ_miss rfl <| seqQ_x <| blockQ_miss rfl <| seqQ_x <| blockQ_miss rfl <| seqQ_x <| blockQ_miss rfl <| seqQ_x ?_
         refine blockQ_miss rfl <| seqQ_x <| blockQ_miss rfl <| seqQ_x <| blockQ_miss rfl <| seqQ_x <| blockQ_miss rfl <| blockQ_miss rfl <| seqQ_x <| blockQ_hit <| seqQ_n ?_
        exact ⟨(), trivial, by exact subxR rfl, by exact (.of (.t0 (.d .rf)))⟩
      · rw [k]; simp only [Int.reduceEq, if_false, if_true, reduceIte]
        focus
         refine zb <| zq <| zb <| zb <| zq <| zb <| zq <| zb <| zq <| zb <| zq <| zb ?_
         refine zq <| zb <| zq <| zb <| zq <| zb <| zq <| zb <| zq <| zb <| zs <| zy (.ceqF rfl rfl (by decide)) ?_
         refine zd <| zq <| zu rfl <| zk <| zs <| zy (.ceqF rfl rfl (by decide)) <| zd <| zq <| zu rfl <| zk <| zs <| zy (.ceqT rfl rfl (by decide)) ?_
         refine zd <| zq <| zt rfl <| zx <| seqQ_x <| blockQ_miss rfl <| seqQ_x <| blockQ_miss rfl <| zs <| zw rfl rfl <| yD rfl rfl (.of (.t0 .rf)) (peLock_P _ _ _ _ _ (by assumption) (by omega) (by omega)) <| zd ?_
         refine zx <| blockQ_miss rfl <| seqQ_x <| blockQ_miss rfl <| seqQ_x <| blockQ_miss rfl <| seqQ_x <| blockQ_miss rfl <| seqQ_x <| blockQ_miss rfl <| seqQ_x <| blockQ_miss rfl ?_
         refine seqQ_x <| blockQ_miss rfl <| blockQ_miss rfl <| seqQ_x <| blockQ_hit <| seqQ_n ?_
        exact ⟨(), trivial, by exact subxR rfl, by exact (.of (.t0 (.d .rf)))⟩
      · rw [k]; simp only [Int.reduceEq, if_false, if_true, reduceIte]
        focus
         refine zb <| zq <| zb <| zb <| zq <| zb <| zq <| zb <| zq <| zb <| zq <| zb ?_
         refine zq <| zb <| zq <| zb <| zq <| zb <| zq <| zb <| zq <| zb <| zs <| zy (.ceqF rfl rfl (by decide)) ?_
         refine zd <| zq <| zu rfl <| zk <| zs <| zy (.ceqF rfl rfl (by decide)) <| zd <| zq <| zu rfl <| zk <| zs <| zy (.ceqF rfl rfl (by decide)) ?_
         refine zd <| zq <| zu rfl <| zk <| zs <| zy (.ceqT rfl rfl (by decide)) <| zd <| zq <| zt rfl <| zx <| seqQ_x <| blockQ_miss rfl ?_
         refine seqQ_x <| blockQ_miss rfl <| seqQ_x <| blockQ_miss rfl <| zs <| zw rfl rfl <| yD rfl rfl (.of (.t0 .rf)) (peFree_P _ _ _ _ _ (by assumption) (by assumption) (by assumption)) <| zd <| zx <| blockQ_miss rfl <| seqQ_x <| blockQ_miss rfl ?_
         refine seqQ_x <| blockQ_miss rfl <| seqQ_x <| blockQ_miss rfl <| seqQ_x <| blockQ_miss rfl <| seqQ_x <| blockQ_miss rfl <| blockQ_miss rfl <| seqQ_x <| blockQ_hit <| seqQ_n ?_
        exact ⟨(), trivial, by exact subxR rfl, by exact (.of (.t0 (.d .rf)))⟩
      · rw [k]; simp only [Int.reduceEq, if_false, if_true, reduceIte]
        obtain ⟨me, v, lk, j, m, ws, rd⟩ := P0
        dsimp only at *
        generalize hz : lk.right a.w a.ref a.o = z at *
        obtain ⟨l1, e⟩ := z
        have h4 := fun wa wc F => peYes_W b ⟨me, v, l1, j, m, ws, rd⟩ wa wc t e false F (by dsimp only; omega)
        generalize hP4 : Pe.plain ⟨me, v, l1, j, m, ws, rd⟩ t (yesK e false) = P4 at *
        focus
         refine zb <| zq <| zb <| zb <| zq <| zb <| zq <| zb <| zq <| zb <| zq <| zb ?_
         refine zq <| zb <| zq <| zb <| zq <| zb <| zq <| zb <| zq <| zb <| zs <| zy (.ceqF rfl rfl (by decide)) ?_
         refine zd <| zq <| zu rfl <| zk <| zs <| zy (.ceqF rfl rfl (by decide)) <| zd <| zq <| zu rfl <| zk <| zs <| zy (.ceqF rfl rfl (by decide)) ?_
         refine zd <| zq <| zu rfl <| zk <| zs <| zy (.ceqF rfl rfl (by decide)) <| zd <| zq <| zu rfl <| zk <| zs <| zy (.ceqT rfl rfl (by decide)) ?_
         refine zd <| zq <| zt rfl <| zx <| seqQ_x <| blockQ_miss rfl <| seqQ_x <| blockQ_miss rfl <| seqQ_x <| blockQ_miss rfl <| seqQ_x <| blockQ_miss rfl ?_
         refine zs <| zf 6 rfl rfl ?_
        refine JT.openPeP (by (repeat (first | exact Has.here | assumption | apply Has.there))) (fun wa wc => ?_)
        refine JT.openPe (by (repeat (first | exact Has.here | assumption | apply Has.there))) (fun lb va vc ra rc rs hrs => ?_)
        have hC := fun F => lnRight_fn lb lk a.w a.ref a.o F
        simp only [hz] at hC
        focus
         refine zl rfl rfl <| zfw [_, _] rfl rfl rfl rfl <| zfw [_, _, _, _, _] rfl rfl rfl rfl <| zfw [_, _] rfl rfl rfl rfl <| yD rfl rfl (.of (.t1 .rf)) (hC _) ?_
        refine JT.imp (PeW.fold (b := b) (me := me) (v := v) (j := j) (lb := lb) (va := va) (vc := vc) (ra := ra) (rc := rc) (rs := rs) (lk := l1) (m := m) (ws := ws) (rd := rd) (wa := wa) (wc := wc) (by (repeat (first | exact Has.here | assumption | apply Has.there))) (by (repeat (first | exact Has.here | assumption | apply Has.there))) (by (repeat (first | exact Has.here | assumption | apply Has.there))) (by (repeat (first | exact Has.here | assumption | apply Has.there))) (by (repeat (first | exact Has.here | assumption | apply Has.there))) (by (repeat (first | exact Has.here | assumption | apply Has.there))) hrs (Imp.refl _)) ?_
        focus
         refine yD rfl rfl (.of (.t0 .rf)) (h4 _ _ _) <| zd <| zx <| blockQ_miss rfl <| seqQ_x <| blockQ_miss rfl <| seqQ_x <| blockQ_miss rfl <| seqQ_x <| blockQ_miss rfl <| seqQ_x <| blockQ_miss rfl ?_
         refine blockQ_miss rfl <| seqQ_x <| blockQ_hit <| seqQ_n ?_
        exact ⟨(), trivial, by exact subxR rfl, by exact (.of (PeP.fold .here (.d .rf)))⟩
      · rw [k]; simp only [Int.reduceEq, if_false, if_true, reduceIte]
        obtain ⟨me, v, lk, j, m, ws, rd⟩ := P0
        dsimp only at *
        generalize hz : lk.left a.w a.ref = z at *
        obtain ⟨l1, e⟩ := z
        have h4 := fun wa wc F => peYes_W b ⟨me, v, l1, j, m, ws, rd⟩ wa wc t e true F (by dsimp only; omega)
        generalize hP4 : Pe.plain ⟨me, v, l1, j, m, ws, rd⟩ t (yesK e true) = P4 at *
        focus
         refine zb <| zq <| zb <| zb <| zq <| zb <| zq <| zb <| zq <| zb <| zq <| zb ?_
         refine zq <| zb <| zq <| zb <| zq <| zb <| zq <| zb <| zq <| zb <| zs <| zy (.ceqF rfl rfl (by decide)) ?_
         refine zd <| zq <| zu rfl <| zk <| zs <| zy (.ceqF rfl rfl (by decide)) <| zd <| zq <| zu rfl <| zk <| zs <| zy (.ceqF rfl rfl (by decide)) ?_
         refine zd <| zq <| zu rfl <| zk <| zs <| zy (.ceqF rfl rfl (by decide)) <| zd <| zq <| zu rfl <| zk <| zs <| zy (.ceqF rfl rfl (by decide)) ?_
         refine zd <| zq <| zu rfl <| zk <| zs <| zy (.ceqT rfl rfl (by decide)) <| zd <| zq <| zt rfl <| zx <| seqQ_x <| blockQ_miss rfl ?_
         refine seqQ_x <| blockQ_miss rfl <| seqQ_x <| blockQ_miss rfl <| seqQ_x <| blockQ_miss rfl <| seqQ_x <| blockQ_miss rfl <| zs <| zf 6 rfl rfl ?_
        refine JT.openPeP (by (repeat (first | exact Has.here | assumption | apply Has.there))) (fun wa wc => ?_)
        refine JT.openPe (by (repeat (first | exact Has.here | assumption | apply Has.there))) (fun lb va vc ra rc rs hrs => ?_)
        have hC := fun F => lnLeft_fn lb lk a.w a.ref F
        simp only [hz] at hC
        focus
         refine zl rfl rfl <| zfw [_, _] rfl rfl rfl rfl <| zfw [_, _, _, _, _] rfl rfl rfl rfl <| yD rfl rfl (.of (.t1 .rf)) (hC _) ?_
        refine JT.imp (PeW.fold (b := b) (me := me) (v := v) (j := j) (lb := lb) (va := va) (vc := vc) (ra := ra) (rc := rc) (rs := rs) (lk := l1) (m := m) (ws := ws) (rd := rd) (wa := wa) (wc := wc) (by (repeat (first | exact Has.here | assumption | apply Has.there))) (by (repeat (first | exact Has.here | assumption | apply Has.there))) (by (repeat (first | exact Has.here | assumption | apply Has.there))) (by (repeat (first | exact Has.here | assumption | apply Has.there))) (by (repeat (first | exact Has.here | assumption | apply Has.there))) (by (repeat (first | exact Has.here | assumption | apply Has.there))) hrs (Imp.refl _)) ?_
        focus
         refine yD rfl rfl (.of (.t0 .rf)) (h4 _ _ _) <| zd <| zx <| blockQ_miss rfl <| seqQ_x <| blockQ_miss rfl <| seqQ_x <| blockQ_miss rfl <| seqQ_x <| blockQ_miss rfl <| blockQ_miss rfl <| seqQ_x ?_
         refine blockQ_hit <| seqQ_n ?_
        exact ⟨(), trivial, by exact subxR rfl, by exact (.of (PeP.fold .here (.d .rf)))⟩
      · rw [k]; simp only [Int.reduceEq, if_false, if_true, reduceIte]
        obtain ⟨me, v, lk, j, m, ws, rd⟩ := P0
        dsimp only at *
        generalize hz : lk.put a.w a.ref a.ref2 a.o = z at *
        obtain ⟨l1, e⟩ := z
        have h4 := fun wa wc F => peYes_W b ⟨me, v, l1, j, m, ws, rd⟩ wa wc t e false F (by dsimp only; omega)
        generalize hP4 : Pe.plain ⟨me, v, l1, j, m, ws, rd⟩ t (yesK e false) = P4 at *
        focus
         refine zb <| zq <| zb <| zb <| zq <| zb <| zq <| zb <| zq <| zb <| zq <| zb ?_
         refine zq <| zb <| zq <| zb <| zq <| zb <| zq <| zb <| zq <| zb <| zs <| zy (.ceqF rfl rfl (by decide)) ?_
         refine zd <| zq <| zu rfl <| zk <| zs <| zy (.ceqF rfl rfl (by decide)) <| zd <| zq <| zu rfl <| zk <| zs <| zy (.ceqF rfl rfl (by decide)) ?_
         refine zd <| zq <| zu rfl <| zk <| zs <| zy (.ceqF rfl rfl (by decide)) <| zd <| zq <| zu rfl <| zk <| zs <| zy (.ceqF rfl rfl (by decide)) ?_
         refine zd <| zq <| zu rfl <| zk <| zs <| zy (.ceqF rfl rfl (by decide)) <| zd <| zq <| zu rfl <| zk <| zs <| zy (.ceqT rfl rfl (by decide)) ?_
         refine zd <| zq <| zt rfl <| zx <| seqQ_x <| blockQ_miss rfl <| seqQ_x <| blockQ_miss rfl <| seqQ_x <| blockQ_miss rfl <| seqQ_x <| blockQ_miss rfl ?_
         refine seqQ_x <| blockQ_miss rfl <| seqQ_x <| blockQ_miss rfl <| zs <| zf 6 rfl rfl ?_
        refine JT.openPeP (by (repeat (first | exact Has.here | assumption | apply Has.there))) (fun wa wc => ?_)
        refine JT.openPe (by (repeat (first | exact Has.here | assumption | apply Has.there))) (fun lb va vc ra rc rs hrs => ?_)
        have hC := fun F => lnPut_fn lb lk a.w a.ref a.ref2 a.o F
        simp only [hz] at hC
        focus
         refine zl rfl rfl <| zfw [_, _] rfl rfl rfl rfl <| zfw [_, _, _, _, _] rfl rfl rfl rfl <| zfw [_, _, _, _, _] rfl rfl rfl rfl <| zfw [_, _] rfl rfl rfl rfl <| yD rfl rfl (.of (.t1 .rf)) (hC _) ?_
        refine JT.imp (PeW.fold (b := b) (me := me) (v := v) (j := j) (lb := lb) (va := va) (vc := vc) (ra := ra) (rc := rc) (rs := rs) (lk := l1) (m := m) (ws := ws) (rd := rd) (wa := wa) (wc := wc) (by (repeat (first | exact Has.here | assumption | apply Has.there))) (by (repeat (first | exact Has.here | assumption | apply Has.there))) (by (repeat (first | exact Has.here | assumption | apply Has.there))) (by (repeat (first | exact Has.here | assumption | apply Has.there))) (by (repeat (first | exact Has.here | assumption | apply Has.there))) (by (repeat (first | exact Has.here | assumption | apply Has.there))) hrs (Imp.refl _)) ?_
        focus
         refine yD rfl rfl (.of (.t0 .rf)) (h4 _ _ _) <| zd <| zx <| blockQ_miss rfl <| seqQ_x <| blockQ_miss rfl <| seqQ_x <| blockQ_miss rfl <| blockQ_miss rfl <| seqQ_x <| blockQ_hit <| seqQ_n ?_
        exact ⟨(), trivial, by exact subxR rfl, by exact (.of (PeP.fold .here (.d .rf)))⟩
      · rw [k]; simp only [Int.reduceEq, if_false, if_true, reduceIte]
        focus
         refine zb <| zq <| zb <| zb <| zq <| zb <| zq <| zb <| zq <| zb <| zq <| zb ?_
         refine zq <| zb <| zq <| zb <| zq <| zb <| zq <| zb <| zq <| zb <| zs <| zy (.ceqF rfl rfl (by decide)) ?_
         refine zd <| zq <| zu rfl <| zk <| zs <| zy (.ceqF rfl rfl (by decide)) <| zd <| zq <| zu rfl <| zk <| zs <| zy (.ceqF rfl rfl (by decide)) ?_
         refine zd <| zq <| zu rfl <| zk <| zs <| zy (.ceqF rfl rfl (by decide)) <| zd <| zq <| zu rfl <| zk <| zs <| zy (.ceqF rfl rfl (by decide)) ?_
         refine zd <| zq <| zu rfl <| zk <| zs <| zy (.ceqF rfl rfl (by decide)) <| zd <| zq <| zu rfl <| zk <| zs <| zy (.ceqF rfl rfl (by decide)) ?_
         refine zd <| zq <| zu rfl <| zk <| zs <| zy (.ceqT rfl rfl (by decide)) <| zd <| zq <| zt rfl <| zx <| seqQ_x <| blockQ_miss rfl ?_
         refine seqQ_x <| blockQ_miss rfl <| seqQ_x <| blockQ_miss rfl <| seqQ_x <| blockQ_miss rfl <| seqQ_x <| blockQ_miss rfl <| seqQ_x <| blockQ_miss rfl <| seqQ_x <| blockQ_miss rfl ?_
         refine zs <| zw rfl rfl <| yD rfl rfl (.of (.t0 .rf)) (peOut_P _ _ _ _ _ (by assumption) (by assumption) (by assumption)) <| zd <| zx <| blockQ_miss rfl <| seqQ_x <| blockQ_miss rfl <| blockQ_miss rfl <| seqQ_x <| blockQ_hit <| seqQ_n ?_
        exact ⟨(), trivial, by exact subxR rfl, by exact (.of (.t0 (.d .rf)))⟩
      · rw [k]; simp only [Int.reduceEq, if_false, if_true, reduceIte]
        focus
         refine zb <| zq <| zb <| zb <| zq <| zb <| zq <| zb <| zq <| zb <| zq <| zb ?_
         refine zq <| zb <| zq <| zb <| zq <| zb <| zq <| zb <| zq <| zb <| zs <| zy (.ceqF rfl rfl (by decide)) ?_
         refine zd <| zq <| zu rfl <| zk <| zs <| zy (.ceqF rfl rfl (by decide)) <| zd <| zq <| zu rfl <| zk <| zs <| zy (.ceqF rfl rfl (by decide)) ?_
         refine zd <| zq <| zu rfl <| zk <| zs <| zy (.ceqF rfl rfl (by decide)) <| zd <| zq <| zu rfl <| zk <| zs <| zy (.ceqF rfl rfl (by decide)) ?_
         refine zd <| zq <| zu rfl <| zk <| zs <| zy (.ceqF rfl rfl (by decide)) <| zd <| zq <| zu rfl <| zk <| zs <| zy (.ceqF rfl rfl (by decide)) ?_
         refine zd <| zq <| zu rfl <| zk <| zs <| zy (.ceqF rfl rfl (by decide)) <| zd <| zq <| zu rfl <| zk <| zs <| zy (.ceqT rfl rfl (by decide)) ?_
         refine zd <| zq <| zt rfl <| zx <| seqQ_x <| blockQ_miss rfl <| seqQ_x <| blockQ_miss rfl <| seqQ_x <| blockQ_miss rfl <| seqQ_x <| blockQ_miss rfl ?_
         refine seqQ_x <| blockQ_miss rfl <| seqQ_x <| blockQ_miss rfl <| seqQ_x <| blockQ_miss rfl <| seqQ_x <| blockQ_miss rfl <| zs <| yD rfl rfl (.of (.t0 .rf)) (peMark_P _ _ _ _ (by omega) (by assumption) (by omega)) <| zd <| zx ?_
         refine blockQ_miss rfl <| blockQ_miss rfl <| seqQ_x <| blockQ_hit <| seqQ_n ?_
        exact ⟨(), trivial, by exact subxR rfl, by exact (.of (.t0 (.d .rf)))⟩
      · rw [k]; simp only [Int.reduceEq, if_false, if_true, reduceIte]
        focus
         refine zb <| zq <| zb <| zb <| zq <| zb <| zq <| zb <| zq <| zb <| zq <| zb ?_
         refine zq <| zb <| zq <| zb <| zq <| zb <| zq <| zb <| zq <| zb <| zs <| zy (.ceqF rfl rfl (by decide)) ?_
         refine zd <| zq <| zu rfl <| zk <| zs <| zy (.ceqF rfl rfl (by decide)) <| zd <| zq <| zu rfl <| zk <| zs <| zy (.ceqF rfl rfl (by decide)) ?_
         refine zd <| zq <| zu rfl <| zk <| zs <| zy (.ceqF rfl rfl (by decide)) <| zd <| zq <| zu rfl <| zk <| zs <| zy (.ceqF rfl rfl (by decide)) ?_
         refine zd <| zq <| zu rfl <| zk <| zs <| zy (.ceqF rfl rfl (by decide)) <| zd <| zq <| zu rfl <| zk <| zs <| zy (.ceqF rfl rfl (by decide)) ?_
         refine zd <| zq <| zu rfl <| zk <| zs <| zy (.ceqF rfl rfl (by decide)) <| zd <| zq <| zu rfl <| zk <| zs <| zy (.ceqF rfl rfl (by decide)) ?_
         refine zd <| zq <| zu rfl <| zk <| zs <| zy (.ceqT rfl rfl (by decide)) <| zd <| zq <| zt rfl <| zx <| seqQ_x <| blockQ_miss rfl ?_
         refine seqQ_x <| blockQ_miss rfl <| seqQ_x <| blockQ_miss rfl <| seqQ_x <| blockQ_miss rfl <| seqQ_x <| blockQ_miss rfl <| seqQ_x <| blockQ_miss rfl <| seqQ_x <| blockQ_miss rfl ?_
         refine seqQ_x <| blockQ_miss rfl <| seqQ_x <| blockQ_miss rfl <| zs <| yD rfl rfl (.of (.t0 .rf)) (peJoin_P _ _ _ _ (by assumption) (by assumption) (by assumption)) <| zd <| zx <| blockQ_hit <| seqQ_n ?_
        exact ⟨(), trivial, by exact subxR rfl, by exact (.of (.t0 (.d .rf)))⟩
    · focus
       refine zs <| zf 10 rfl rfl ?_
      refine JT.openPe' (by (repeat (first | exact Has.here | assumption | apply Has.there))) (fun lb va vc wa wc ra rc rs e => ?_)
      focus
       refine zl rfl rfl <| zc rfl <| zd <| zr ?_
      exact retQS (ra, rc, rs) (by (repeat (first | exact Rets.nil | apply Rets.t rfl | (apply Rets.cw rfl; (· (repeat (first | exact Has.here | assumption | apply Has.there))); (· rfl)) | (apply Rets.cv rfl; (· (repeat (first | exact Has.here | assumption | apply Has.there))))))) e rfl (Up.of (Imp.trans (PeI.fold (b := b) (p := P0.ask1 t a) (lb := lb) (va := va) (vc := vc) (wa := wa) (wc := wc) (ra := ra) (rl := rs.length) (rc := rc) (by (repeat (first | exact Has.here | assumption | apply Has.there))) (by (repeat (first | exact Has.here | assumption | apply Has.there))) (by (repeat (first | exact Has.here | assumption | apply Has.there))) (by (repeat (first | exact Has.here | assumption | apply Has.there))) (Imp.refl _)) (by (repeat (first | exact Imp.refl _ | (apply Imp.take; (· (repeat (first | exact Has.here | assumption | apply Has.there)))) | fail | apply Imp.dropT | exact Imp.nil _)))))
  · rw [if_neg ho, if_neg ho]
    refine J.nilS rdyC 14 true (by decide) ?_
    focus
     refine zs <| yB rfl fun b5 => zc rfl <| zc rfl <| yD rfl rfl (.of (.t2 .rf)) (peMade_I _ _ _) <| zc rfl <| zd <| zq <| zu rfl <| zk <| zs <| zw rfl rfl ?_
     refine yD rfl rfl (.of .rf) (mgCheckAsk_fn _ _) <| zj rfl rfl rfl <| zd <| zq <| zi rfl (fun h1 => ?_) (fun h1 => ?_)
     refine zs <| zc rfl <| zc rfl <| zd <| zr <| seqQ_r ?_
     rotate_left
     contradiction
    refine retQ_up (Up.of RdA.nil) ?_
    exact retQS (none, 0, []) (by (repeat (first | exact Rets.nil | apply Rets.t rfl | (apply Rets.cw rfl; (· (repeat (first | exact Has.here | assumption | apply Has.there))); (· rfl)) | (apply Rets.cv rfl; (· (repeat (first | exact Has.here | assumption | apply Has.there))))))) rfl rfl (.of (.t3 (.t0 (.t0 (.d .rf)))))
end Go.Proofs.YtmeajliiloaegaaGreat
