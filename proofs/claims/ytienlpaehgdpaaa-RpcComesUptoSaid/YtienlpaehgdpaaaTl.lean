/- Layer 6, the reference: a caller: the functions. Conditions: none. -/
import Derived.Test.YtienlpaehgdpaaaTi
import Derived.Test.YtienlpaehgdpaaaTj
set_option linter.unusedSimpArgs false
set_option linter.unusedVariables false
set_option maxRecDepth 100000
set_option maxHeartbeats 4000000
namespace Go.SL
open Go
theorem Clr.ix_hit {C : Clr} {id : Int} {k : Nat} (hk : k < C.L.length) (hn : ∀ j, j < k → (nth C.L j).p.id ≠ id) (e : (nth C.L k).p.id = id) : C.ix id = some k := by
  unfold Clr.ix
  rw [List.findIdx?_eq_some_iff_getElem]
  refine ⟨hk, by rw [← nth_eq hk]; simp [e], fun j hj => ?_⟩
  rw [← nth_eq (show j < C.L.length by omega)]
  have := hn j hj
  simp only [decide_eq_true_eq]; exact fun h => this h.symm
theorem Clr.ix_miss {C : Clr} {id : Int} (hn : ∀ j, j < C.L.length → (nth C.L j).p.id ≠ id) : C.ix id = none := by
  unfold Clr.ix
  rw [List.findIdx?_eq_none_iff]
  intro x hx
  obtain ⟨j, hj, rfl⟩ := List.mem_iff_getElem.1 hx
  have := hn j hj
  rw [nth_eq hj] at this
  simp only [decide_eq_false_iff_not]; exact fun h => this h.symm
theorem eraseIdx_eq {α : Type} (l : List α) (i : Nat) : l.eraseIdx i = l.take i ++ l.drop (i + 1) := List.eraseIdx_eq_take_drop_succ l i
theorem set_mid {α : Type} {A B : List α} {x y : α} {i : Nat} (h : A.length = i) : (A ++ x :: B).set i y = A ++ y :: B := by subst h; simp
end Go.SL
namespace Go.Proofs.Ytienlpaehgdpaaa
open Go Go.SL
attribute [local irreducible] pc rc SlT Me Mt It pt ro pur ex sep old Meets
attribute [local irreducible] CallsA CallerP RCallerP
instance : TE 134 CallE callC 35 := ⟨callC_one, by decide⟩
instance : TE 63 PktE pktEC 34 := ⟨pktEC_one, by decide⟩
theorem r6NewCaller_ok (me : Ad) (n : Int) (F : List Assn) (h : 1 ≤ n ∧ n ≤ 1048576) : Meets Try.prog 18 [adv me, i64 n] F (Some' (fun _ : Nat => True) (fun b => .tuple #[ptr b, i64 0]) (fun b => RCallerP b (Clr.new me n) :: F)) := by
  refine Meets.intro b18 k18 (by simp) ?_
  refine J.nilS callC 35 false (by decide) ?_
  focus
   refine zs <| yB rfl fun b2 => zc rfl <| zc rfl <| zy (.cltF rfl rfl (by omega)) <| yG rfl <| zy (.cgtF rfl rfl (by omega)) <| zy (.pickF rfl rfl) <| zd <| zq <| zu rfl <| zk ?_
   refine zs <| zw rfl rfl <| zg rfl <| yB rfl fun b4 => zc rfl <| zd <| zr <| yQ _ (.t rfl (.t rfl .nil)) trivial rfl (.of (RCallerP.fold .here (.there .here) (.d .rf)))
theorem r6NewCaller_no (me : Ad) (n : Int) (F : List Assn) (h : ¬ (1 ≤ n ∧ n ≤ 1048576)) : Meets Try.prog 18 [adv me, i64 n] F (Det (.tuple #[.pointer none, i64 60]) F) := by
  refine Meets.intro b18 k18 (by simp) ?_
  focus
   refine zs <| yB rfl fun b2 => zc rfl <| zc rfl <| zj rfl rfl rfl <| zh rfl rfl (fun h1 => .int rfl rfl rfl) <| zy (.pickO rfl rfl rfl) <| zd <| zq <| zi rfl (fun h1 => ?_) (fun h1 => ?_)
   refine zs <| zc rfl <| zc rfl <| zd <| zr <| yR (.t rfl (.t rfl .nil)) rfl (.of (.d .rf))
   (exfalso; omega)
theorem r6cAsk_P (b : Nat) (C : Clr) (to : Ad) (a : SL.Ask) (F : List Assn) (hC : C.Ok) : Meets Try.prog 48 [ptr b, adv to, askv a] (RCallerP b C :: F) (Det (.tuple #[pkv (p0 (C.ask to a).2.1), i64 (C.ask to a).2.2]) (RCallerP b (C.ask to a).1 :: F)) := by
  refine Meets.intro b48 k48 (by simp) ?_
  refine J.openRClr Has.here (fun aa cc hcc hlen => ?_)
  have hlst := hC.lst
  have hl := hC.len
  by_cases h1 : a.ok
  · by_cases h2 : 256 ≤ C.L.length
    · have e : C.ask to a = (C, zPkt, 3) := by unfold Clr.ask; rw [if_neg (not_not_intro h1), if_pos h2]
      rw [e]
      focus
       refine zs <| yB rfl fun b4 => yB rfl fun b5 => yN fun b6 => zc rfl <| zw rfl rfl <| yD rfl rfl (.of .rf) (r4CheckAsk_fn _ _) <| zj rfl rfl rfl <| zd <| zq <| zi rfl (fun h3 => ?_) (fun h3 => ?_)
       contradiction
       refine zk <| zs <| zfl rfl rfl rfl <| zc rfl <| zy (.cgeT rfl rfl (by omega)) <| zd <| zq <| zt rfl <| zs <| zg rfl <| yW rfl rfl rfl rfl rfl <| zc rfl ?_
       refine zd <| zr <| yR (.w rfl rfl (.t rfl .nil)) rfl (.of (RCallerP.fold (.there (.there (.there .here))) (.there (.there (.there .here))) (.d (.d (.d .rf)))))
    · by_cases h3 : 4611686018427387904 ≤ C.last
      · have e : C.ask to a = (C, zPkt, 60) := by unfold Clr.ask; rw [if_neg (not_not_intro h1), if_neg h2, if_pos h3]
        rw [e]
        focus
         refine zs <| yB rfl fun b4 => yB rfl fun b5 => yN fun b6 => zc rfl <| zw rfl rfl <| yD rfl rfl (.of .rf) (r4CheckAsk_fn _ _) <| zj rfl rfl rfl <| zd <| zq <| zi rfl (fun h4 => ?_) (fun h4 => ?_)
         contradiction
         refine zk <| zs <| zfl rfl rfl rfl <| zc rfl <| zy (.cgeF rfl rfl (by omega)) <| zd <| zq <| zu rfl <| zk <| zs <| zfl rfl rfl rfl <| zy (.cgeT rfl rfl (by omega)) ?_
         refine zd <| zq <| zt rfl <| zs <| zg rfl <| yW rfl rfl rfl rfl rfl <| zc rfl <| zd <| zr <| yR (.w rfl rfl (.t rfl .nil)) rfl (.of (RCallerP.fold (.there (.there (.there .here))) (.there (.there (.there .here))) (.d (.d (.d .rf)))))
      · have e : C.ask to a = ({ C with last := C.last + 1, L := C.L ++ [⟨mkReq C to a, 0⟩] }, mkReq C to a, 0) := by unfold Clr.ask; rw [if_neg (not_not_intro h1), if_neg h2, if_neg h3]
        rw [e]
        focus
         refine zs <| yB rfl fun b4 => yB rfl fun b5 => yN fun b6 => zc rfl <| zw rfl rfl <| yD rfl rfl (.of .rf) (r4CheckAsk_fn _ _) <| zj rfl rfl rfl <| zd <| zq <| zi rfl (fun h4 => ?_) (fun h4 => ?_)
         contradiction
         refine zk <| zs <| zfl rfl rfl rfl <| zc rfl <| zy (.cgeF rfl rfl (by omega)) <| zd <| zq <| zu rfl <| zk <| zs <| zfl rfl rfl rfl <| zy (.cgeF rfl rfl (by omega)) ?_
         refine zd <| zq <| zu rfl <| zk <| zs <| zfl rfl rfl rfl <| zy (.add rfl rfl (Wr.i64 (by omega) (by omega))) <| zf 3 rfl rfl <| yS rfl rfl rfl rfl rfl (Nat.le_of_ble_eq_true rfl) rfl <| zfw [_, _] rfl rfl rfl rfl <| zw rfl rfl <| zfl rfl rfl rfl ?_
         refine zw rfl rfl <| zg rfl <| yN fun b8 => yW rfl rfl rfl rfl rfl <| zfl rfl rfl rfl <| zw rfl rfl <| zg rfl <| JT.both ?_ ?_
         refine JT.b0 fun a45 => JT.both ?_ ?_
         (refine JT.A3 rfl rfl rfl (by decide) (by simp; omega) (fun a50 c50 hc50 => ?_))
         refine JT.yA rfl (Ev.Lw rfl rfl) <| JT.bsl1 (by repeat (first | exact Cells.nil | apply Cells.z | (apply Cells.cl; rfl; rfl; rfl))) (by simp only [List.length_cons, List.length_nil, Nat.reduceAdd]; rfl) (by decide) (by rfl) fun a53 => ?_
         rotate_left
         refine JT.bsl1 (by repeat (first | exact Cells.nil | apply Cells.z | (apply Cells.cl; rfl; rfl; rfl))) (by simp only [List.length_cons, List.length_nil, Nat.reduceAdd]; rfl) (by decide) (by rfl) fun a53 => ?_
         (refine JT.A3 rfl rfl rfl (by decide) (by simp; omega) (fun a50 c50 hc50 => ?_))
         refine JT.yA rfl (Ev.Lw rfl rfl) ?_
         rotate_left
         refine JT.bsl1 (by repeat (first | exact Cells.nil | apply Cells.z | (apply Cells.cl; rfl; rfl; rfl))) (by simp only [List.length_cons, List.length_nil, Nat.reduceAdd]; rfl) (by decide) (by rfl) fun a53 => ?_
         refine JT.b0 fun a45 => ?_
         (refine JT.A3 rfl rfl rfl (by decide) (by simp; omega) (fun a50 c50 hc50 => ?_))
         refine JT.yA rfl (Ev.Lw rfl rfl) ?_
         rotate_left
        all_goals refine JT.A1 (v := ⟨mkReq C to a, 0⟩) rfl rfl (by rfl) rfl (by decide) (by simp only [List.nil_append]; omega) (fun a54 c54 hc54 => ?_)
        focus
         refine zc rfl <| zf 4 rfl rfl <| yS rfl rfl rfl rfl rfl (Nat.le_of_ble_eq_true rfl) rfl <| zd <| zs <| zw rfl rfl <| yW rfl rfl rfl rfl rfl <| zc rfl <| zd <| zr <| yR (.w rfl rfl (.t rfl .nil)) rfl (.frz (.there (.there .here)) (.of (RCallerP.fold (.there (.there .here)) .here (.d (.d (.d (.d (.d (.d .rf)))))))))
        focus
         refine zc rfl <| zf 4 rfl rfl <| yS rfl rfl rfl rfl rfl (Nat.le_of_ble_eq_true rfl) rfl <| zd <| zs <| zw rfl rfl <| yW rfl rfl rfl rfl rfl <| zc rfl <| zd <| zr <| yR (.w rfl rfl (.t rfl .nil)) rfl (.frz (.there (.there .here)) (.of (RCallerP.fold (.there (.there .here)) .here (.d (.d (.d (.d (.d (.d .rf)))))))))
        focus
         refine zc rfl <| zf 4 rfl rfl <| yS rfl rfl rfl rfl rfl (Nat.le_of_ble_eq_true rfl) rfl <| zd <| zs <| zw rfl rfl <| yW rfl rfl rfl rfl rfl <| zc rfl <| zd <| zr <| yR (.w rfl rfl (.t rfl .nil)) rfl (.frz (.there (.there .here)) (.of (RCallerP.fold (.there (.there .here)) .here (.d (.d (.d (.d (.d (.d .rf)))))))))
  · have e : C.ask to a = (C, zPkt, 40) := by unfold Clr.ask; rw [if_pos h1]
    rw [e]
    focus
     refine zs <| yB rfl fun b4 => yB rfl fun b5 => yN fun b6 => zc rfl <| zw rfl rfl <| yD rfl rfl (.of .rf) (r4CheckAsk_fn _ _) <| zj rfl rfl rfl <| zd <| zq <| zi rfl (fun h2 => ?_) (fun h2 => ?_)
     refine zs <| zg rfl <| yW rfl rfl rfl rfl rfl <| zc rfl <| zd <| zr <| yR (.w rfl rfl (.t rfl .nil)) rfl (.of (RCallerP.fold (.there (.there (.there .here))) (.there (.there (.there .here))) (.d (.d (.d .rf)))))
     contradiction
theorem r6cEnd_P (b : Nat) (C : Clr) (id : Int) (F : List Assn) (hC : C.Ok) : Meets Try.prog 51 [ptr b, i64 id] (RCallerP b C :: F) (Det (.tuple #[pkv (p0 (C.fin id).2.1), .bool (C.fin id).2.2]) (RCallerP b (C.fin id).1 :: F)) := by
  refine Meets.intro b51 k51 (by simp) ?_
  refine J.openRClr Has.here (fun aa cc hcc hlen => ?_)
  have hl := hC.len
  focus
   refine zs <| yN fun b4 => zc rfl <| zc rfl <| zd <| zq <| zb ?_
  refine J.lp (ι := Nat) (fun k => k ≤ C.L.length ∧ ∀ j, j < k → (nth C.L j).p.id ≠ id) (fun k => [(6, i64 (k : Int))]) (fun _ => pc b4 63 (pktEC (p0 zPkt)) :: pc b 127 (rclrC C aa cc) :: SlT false callC 35 (.slice aa C.L.length cc) cc C.L :: F) (fun k => C.L.length - k) 0 ⟨by omega, fun j hj => by omega⟩ (by exact subxR rfl) (.of (.t0 (.t0 (.t0 .rf)))) (fun k hk => ?_)
  obtain ⟨hk, hn⟩ := hk
  by_cases hlt : k < C.L.length
  · by_cases he : (nth C.L k).p.id = id
    · have e : C.fin id = ({ C with L := C.L.take k ++ C.L.drop (k + 1) }, (nth C.L k).p, true) := by unfold Clr.fin; rw [Clr.ix_hit hlt hn he, ← eraseIdx_eq]
      rw [e]
      focus
       refine zs <| zfl rfl rfl rfl <| zc rfl <| zy (.cltT rfl rfl (by omega)) <| zd <| zq <| zt rfl <| zk <| zq <| zb <| zs <| zfl rfl rfl rfl ?_
       refine zy (.iC rfl rfl (by omega)) <| zy (.fe rfl) <| zy (.fe2 5 rfl rfl) <| zy (.LE1 rfl (by omega) rfl (by decide)) <| zy (.ceqT rfl rfl (by omega)) <| zd <| zt rfl <| zs <| zfl rfl rfl rfl <| zy (.iC rfl rfl (by omega)) <| zy (.fe rfl) <| zy (.LEf rfl (by omega) (by decide)) ?_
       refine yN fun b7 => yW rfl rfl rfl rfl rfl <| zfl rfl rfl rfl ?_
       ((refine JT.G rfl .no (.c rfl) .no (by decide) (by omega) (by omega) (by omega) (by omega) (fun a43 => ?_)); (try simp only [List.take_length, List.drop_zero, Nat.sub_zero]))
       refine zf 4 rfl rfl <| zl rfl rfl <| zy (.addN rfl rfl (by omega)) ?_
       ((refine JT.G rfl (.c rfl) .no .no (by decide) (by omega) (by omega) (by omega) (by omega) (fun a51 => ?_)); (try simp only [List.take_length, List.drop_zero, Nat.sub_zero]))
       refine JT.b0 fun a37 => ?_
       (refine JT.A3 rfl rfl rfl (by decide) (by simp; omega) (fun a44 c44 hc44 => ?_))
       refine JT.yA rfl (Ev.L rfl rfl) ?_
       (refine JT.A3 rfl rfl rfl (by decide) (by simp; omega) (fun a52 c52 hc52 => ?_))
       refine zf 4 rfl rfl <| yS rfl rfl rfl rfl rfl (Nat.le_of_ble_eq_true rfl) rfl <| zw rfl rfl <| yW rfl rfl rfl rfl rfl <| zc rfl <| zd <| zr <| yR (.w rfl rfl (.t rfl .nil)) rfl (.frz (.there (.there .here)) (.of (RCallerP.fold (.there (.there .here)) .here (.d (.d (.d (.d (.d .rf))))))))
    · focus
       refine zs <| zfl rfl rfl rfl <| zc rfl <| zy (.cltT rfl rfl (by omega)) <| zd <| zq <| zt rfl <| zk <| zq <| zb <| zs <| zfl rfl rfl rfl ?_
       refine zy (.iC rfl rfl (by omega)) <| zy (.fe rfl) <| zy (.fe2 5 rfl rfl) <| zy (.LE1 rfl (by omega) rfl (by decide)) <| zy (.ceqF rfl rfl (by omega)) <| zd <| zu rfl <| zk <| zo <| zy (.addN rfl rfl (by omega)) <| zd <| ⟨_, ?_, (by omega), (subxR rfl), (.of (.t0 (.t0 (.t0 .rf))))⟩
      exact ⟨by omega, fun j hj => by
        rcases Nat.lt_succ_iff_lt_or_eq.1 hj with h | h
        · exact hn j h
        · subst h; exact he⟩
  · have e : C.fin id = (C, zPkt, false) := by unfold Clr.fin; rw [Clr.ix_miss (fun j hj => hn j (by omega))]
    rw [e]
    focus
     refine zs <| zfl rfl rfl rfl <| zc rfl <| zy (.cltF rfl rfl (by omega)) <| zd <| zq <| zu rfl <| zx <| zs <| zg rfl <| yW rfl rfl rfl rfl rfl <| zc rfl ?_
     refine zd <| zr <| yR (.w rfl rfl (.t rfl .nil)) rfl (.of (RCallerP.fold (.there .here) (.there .here) (.d .rf)))
theorem r6cTake_P (b : Nat) (C : Clr) (x : PktE) (F : List Assn) [H1 : HS F (.slice x.a x.p.ans.value.length x.c) UInt8 byteC 1 x.c x.p.ans.value] (hC : C.Ok) : Meets Try.prog 49 [ptr b, pkv x] (RCallerP b C :: F) (Det (.tuple #[pkv (p0 (C.take x.p).2.1), .bool (C.take x.p).2.2]) (RCallerP b (C.take x.p).1 :: F)) := by
  refine Meets.intro b49 k49 (by simp) ?_
  by_cases hc : x.p.ok ∧ x.p.reply = true ∧ x.p.dst = C.me
  · obtain ⟨h1, h2, h3⟩ := hc
    refine J.openRClr Has.here (fun aa cc hcc hlen => ?_)
    have hl := hC.len
    focus
     refine zs <| yB rfl fun b3 => yN fun b4 => zc rfl <| zw rfl rfl <| yD rfl rfl (.of .rf) (r4Check_fn _) <| zj rfl rfl rfl <| yF rfl (by assumption) <| zf 0 rfl rfl <| yF rfl (by assumption) <| zl rfl rfl <| yF rfl (by assumption) ?_
     refine zc rfl <| zy (.pickFp rfl (by assumption) rfl) <| yF rfl (by assumption) <| zf 3 rfl rfl <| yF rfl (by assumption) <| zy (.Lf rfl (Nat.le_of_ble_eq_true rfl)) <| yF rfl (by assumption) <| zf 0 rfl rfl <| yF rfl (by assumption) <| zy (.Lp (us := [_, _]) rfl (Nat.le_of_ble_eq_true rfl) rfl) <| yF rfl (by assumption) <| zy (.neTf rfl rfl (by assumption)) ?_
     refine zy (.pickFp rfl (by assumption) rfl) <| zd <| zq <| zu rfl <| zk <| zs <| zc rfl <| zd <| zq <| zb ?_
    refine J.lp (ι := Nat) (fun k => k ≤ C.L.length ∧ ∀ j, j < k → ¬ ((nth C.L j).p.id = x.p.id ∧ (nth C.L j).p.dst = x.p.src)) (fun k => [(6, i64 (k : Int))]) (fun _ => pc b3 63 (pktEC x) :: pc b4 63 (pktEC (p0 zPkt)) :: pc b 127 (rclrC C aa cc) :: SlT false callC 35 (.slice aa C.L.length cc) cc C.L :: F) (fun k => C.L.length - k) 0 ⟨by omega, fun j hj => by omega⟩ (by exact subxR rfl) (.of (.t1 (.t0 (.t0 (.t0 .rf))))) (fun k hk => ?_)
    obtain ⟨hk, hn⟩ := hk
    by_cases hlt : k < C.L.length
    · by_cases he : (nth C.L k).p.id = x.p.id
      · by_cases hd : (nth C.L k).p.dst = x.p.src
        · have hix : C.ix x.p.id = some k := Clr.ix_hit hlt (fun j hj e => by
            have := List.pairwise_iff_getElem.1 hC.srt j k (by omega) hlt hj
            rw [nth_eq (by omega)] at e; rw [nth_eq hlt] at he; omega) he
          have e : C.take x.p = C.fin x.p.id := by unfold Clr.take; rw [if_pos ⟨h1, h2, h3⟩, hix]; simp only; rw [if_pos hd]
          rw [e]
          focus
           refine zs <| zfl rfl rfl rfl <| zc rfl <| zy (.cltT rfl rfl (by omega)) <| zd <| zq <| zt rfl <| zk <| zq <| zb <| zs <| zfl rfl rfl rfl ?_
           refine zy (.iC rfl rfl (by omega)) <| zy (.fe rfl) <| zy (.fe2 5 rfl rfl) <| zy (.LE1 rfl (by omega) rfl (by decide)) <| zfl rfl rfl rfl <| zy (.ceqT rfl rfl (by omega)) <| yG rfl <| zf 4 rfl rfl <| yG rfl <| zl rfl rfl <| yG rfl <| zy (.iC rfl rfl (by omega)) ?_
           refine yG rfl <| zy (.fe rfl) <| yG rfl <| zy (.fe2 3 rfl rfl) <| yG rfl <| zy (.LEf rfl (by omega) (by decide)) <| yG rfl <| zf 1 rfl rfl <| yG rfl <| zy (.Lf rfl (Nat.le_of_ble_eq_true rfl)) <| yG rfl ?_
           refine zy (.eqTt rfl rfl (by assumption)) <| zy (.pickT rfl rfl) <| zd <| zt rfl <| zs <| zfl rfl rfl rfl <| yD rfl rfl (.of (RCallerP.fold (.there (.there .here)) (.there (.there .here)) .rf)) (r6cEnd_P _ _ _ _ (by assumption)) <| zc rfl <| zc rfl <| yW rfl rfl rfl rfl rfl <| zc rfl <| zd ?_
           refine zr <| yR (.w rfl rfl (.t rfl .nil)) rfl (.of (.t1 (.d (.d .rf))))
        · focus
           refine zs <| zfl rfl rfl rfl <| zc rfl <| zy (.cltT rfl rfl (by omega)) <| zd <| zq <| zt rfl <| zk <| zq <| zb <| zs <| zfl rfl rfl rfl ?_
           refine zy (.iC rfl rfl (by omega)) <| zy (.fe rfl) <| zy (.fe2 5 rfl rfl) <| zy (.LE1 rfl (by omega) rfl (by decide)) <| zfl rfl rfl rfl <| zy (.ceqT rfl rfl (by omega)) <| yG rfl <| zf 4 rfl rfl <| yG rfl <| zl rfl rfl <| yG rfl <| zy (.iC rfl rfl (by omega)) ?_
           refine yG rfl <| zy (.fe rfl) <| yG rfl <| zy (.fe2 3 rfl rfl) <| yG rfl <| zy (.LEf rfl (by omega) (by decide)) <| yG rfl <| zf 1 rfl rfl <| yG rfl <| zy (.Lf rfl (Nat.le_of_ble_eq_true rfl)) <| yG rfl ?_
           refine zy (.eqTf rfl rfl (by assumption)) <| zy (.pickT rfl rfl) <| zd <| zu rfl <| zk <| zo <| zy (.addN rfl rfl (by omega)) <| zd <| ⟨_, ?_, (by omega), (subxR rfl), (.of (.t0 (.t0 (.t0 (.t0 .rf)))))⟩
          exact ⟨by omega, fun j hj => by
            rcases Nat.lt_succ_iff_lt_or_eq.1 hj with h | h
            · exact hn j h
            · subst h; exact fun h => hd h.2⟩
      · focus
         refine zs <| zfl rfl rfl rfl <| zc rfl <| zy (.cltT rfl rfl (by omega)) <| zd <| zq <| zt rfl <| zk <| zq <| zb <| zs <| zfl rfl rfl rfl ?_
         refine zy (.iC rfl rfl (by omega)) <| zy (.fe rfl) <| zy (.fe2 5 rfl rfl) <| zy (.LE1 rfl (by omega) rfl (by decide)) <| zfl rfl rfl rfl <| zy (.ceqF rfl rfl (by omega)) <| zv rfl rfl <| zv rfl rfl <| zv rfl rfl <| zv rfl rfl <| zv rfl rfl <| zv rfl rfl ?_
         refine zv rfl rfl <| zv rfl rfl <| zv rfl rfl <| zy (.pickF rfl rfl) <| zd <| zu rfl <| zk <| zo <| zy (.addN rfl rfl (by omega)) <| zd <| ⟨_, ?_, (by omega), (subxR rfl), (.of (.t0 (.t0 (.t0 (.t0 .rf)))))⟩
        exact ⟨by omega, fun j hj => by
          rcases Nat.lt_succ_iff_lt_or_eq.1 hj with h | h
          · exact hn j h
          · subst h; exact fun h => he h.1⟩
    · have e : C.take x.p = (C, zPkt, false) := by
        unfold Clr.take; rw [if_pos ⟨h1, h2, h3⟩]
        cases hix : C.ix x.p.id with
        | none => rfl
        | some i =>
          obtain ⟨q1, q2⟩ := Clr.ix_some hix
          simp only
          rw [if_neg (fun h => hn i (by omega) ⟨q2, h⟩)]
      rw [e]
      focus
       refine zs <| zfl rfl rfl rfl <| zc rfl <| zy (.cltF rfl rfl (by omega)) <| zd <| zq <| zu rfl <| zx <| zs <| zg rfl <| yW rfl rfl rfl rfl rfl <| zc rfl ?_
       refine zd <| zr <| yR (.w rfl rfl (.t rfl .nil)) rfl (.of (RCallerP.fold (.there (.there .here)) (.there (.there .here)) (.d (.d .rf))))
  · have e : C.take x.p = (C, zPkt, false) := by unfold Clr.take; rw [if_neg hc]
    rw [e]
    refine J.openRClr Has.here (fun aa cc hcc hlen => ?_)
    focus
     refine zs <| yB rfl fun b3 => yN fun b4 => zc rfl <| zw rfl rfl <| yD rfl rfl (.of .rf) (r4Check_fn _) <| zj rfl rfl rfl <| zh rfl rfl (fun h1 => .fa' 0 rfl rfl) <| zh rfl rfl (fun h1 => by rw [h1]; exact .L rfl rfl) <| zh rfl rfl (fun h1 => by rw [h1]; exact .calc rfl) <| zy (.pickO rfl rfl rfl) <| zh rfl rfl (fun h1 => .fa' 3 rfl rfl) ?_
     refine zh rfl rfl (fun h1 => by rw [h1]; exact .Lf rfl (Nat.le_of_ble_eq_true rfl)) <| zh rfl rfl (fun h1 => .fa' 0 rfl rfl) <| zh rfl rfl (fun h1 => by rw [h1]; exact .Lp (us := [_, _]) rfl (Nat.le_of_ble_eq_true rfl) rfl) <| zh rfl rfl (fun h1 => by rw [h1]; exact .neT rfl rfl) <| zy (.pickO rfl rfl rfl) <| zd <| zq <| zi rfl (fun h1 => ?_) (fun h1 => ?_)
     refine zs <| zg rfl <| yW rfl rfl rfl rfl rfl <| zc rfl <| zd <| zr <| yR (.w rfl rfl (.t rfl .nil)) rfl (.of (RCallerP.fold (.there (.there .here)) (.there (.there .here)) (.d (.d .rf))))
     refine zk <| zs <| zc rfl <| zd <| zq <| zb ?_
    exact absurd ⟨h1.1.1, h1.1.2, h1.2⟩ hc
theorem r6cOpen_P (b : Nat) (C : Clr) (F : List Assn) (hC : C.Ok) : Meets Try.prog 23 [ptr b] (RCallerP b C :: F)
    (Some' (fun _ : Option Addr × Nat => True) (fun x => .slice x.1 (C.opn.map p0).length x.2) (fun x => SlT true pktEC 34 (.slice x.1 (C.opn.map p0).length x.2) x.2 (C.opn.map p0) :: RCallerP b C :: F)) := by
  refine Meets.intro b23 k23 (by simp) ?_
  refine J.openRClr Has.here (fun aa cc hcc hlen => ?_)
  have hl := hC.len
  focus
   refine zs <| zc rfl <| zc rfl <| zc rfl <| zd <| zq <| zb ?_
  refine J.lp (ι := Nat × Option Addr × Nat × List PktE) (fun i => i.1 ≤ C.L.length ∧ i.2.2.2 = (C.L.take i.1).map (fun x => p0 x.p)) (fun i => [(3, .slice i.2.1 i.2.2.2.length i.2.2.1), (4, i64 (i.1 : Int))])
    (fun i => SlT true pktEC 34 (.slice i.2.1 i.2.2.2.length i.2.2.1) i.2.2.1 i.2.2.2 :: pc b 127 (rclrC C aa cc) :: SlT false callC 35 (.slice aa C.L.length cc) cc C.L :: F)
    (fun i => C.L.length - i.1) (0, none, 0, []) ⟨by simp, by simp⟩ (by exact subxR rfl) (Up.nilS (enc := pktEC) (sz := 34) true (by decide) (.of (.t0 (.t0 (.t0 .rf))))) (fun i hi => ?_)
  obtain ⟨i, a3, c3, xs⟩ := i
  obtain ⟨hi, hxs⟩ := hi
  dsimp only at hi hxs ⊢
  have hxl : xs.length = i := by rw [hxs]; simp; omega
  by_cases hlt : i < C.L.length
  · have hsn : (C.L.take (i + 1)).map (fun x => p0 x.p) = xs ++ [p0 (nth C.L i).p] := by
      rw [List.take_add_one, List.getElem?_eq_getElem hlt, ← nth_eq hlt, hxs]; simp
    focus
     refine zs <| zfl rfl rfl rfl <| zc rfl <| zy (.cltT rfl rfl (by omega)) <| zd <| zq <| zt rfl <| zk <| zq <| zb <| zo <| zfl rfl rfl rfl ?_
     refine zy (.iC rfl rfl (by omega)) <| zy (.fe rfl) <| zy (.LEf rfl (by omega) (by decide)) <| JT.bsl1 (by repeat (first | exact Cells.nil | apply Cells.z | (apply Cells.cl; rfl; rfl; rfl))) (by simp only [List.length_cons, List.length_nil, Nat.reduceAdd]; rfl) (by decide) (by rfl) fun a23 => ?_
     (refine JT.A1 rfl rfl (by rfl) rfl (by decide) (by omega) (fun a3_1 c3_1 hc3 => ?_))
     refine zd <| zo <| zy (.addN rfl rfl (by omega)) <| zd <| ⟨⟨_, ⟨_, ⟨_, _⟩⟩⟩, ?_, (by omega), (subxR rfl), (.of (.t0 (.t1 (.t1 (.d .rf)))))⟩
    exact ⟨by dsimp only; omega, by dsimp only; rw [hsn]⟩
  · focus
     refine zs <| zfl rfl rfl rfl <| zc rfl <| zy (.cltF rfl rfl (by omega)) <| zd <| zq <| zu rfl <| zx <| zs <| zc rfl <| zd <| zr ?_
    have hx : xs = C.opn.map p0 := by rw [hxs, show i = C.L.length by omega, List.take_length]; simp [Clr.opn]
    subst hx
    exact retQS (a3, c3) (.t rfl .nil) trivial rfl (.of (.t0 (RCallerP.fold .here .here .rf)))
theorem r6cTick_P (b : Nat) (C : Clr) (F : List Assn) (hC : C.Ok) (hA : ∀ x ∈ C.L, x.age < 4611686018427387904) : Meets Try.prog 50 [ptr b] (RCallerP b C :: F)
    (Some' (fun _ : Option Addr × Nat => True) (fun x => .slice x.1 (C.tick.2.map p0).length x.2) (fun x => SlT true pktEC 34 (.slice x.1 (C.tick.2.map p0).length x.2) x.2 (C.tick.2.map p0) :: RCallerP b C.tick.1 :: F)) := by
  refine Meets.intro b50 k50 (by simp) ?_
  refine J.openRClr Has.here (fun aa cc hcc hlen => ?_)
  have hl := hC.len
  have hagn := hC.agn
  focus
   refine zs <| zc rfl <| zc rfl <| JT.b0 fun a6 => zfl rfl rfl rfl ?_
   (refine JT.A3 rfl rfl rfl (by decide) (by simp; omega) (fun a4 c4 hc4 => ?_))
   refine zc rfl <| zd <| zq <| zb ?_
  simp only [List.nil_append]
  refine J.lp (ι := Nat × (Option Addr × Nat × List PktE) × List CallE) (fun i => i.1 ≤ C.L.length ∧ i.2.1.2.2 = ((C.L.take i.1).filter C.due).map (fun x => p0 x.p) ∧ i.2.2 = (C.L.take i.1).map CallE.up ++ C.L.drop i.1) (fun i => [(3, .slice i.2.1.1 i.2.1.2.2.length i.2.1.2.1), (5, i64 (i.1 : Int))])
    (fun i => SlT true pktEC 34 (.slice i.2.1.1 i.2.1.2.2.length i.2.1.2.1) i.2.1.2.1 i.2.1.2.2 :: SlT true callC 35 (.slice a4 C.L.length c4) c4 i.2.2 :: pc b 127 (rclrC C aa cc) :: F)
    (fun i => C.L.length - i.1) (0, (none, 0, []), C.L) ⟨by simp, by simp, by simp⟩ (by exact subxR rfl) (Up.nilS (enc := pktEC) (sz := 34) true (by decide) (.of (.t0 (.t0 (.t0 (.d .rf)))))) (fun i hi => ?_)
  obtain ⟨i, ⟨a3, c3, xs⟩, M⟩ := i
  obtain ⟨hi, hxs, hM⟩ := hi
  dsimp only at hi hxs hM ⊢
  have hMl : M.length = C.L.length := by rw [hM]; simp; omega
  have hxl : xs.length ≤ i := by rw [hxs]; simp only [List.length_map]; exact Nat.le_trans (List.length_filter_le _ _) (by rw [List.length_take]; omega)
  by_cases hlt : i < C.L.length
  · have hL : (C.L.take i).length = i := by simp; omega
    have e1 : C.L.drop i = nth C.L i :: C.L.drop (i + 1) := by rw [List.drop_eq_getElem_cons hlt, nth_eq hlt]
    have hx : nth M i = nth C.L i := by
      have hiM : i < M.length := by omega
      have h1 : M[i]? = some (nth C.L i) := by rw [hM, e1, List.getElem?_append_right (by rw [List.length_map, hL]; exact Nat.le_refl _), List.length_map, hL, Nat.sub_self]; rfl
      rw [List.getElem?_eq_getElem hiM] at h1
      rw [nth_eq hiM]; exact Option.some.inj h1
    have hset : M.set i (nth C.L i).up = (C.L.take (i + 1)).map CallE.up ++ C.L.drop (i + 1) := by
      rw [hM, e1, List.take_add_one, List.getElem?_eq_getElem hlt, ← nth_eq hlt, List.map_append, set_mid (by rw [List.length_map, hL])]
      simp
    have hsl : (M.set i (nth C.L i).up).length = C.L.length := by simp [hMl]
    have hnn : nth (M.set i (nth C.L i).up) i = (nth C.L i).up := by rw [nth_eq (by omega)]; simp
    have hage0 := hC.age _ (nth_mem hlt)
    have hage1 := hA _ (nth_mem hlt)
    have hsn : ((C.L.take (i + 1)).filter C.due).map (fun x => p0 x.p) = xs ++ (if C.due (nth C.L i) then [p0 (nth C.L i).p] else []) := by
      rw [List.take_add_one, List.getElem?_eq_getElem hlt, ← nth_eq hlt, hxs, List.filter_append, List.map_append]
      congr 1
      simp only [Option.toList_some, List.filter_cons, List.filter_nil]
      split <;> rfl
    rw [← hx] at hset hsl hnn hage0 hage1 hsn
    focus
     refine zs <| zc rfl <| zy (.cltT rfl rfl (by omega)) <| zd <| zq <| zt rfl <| zk <| zq <| zb <| zs <| zy (.iC rfl rfl (by omega)) <| zy (.fe rfl) ?_
     refine zy (.LE1 rfl (by omega) rfl (by decide)) <| zy (.add rfl rfl (Wr.i64 (by omega) (by omega))) <| zy (.iC rfl rfl (by omega)) <| zy (.fe rfl) ?_
    refine JT.sE (x' := (nth M i).up) rfl rfl rfl rfl rfl (by omega) (by decide) (by rfl) ?_
    focus
     refine zy (.iC rfl rfl (by omega)) <| zy (.fe rfl) <| zy (.LE1 rfl (by omega) rfl (by decide)) <| zfl rfl rfl rfl ?_
    refine JT.q (Ev.rem rfl rfl (by omega)) ?_
    rw [hnn]
    by_cases hdue : Int.tmod ((nth M i).age + 1) C.again = 0
    · have hd : C.due (nth M i) = true := decide_eq_true hdue
      have hdue' : Int.tmod (nth M i).up.age C.again = 0 := hdue
      rw [if_pos hd] at hsn
      focus
       refine zy (.ceqT rfl rfl (by omega)) <| zd <| zt rfl <| zo <| zy (.iC rfl rfl (by omega)) <| zy (.fe rfl) <| zy (.LEf rfl (by omega) (by decide)) <| JT.bsl1 (by repeat (first | exact Cells.nil | apply Cells.z | (apply Cells.cl; rfl; rfl; rfl))) (by simp only [List.length_cons, List.length_nil, Nat.reduceAdd]; rfl) (by decide) (by rfl) fun a43 => ?_
       (refine JT.A1 rfl rfl (by rfl) rfl (by decide) (by omega) (fun a3_1 c3_1 hc3 => ?_))
       refine zd <| zo <| zy (.addN rfl rfl (by omega)) <| zd <| ⟨⟨_, ⟨⟨_, ⟨_, _⟩⟩, _⟩⟩, ?_, (by omega), (subxR rfl), (.of (.t0 (.t1 (.t1 (.d .rf)))))⟩
      exact ⟨by dsimp only; omega, by dsimp only; rw [hnn, hsn]; rfl, hset⟩
    · have hd : C.due (nth M i) = false := decide_eq_false hdue
      have hdue' : ¬ Int.tmod (nth M i).up.age C.again = 0 := hdue
      rw [if_neg (by rw [hd]; decide), List.append_nil] at hsn
      focus
       refine zy (.ceqF rfl rfl (by omega)) <| zd <| zu rfl <| zk <| zo <| zy (.addN rfl rfl (by omega)) <| zd <| ⟨⟨_, ⟨⟨_, ⟨_, _⟩⟩, _⟩⟩, ?_, (by omega), (subxR rfl), (.of (.t1 (.t0 (.t0 .rf))))⟩
      exact ⟨by dsimp only; omega, by dsimp only; rw [hsn], hset⟩
  · have hi' : i = C.L.length := by omega
    subst hi'
    rw [List.take_length, List.drop_length, List.append_nil] at hM
    rw [List.take_length] at hxs
    have hx : xs = C.tick.2.map p0 := by rw [hxs]; simp [Clr.tick]
    have hx2 : M = C.tick.1.L := hM
    subst hx hx2
    focus
     refine zs <| zc rfl <| zy (.cltF rfl rfl (by omega)) <| zd <| zq <| zu rfl <| zx <| zs <| zf 4 rfl rfl <| yS rfl rfl rfl rfl rfl (Nat.le_of_ble_eq_true rfl) rfl <| zc rfl <| zd ?_
     refine zr ?_
    rw [← hMl]
    exact retQS (a3, c3) (.t rfl .nil) trivial rfl (Up.frz (by (repeat (first | exact Has.here | assumption | apply Has.there)) : Has _ (SlT true callC 35 (.slice a4 C.tick.1.L.length c4) c4 C.tick.1.L) _) (Up.of (Imp.trans (Imp.take (c := SlT true pktEC 34 (.slice a3 (C.tick.2.map p0).length c3) c3 (C.tick.2.map p0)) (by (repeat (first | exact Has.here | assumption | apply Has.there))) (Imp.refl _)) (Imp.cons (RCallerP.fold (C := C.tick.1) (a := a4) (c := c4) (by (repeat (first | exact Has.here | assumption | apply Has.there))) (by (repeat (first | exact Has.here | assumption | apply Has.there))) (by (repeat (first | exact Imp.refl _ | (apply Imp.take; (· (repeat (first | exact Has.here | assumption | apply Has.there)))) | fail | apply Imp.dropT | exact Imp.nil _))))))))
theorem pks_get {xs : List PktE} {i : Nat} {F : List Assn} (h : i < xs.length) : Imp (PksA xs :: F) (pkO (nth xs i) :: PksA xs :: F) := PksA.get h
theorem r6Same_fn {a1 a2 : Option Addr} {c1 c2 : Nat} {xs ys : List PktE} {F : List Assn} [H1 : HS F (.slice a1 xs.length c1) PktE pktEC 34 c1 xs] [H2 : HS F (.slice a2 ys.length c2) PktE pktEC 34 c2 ys] :
    Meets Try.prog 21 [.slice a1 xs.length c1, .slice a2 ys.length c2] (PksA xs :: PksA ys :: F) (Det (.bool (decide (xs.map (·.p) = ys.map (·.p)))) F) := by
  refine Meets.intro b21 k21 (by simp) ?_
  refine J.sl (inferInstance : HS (PksA xs :: PksA ys :: F) (.slice a1 xs.length c1) PktE pktEC 34 c1 xs) (fun hC hL _ => ?_)
  have e1 : (xs.map (·.p)).length = xs.length := by simp
  have e2 : (ys.map (·.p)).length = ys.length := by simp
  focus
   refine zs <| zc rfl <| zc rfl <| zc rfl <| zj rfl rfl rfl <| zd <| zq <| zi rfl (fun h1 => ?_) (fun h1 => ?_)
   refine zs <| zc rfl <| zd <| zr <| yR (.t rfl .nil) ?_ (.of (.d (.d .rf)))
   rotate_left
   refine zk <| zs <| zc rfl <| zd <| zq <| zb ?_
   rotate_left
  · simp only [mkRet]; rw [decide_eq_false (ne_of_len (by omega))]
  refine J.lp (ι := Nat) (fun k => k ≤ xs.length ∧ ∀ j, j < k → nth (xs.map (·.p)) j = nth (ys.map (·.p)) j) (fun k => [(5, i64 k)]) (fun _ => PksA xs :: PksA ys :: F) (fun k => xs.length - k) 0 ⟨by omega, fun j hj => by omega⟩ (by exact subxR rfl) (Up.refl _) (fun k hk => ?_)
  obtain ⟨hk, hn⟩ := hk
  by_cases hlt : k < xs.length
  · have n1 : nth (xs.map (·.p)) k = (nth xs k).p := by rw [nth_eq (by simpa using hlt), nth_eq hlt, List.getElem_map]
    have n2 : nth (ys.map (·.p)) k = (nth ys k).p := by rw [nth_eq (by simp; omega), nth_eq (show k < ys.length by omega), List.getElem_map]
    refine J.imp (PksA.get hlt) ?_
    refine J.imp (Imp.take (c := PksA ys) (by (repeat (first | exact Has.here | assumption | apply Has.there))) (Imp.refl _)) ?_
    refine J.imp (PksA.get (show k < ys.length by omega)) ?_
    by_cases hs : (nth xs k).p = (nth ys k).p
    · focus
       refine zs <| zc rfl <| zy (.cltT rfl rfl (by omega)) <| zd <| zq <| zt rfl <| zk <| zq <| zb <| zs <| zy (.iC rfl rfl (by omega)) <| zy (.LE rfl (by omega)) ?_
       refine zy (.iC rfl rfl (by omega)) <| zy (.LE rfl (by omega)) <| yD rfl rfl (.of .rf) (r4Same_fn _ _) <| zc rfl <| zd <| zi rfl (fun h2 => ?_) (fun h2 => ?_)
       contradiction
       refine zk <| zo <| zy (.addN rfl rfl (by omega)) <| zd <| ⟨_, ?_, (by omega), (subxR rfl), (.of (.t3 (.t1 (.d (.d .rf)))))⟩
      exact ⟨by omega, all_lt_succ hn (by rw [n1, n2]; exact hs)⟩
    · focus
       refine zs <| zc rfl <| zy (.cltT rfl rfl (by omega)) <| zd <| zq <| zt rfl <| zk <| zq <| zb <| zs <| zy (.iC rfl rfl (by omega)) <| zy (.LE rfl (by omega)) ?_
       refine zy (.iC rfl rfl (by omega)) <| zy (.LE rfl (by omega)) <| yD rfl rfl (.of .rf) (r4Same_fn _ _) <| zc rfl <| zd <| zi rfl (fun h2 => ?_) (fun h2 => ?_)
       refine zs <| zc rfl <| zd <| zr <| yR (.t rfl .nil) ?_ (.of (.d (.d (.d (.d .rf)))))
       rotate_left
       contradiction
      simp only [mkRet]; rw [decide_eq_false (ne_of_nth (j := k) (fun e => hs (by rw [n1, n2] at e; exact e)))]
  · focus
     refine zs <| zc rfl <| zy (.cltF rfl rfl (by omega)) <| zd <| zq <| zu rfl <| zx <| zs <| zc rfl <| zd <| zr <| yR (.t rfl .nil) ?_ (.of (.d (.d .rf)))
    simp only [mkRet]; rw [decide_eq_true (eq_of_nth (by omega) fun j hj => hn j (by omega))]
end Go.Proofs.Ytienlpaehgdpaaa
