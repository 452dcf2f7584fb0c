/- The law RpcMany: what its function does. Conditions: none. -/
import Derived.Test.YtienlpaehgdpaaaTq
set_option linter.unusedSimpArgs false
set_option linter.unusedVariables false
set_option maxRecDepth 100000
set_option maxHeartbeats 4000000
namespace Go.SL
open Go
theorem Clr.fin_ok {C : Clr} {id : Int} (h : (C.fin id).2.2 = true) : (C.fin id).1.L.length + 1 = C.L.length := by
  rcases Clr.fin_cases C id with ⟨e, _⟩ | ⟨i, hi, e⟩
  · rw [e] at h; cases h
  · rw [e]; have := (Clr.ix_some hi).1; simp only [List.length_eraseIdx]; rw [if_pos this]; omega
theorem Clr.fin_no {C : Clr} {id : Int} (h : (C.fin id).2.2 = false) : (C.fin id).1 = C := by
  rcases Clr.fin_cases C id with ⟨e, _⟩ | ⟨i, hi, e⟩
  · rw [e]
  · rw [e] at h; cases h
theorem Clr.fin_last (C : Clr) (id : Int) : (C.fin id).1.last = C.last := by
  rcases Clr.fin_cases C id with ⟨e, _⟩ | ⟨i, hi, e⟩ <;> rw [e]
theorem aQ_ok : aQ.ok := by decide
end Go.SL
namespace Go.Proofs.Ytienlpaehgdpaaa
open Go Go.SL
attribute [local irreducible] pc rc SlT Me Mt It pt ro pur ex sep old Meets
attribute [local irreducible] CallsA CallerP KnP KnsA AnswererP
theorem RpcMany_fn {a1 : Option Addr} {c1 : Nat} {xs : List UInt8} (n : Int) {F : List Assn} [Hs : HS F (.slice a1 xs.length c1) UInt8 byteC 1 c1 xs] (h0 : 0 ≤ n) (h1 : n < 65536) :
    Meets Try.prog 5 [.int .u16 n, .slice a1 xs.length c1] F (Det (.bool true) F) := by
  refine Meets.intro b5 k5 (by simp) ?_
  refine J.sl Hs (fun hC hL _ => ?_)
  focus
   refine zs <| zc rfl <| yD rfl rfl (.of .rf) (l06awake_fn _) <| zc rfl <| zd <| zq <| zu rfl <| zk <| zs <| yD rfl rfl (.of .rf) (l06agent_fn _) <| yE rfl rfl (.of .rf) (rcNew_ok ⟨_, _⟩ _ _ (by omega)) fun x18 _ => zc rfl ?_
   refine zc rfl <| zc rfl <| zy (.cneF rfl rfl (by decide)) <| zd <| zq <| zu rfl <| zk <| zs <| zc rfl <| zc rfl <| zc rfl <| zd ?_
   refine zq <| zb ?_
  refine J.lp (ι := Nat × Int × Int × Clr) (fun i => (i.1 : Int) ≤ Int.tmod n 400 ∧ i.2.2.2.Ok ∧ i.2.2.1 ≤ i.1 ∧ i.2.1 = i.2.2.2.L.length ∧ i.2.2.1 = i.2.2.2.last) (fun i => [(7, i64 i.2.1), (8, i64 i.2.2.1), (9, i64 (i.1 : Int))])
    (fun i => CallerP x18 i.2.2.2 :: F) (fun i => (Int.tmod n 400).toNat - i.1) (0, 0, 0, Clr.new ⟨true, 1⟩ 1) ⟨by simp; exact Int.tmod_nonneg _ h0, .new _ (by decide), by simp, by simp [Clr.new], by simp [Clr.new]⟩ (by exact subxR rfl) (.of (.t0 .rf)) (fun i hi => ?_)
  obtain ⟨i, o, d, C⟩ := i
  obtain ⟨hi, hO, hla, ho, hd⟩ := hi
  dsimp only at hi hO hla ho hd ⊢
  have hT0 : 0 ≤ Int.tmod n 400 := Int.tmod_nonneg _ h0
  have hT1 : Int.tmod n 400 < 400 := Int.tmod_lt_of_pos _ (by decide)
  have hlst := hO.lst
  have hlen := hO.len
  by_cases hlt : (i : Int) < Int.tmod n 400
  · by_cases hf : C.L.length < 256
    · obtain ⟨C1, hC1⟩ : ∃ C1 : Clr, C1 = { C with last := C.last + 1, L := C.L ++ [⟨mkReq C ⟨false, 2⟩ aQ, 0⟩] } := ⟨_, rfl⟩
      have e : C.ask ⟨false, 2⟩ aQ = (C1, mkReq C ⟨false, 2⟩ aQ, 0) := by
        unfold Clr.ask; rw [if_neg (not_not_intro aQ_ok), if_neg (by omega), if_neg (by omega), hC1]
      have hO1 : C1.Ok := by have := hO.ask ⟨false, 2⟩ aQ; rw [e] at this; exact this
      have hl1 : C1.L.length = C.L.length + 1 := by rw [hC1]; simp
      have hla1 : C1.last = C.last + 1 := by rw [hC1]
      have hfl := Clr.fin_last C1 (d + 1)
      have hfo := hO1.fin (d + 1)
      have hP : ∀ F, Meets Try.prog 25 [ptr x18, adv ⟨false, 2⟩, askv aQ] (CallerP x18 C :: F) (Det (.tuple #[pkv (p0 ⟨false, C.me, ⟨false, 2⟩, d + 1, aQ, zAns⟩), i64 0]) (CallerP x18 C1 :: F)) := fun F => by
        have := rcAsk_P x18 C ⟨false, 2⟩ aQ F hO
        rw [e, mkReq, ← hd] at this; exact this
      have hQ := fun F => rcEnd_P x18 C1 (d + 1) F
      cases hr : (C1.fin (d + 1)).2.2 with
      | true =>
        have hd2 := Clr.fin_ok hr
        rw [hr] at hQ
        generalize (C1.fin (d + 1)).1 = C2 at hQ hfl hfo hd2
        focus
         refine zs <| zy (.cv rfl (Wr.i64 (by omega) (by omega))) <| zj rfl rfl rfl <| zy (.cltT rfl rfl (by omega)) <| zd <| zq <| zt rfl <| zk <| zq <| zb <| zs <| yD rfl rfl (.of .rf) (l06peer_fn _) ?_
         refine zg rfl <| yD rfl rfl (.of (.t0 .rf)) (hP _) <| zc rfl <| zc rfl <| yN fun b10 => yW rfl rfl rfl rfl rfl <| zc rfl <| zy (.ceqT rfl rfl (by decide)) <| zy (.cltT rfl rfl (by omega)) <| zc rfl <| yG rfl <| zy (.cneF rfl rfl (by decide)) ?_
         refine yG rfl <| zc rfl <| zv rfl rfl <| yG rfl <| zy (.pickF rfl rfl) <| zy (.pickF rfl rfl) <| zd <| zq <| zu rfl <| zk <| zs <| zy (.ceqT rfl rfl (by decide)) ?_
         refine zd <| zq <| zt rfl <| zs <| zy (.add rfl rfl (Wr.i64 (by omega) (by omega))) <| zy (.add rfl rfl (Wr.i64 (by omega) (by omega))) <| zfl rfl rfl rfl <| zj rfl rfl rfl <| zd <| zi rfl (fun h2 => ?_) (fun h2 => ?_)
         contradiction
         refine zk <| zs <| zc rfl <| zj rfl rfl rfl <| zp rfl (fun h3 => ?_) (fun h3 => ?_)
         refine zy (.iC rfl rfl (by omega)) <| yT rfl (by assumption) <| zy (.LE0 rfl (by omega) rfl) <| yT rfl (by assumption) <| zj rfl rfl rfl <| yT rfl (by assumption) <| zj rfl rfl rfl <| zy (.pickTp rfl (by assumption) rfl) <| zd <| zi rfl (fun h4 => ?_) (fun h4 => ?_)
         refine zs <| yD rfl rfl (.of (.t1 .rf)) (hQ _) <| zc rfl <| zc rfl <| yN fun b12 => yW rfl rfl rfl rfl rfl <| zc rfl <| zd <| zt rfl <| zo <| zy (.sub rfl rfl (Wr.i64 (by omega) (by omega))) <| zd ?_
         refine zo <| zy (.addN rfl rfl (by omega)) <| zd <| ⟨⟨_, ⟨_, ⟨_, _⟩⟩⟩, ?_, (by omega), (subxR rfl), (.of (.t1 (.d (.d .rf))))⟩
         rotate_left
         refine zk <| zo <| zy (.addN rfl rfl (by omega)) <| zd <| ⟨⟨_, ⟨_, ⟨_, _⟩⟩⟩, ?_, (by omega), (subxR rfl), (.of (.t1 (.d .rf)))⟩
         rotate_left
         refine yTs rfl (by assumption) <| yTs rfl (by assumption) <| yTs rfl (by assumption) <| zy (.pickFp rfl (by assumption) rfl) <| zd <| zu rfl <| zk <| zo <| zy (.addN rfl rfl (by omega)) <| zd <| ⟨⟨_, ⟨_, ⟨_, _⟩⟩⟩, ?_, (by omega), (subxR rfl), (.of (.t1 (.d .rf)))⟩
         rotate_left
        all_goals (refine ⟨by dsimp only; omega, by first | exact hfo | exact hO1, by dsimp only; omega, by dsimp only; omega, by dsimp only; omega⟩)
      | false =>
        have hd2 := Clr.fin_no hr
        rw [hr, hd2] at hQ
        focus
         refine zs <| zy (.cv rfl (Wr.i64 (by omega) (by omega))) <| zj rfl rfl rfl <| zy (.cltT rfl rfl (by omega)) <| zd <| zq <| zt rfl <| zk <| zq <| zb <| zs <| yD rfl rfl (.of .rf) (l06peer_fn _) ?_
         refine zg rfl <| yD rfl rfl (.of (.t0 .rf)) (hP _) <| zc rfl <| zc rfl <| yN fun b10 => yW rfl rfl rfl rfl rfl <| zc rfl <| zy (.ceqT rfl rfl (by decide)) <| zy (.cltT rfl rfl (by omega)) <| zc rfl <| yG rfl <| zy (.cneF rfl rfl (by decide)) ?_
         refine yG rfl <| zc rfl <| zv rfl rfl <| yG rfl <| zy (.pickF rfl rfl) <| zy (.pickF rfl rfl) <| zd <| zq <| zu rfl <| zk <| zs <| zy (.ceqT rfl rfl (by decide)) ?_
         refine zd <| zq <| zt rfl <| zs <| zy (.add rfl rfl (Wr.i64 (by omega) (by omega))) <| zy (.add rfl rfl (Wr.i64 (by omega) (by omega))) <| zfl rfl rfl rfl <| zj rfl rfl rfl <| zd <| zi rfl (fun h2 => ?_) (fun h2 => ?_)
         contradiction
         refine zk <| zs <| zc rfl <| zj rfl rfl rfl <| zp rfl (fun h3 => ?_) (fun h3 => ?_)
         refine zy (.iC rfl rfl (by omega)) <| yT rfl (by assumption) <| zy (.LE0 rfl (by omega) rfl) <| yT rfl (by assumption) <| zj rfl rfl rfl <| yT rfl (by assumption) <| zj rfl rfl rfl <| zy (.pickTp rfl (by assumption) rfl) <| zd <| zi rfl (fun h4 => ?_) (fun h4 => ?_)
         refine zs <| yD rfl rfl (.of (.t1 .rf)) (hQ _) <| zc rfl <| zc rfl <| yN fun b12 => yW rfl rfl rfl rfl rfl <| zc rfl <| zd <| zu rfl <| zk <| zo <| zy (.addN rfl rfl (by omega)) ?_
         refine zd <| ⟨⟨_, ⟨_, ⟨_, _⟩⟩⟩, ?_, (by omega), (subxR rfl), (.of (.t1 (.d (.d .rf))))⟩
         rotate_left
         refine zk <| zo <| zy (.addN rfl rfl (by omega)) <| zd <| ⟨⟨_, ⟨_, ⟨_, _⟩⟩⟩, ?_, (by omega), (subxR rfl), (.of (.t1 (.d .rf)))⟩
         rotate_left
         refine yTs rfl (by assumption) <| yTs rfl (by assumption) <| yTs rfl (by assumption) <| zy (.pickFp rfl (by assumption) rfl) <| zd <| zu rfl <| zk <| zo <| zy (.addN rfl rfl (by omega)) <| zd <| ⟨⟨_, ⟨_, ⟨_, _⟩⟩⟩, ?_, (by omega), (subxR rfl), (.of (.t1 (.d .rf)))⟩
         rotate_left
        all_goals (refine ⟨by dsimp only; omega, by first | exact hfo | exact hO1, by dsimp only; omega, by dsimp only; omega, by dsimp only; omega⟩)
    · have e : C.ask ⟨false, 2⟩ aQ = (C, zPkt, 3) := by
        unfold Clr.ask; rw [if_neg (not_not_intro aQ_ok), if_pos (by omega)]
      have hfl := Clr.fin_last C d
      have hfo := hO.fin d
      have hP := fun F => rcAsk_P x18 C ⟨false, 2⟩ aQ F hO
      rw [e] at hP
      have hQ := fun F => rcEnd_P x18 C d F
      cases hr : (C.fin d).2.2 with
      | true =>
        have hd2 := Clr.fin_ok hr
        rw [hr] at hQ
        generalize (C.fin d).1 = C2 at hQ hfl hfo hd2
        focus
         refine zs <| zy (.cv rfl (Wr.i64 (by omega) (by omega))) <| zj rfl rfl rfl <| zy (.cltT rfl rfl (by omega)) <| zd <| zq <| zt rfl <| zk <| zq <| zb <| zs <| yD rfl rfl (.of .rf) (l06peer_fn _) ?_
         refine zg rfl <| yD rfl rfl (.of (.t0 .rf)) (hP _) <| zc rfl <| zc rfl <| yN fun b10 => yW rfl rfl rfl rfl rfl <| zc rfl <| zy (.ceqF rfl rfl (by (try simp only [List.length_nil, List.length_cons, List.length_append, List.length_take, List.length_drop, List.length_set]); omega)) <| zy (.cltF rfl rfl (by omega)) <| zc rfl <| yG rfl <| zy (.cneT rfl rfl (by (try simp only [List.length_nil, List.length_cons, List.length_append, List.length_take, List.length_drop, List.length_set]); omega)) ?_
         refine yG rfl <| zc rfl <| yG rfl <| zj rfl rfl rfl <| yG rfl <| zy (.pickT rfl rfl) <| zy (.pickF rfl rfl) <| zd <| zq <| zi rfl (fun h2 => ?_) (fun h2 => ?_)
         contradiction
         refine zk <| zs <| zy (.ceqF rfl rfl (by omega)) <| zd <| zq <| zu rfl <| zk <| zs <| zc rfl <| zj rfl rfl rfl <| zp rfl (fun h3 => ?_) (fun h3 => ?_)
         refine zy (.iC rfl rfl (by omega)) <| yT rfl (by assumption) <| zy (.LE0 rfl (by omega) rfl) <| yT rfl (by assumption) <| zj rfl rfl rfl <| yT rfl (by assumption) <| zj rfl rfl rfl <| zy (.pickTp rfl (by assumption) rfl) <| zd <| zi rfl (fun h4 => ?_) (fun h4 => ?_)
         refine zs <| yD rfl rfl (.of (.t1 .rf)) (hQ _) <| zc rfl <| zc rfl <| yN fun b12 => yW rfl rfl rfl rfl rfl <| zc rfl <| zd <| zt rfl <| zo <| zy (.sub rfl rfl (Wr.i64 (by omega) (by omega))) <| zd ?_
         refine zo <| zy (.addN rfl rfl (by omega)) <| zd <| ⟨⟨_, ⟨_, ⟨_, _⟩⟩⟩, ?_, (by omega), (subxR rfl), (.of (.t1 (.d (.d .rf))))⟩
         rotate_left
         refine zk <| zo <| zy (.addN rfl rfl (by omega)) <| zd <| ⟨⟨_, ⟨_, ⟨_, _⟩⟩⟩, ?_, (by omega), (subxR rfl), (.of (.t1 (.d .rf)))⟩
         rotate_left
         refine yTs rfl (by assumption) <| yTs rfl (by assumption) <| yTs rfl (by assumption) <| zy (.pickFp rfl (by assumption) rfl) <| zd <| zu rfl <| zk <| zo <| zy (.addN rfl rfl (by omega)) <| zd <| ⟨⟨_, ⟨_, ⟨_, _⟩⟩⟩, ?_, (by omega), (subxR rfl), (.of (.t1 (.d .rf)))⟩
         rotate_left
        all_goals (refine ⟨by dsimp only; omega, by first | exact hfo | exact hO, by dsimp only; omega, by dsimp only; omega, by dsimp only; omega⟩)
      | false =>
        have hd2 := Clr.fin_no hr
        rw [hr, hd2] at hQ
        focus
         refine zs <| zy (.cv rfl (Wr.i64 (by omega) (by omega))) <| zj rfl rfl rfl <| zy (.cltT rfl rfl (by omega)) <| zd <| zq <| zt rfl <| zk <| zq <| zb <| zs <| yD rfl rfl (.of .rf) (l06peer_fn _) ?_
         refine zg rfl <| yD rfl rfl (.of (.t0 .rf)) (hP _) <| zc rfl <| zc rfl <| yN fun b10 => yW rfl rfl rfl rfl rfl <| zc rfl <| zy (.ceqF rfl rfl (by (try simp only [List.length_nil, List.length_cons, List.length_append, List.length_take, List.length_drop, List.length_set]); omega)) <| zy (.cltF rfl rfl (by omega)) <| zc rfl <| yG rfl <| zy (.cneT rfl rfl (by (try simp only [List.length_nil, List.length_cons, List.length_append, List.length_take, List.length_drop, List.length_set]); omega)) ?_
         refine yG rfl <| zc rfl <| yG rfl <| zj rfl rfl rfl <| yG rfl <| zy (.pickT rfl rfl) <| zy (.pickF rfl rfl) <| zd <| zq <| zi rfl (fun h2 => ?_) (fun h2 => ?_)
         contradiction
         refine zk <| zs <| zy (.ceqF rfl rfl (by omega)) <| zd <| zq <| zu rfl <| zk <| zs <| zc rfl <| zj rfl rfl rfl <| zp rfl (fun h3 => ?_) (fun h3 => ?_)
         refine zy (.iC rfl rfl (by omega)) <| yT rfl (by assumption) <| zy (.LE0 rfl (by omega) rfl) <| yT rfl (by assumption) <| zj rfl rfl rfl <| yT rfl (by assumption) <| zj rfl rfl rfl <| zy (.pickTp rfl (by assumption) rfl) <| zd <| zi rfl (fun h4 => ?_) (fun h4 => ?_)
         refine zs <| yD rfl rfl (.of (.t1 .rf)) (hQ _) <| zc rfl <| zc rfl <| yN fun b12 => yW rfl rfl rfl rfl rfl <| zc rfl <| zd <| zu rfl <| zk <| zo <| zy (.addN rfl rfl (by omega)) ?_
         refine zd <| ⟨⟨_, ⟨_, ⟨_, _⟩⟩⟩, ?_, (by omega), (subxR rfl), (.of (.t1 (.d (.d .rf))))⟩
         rotate_left
         refine zk <| zo <| zy (.addN rfl rfl (by omega)) <| zd <| ⟨⟨_, ⟨_, ⟨_, _⟩⟩⟩, ?_, (by omega), (subxR rfl), (.of (.t1 (.d .rf)))⟩
         rotate_left
         refine yTs rfl (by assumption) <| yTs rfl (by assumption) <| yTs rfl (by assumption) <| zy (.pickFp rfl (by assumption) rfl) <| zd <| zu rfl <| zk <| zo <| zy (.addN rfl rfl (by omega)) <| zd <| ⟨⟨_, ⟨_, ⟨_, _⟩⟩⟩, ?_, (by omega), (subxR rfl), (.of (.t1 (.d .rf)))⟩
         rotate_left
        all_goals (refine ⟨by dsimp only; omega, by first | exact hfo | exact hO, by dsimp only; omega, by dsimp only; omega, by dsimp only; omega⟩)
  · focus
     refine zs <| zy (.cv rfl (Wr.i64 (by omega) (by omega))) <| zj rfl rfl rfl <| zy (.cltF rfl rfl (by omega)) <| zd <| zq <| zu rfl <| zx <| zs <| yE rfl rfl (.of (.t0 .rf)) (rcOpen_P _ _ _ (by assumption)) fun ⟨a82, c82⟩ _ => zc rfl <| zj rfl rfl rfl ?_
     refine zd <| zr <| yR (.t rfl .nil) ?_ (.of (.d (.d .rf)))
    simp only [mkRet]; rw [decide_eq_true (by rw [ho]; simp [Clr.opn])]
end Go.Proofs.Ytienlpaehgdpaaa
