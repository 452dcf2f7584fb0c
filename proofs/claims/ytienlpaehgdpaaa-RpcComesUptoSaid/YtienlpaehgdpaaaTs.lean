/- The law RpcOnce: what its functions do. Conditions: none. -/
import Derived.Test.YtienlpaehgdpaaaTp
set_option linter.unusedSimpArgs false
set_option linter.unusedVariables false
set_option maxRecDepth 100000
set_option maxHeartbeats 4000000
namespace Go.SL
open Go
/-- What one event adds at most. -/
structure TwoS.Grow (S S' : TwoS) : Prop where
  n : S'.net.length ≤ S.net.length + 256
  g : S'.gave.length ≤ S.gave.length + 1
  t : S'.told.length ≤ S.told.length + 1
  a : S'.A.L.length ≤ S.A.L.length + 1
  y : ∀ k, S.C.young k → S'.C.young (k + 1)
theorem Clr.young.up {C : Clr} {k : Nat} (h : C.young k) : C.young (k + 1) := fun x hx => by have := h x hx; omega
theorem Clr.young.take {C : Clr} {k : Nat} (h : C.young k) (p : Pkt) : (C.take p).1.young k := by
  rcases Clr.take_cases C p with e | ⟨i, _, e, _⟩ <;> rw [e]
  · exact h
  · exact fun x hx => h x (mem_of_erase hx)
theorem Clr.young.ask {C : Clr} {k : Nat} (h : C.young k) (d : Ad) (a : Ask) : (C.ask d a).1.young k := by
  rcases Clr.ask_cases C d a with ⟨e, _⟩ | ⟨e, _⟩
  · rw [e]; exact h
  · rw [e]; intro y hy
    simp only [List.mem_append, List.mem_singleton] at hy
    rcases hy with hy | rfl
    · exact h y hy
    · simp only; omega
theorem Clr.young.tick {C : Clr} {k : Nat} (h : C.young k) : C.tick.1.young (k + 1) := by
  intro y hy
  simp only [Clr.tick, List.mem_map] at hy
  obtain ⟨z, hz, rfl⟩ := hy
  have := h z hz
  simp only [CallE.up]; omega
theorem Anr.take_len (A : Anr) (p : Pkt) : (A.take p).1.L.length ≤ A.L.length + 1 := by
  unfold Anr.take
  split
  · cases A.ix p.src p.id with
    | some i =>
      simp only
      split <;> simp
    | none =>
      simp only
      split <;> simp
  · simp
theorem Anr.reply_len (A : Anr) (src : Ad) (id : Int) (x : Ans) : (A.reply src id x).1.L.length = A.L.length := by
  rcases Anr.reply_cases A src id x with ⟨e, _⟩ | ⟨i, _, _, _, e⟩ <;> rw [e]
  simp
theorem TwoS.Grow.refl (S : TwoS) : TwoS.Grow S S := ⟨by omega, by omega, by omega, by omega, fun k h => h.up⟩
theorem TwoS.Grow.lose {S S' : TwoS} {i : Nat} (h : TwoS.Grow (S.lose i) S') : TwoS.Grow S S' := by
  have hl : (S.lose i).net.length ≤ S.net.length := List.length_eraseIdx_le _ _
  exact ⟨by have := h.n; omega, h.g, h.t, h.a, h.y⟩
theorem TwoS.Grow.comes (S : TwoS) (p : Pkt) : TwoS.Grow S (S.comes p) := by
  unfold TwoS.comes
  have hA := Anr.take_len S.A p
  split
  · split
    · exact ⟨by simp only; omega, by simp only; omega, by simp, by simp only; omega, fun k h => (h.take p).up⟩
    · exact ⟨by simp only; omega, by simp only; omega, by simp only; omega, by simp only; omega, fun k h => (h.take p).up⟩
  · split
    · exact ⟨by simp only; omega, by simp only; omega, by simp only; omega, by simp only; omega, fun k h => h.up⟩
    · split
      · exact ⟨by simp, by simp only; omega, by simp only; omega, by simp only; omega, fun k h => h.up⟩
      · exact ⟨by simp only; omega, by simp only; omega, by simp only; omega, by simp only; omega, fun k h => h.up⟩
theorem TwoS.Grow.step {S : TwoS} (hl : S.C.L.length ≤ 256) (e : EvS) : TwoS.Grow S (S.step e) := by
  unfold TwoS.step
  split
  · unfold TwoS.ask
    split
    · exact ⟨by simp, by simp only; omega, by simp only; omega, by simp only; omega, fun k h => (h.ask _ _).up⟩
    · exact ⟨by simp only; omega, by simp only; omega, by simp only; omega, by simp only; omega, fun k h => (h.ask _ _).up⟩
  · split
    · split
      · exact .refl S
      · split
        · exact (TwoS.Grow.comes _ _).lose
        · split
          · exact .comes _ _
          · exact (TwoS.Grow.refl _).lose
    · split
      · unfold TwoS.tick
        refine ⟨?_, by simp only; omega, by simp only; omega, by simp only; omega, fun k h => h.tick⟩
        have : S.C.tick.2.length ≤ 256 := by
          simp only [Clr.tick, List.length_map]; exact Nat.le_trans (List.length_filter_le _ _) hl
        simp only [List.length_append]; omega
      · split
        · split
          · exact .refl S
          · unfold TwoS.answer
            have hA := Anr.reply_len S.A (nth S.A.waits e.i.toNat).src (nth S.A.waits e.i.toNat).id e.x
            split
            · exact ⟨by simp, by simp, by simp only; omega, by simp only; omega, fun k h => h.up⟩
            · exact ⟨by simp only; omega, by simp only; omega, by simp only; omega, by simp only; omega, fun k h => h.up⟩
        · exact .refl S
/-- Bounds, after some events. -/
structure TwoS.Bnd (S : TwoS) (k : Nat) : Prop where
  n : S.net.length ≤ 256 * k
  g : S.gave.length ≤ k
  t : S.told.length ≤ k
  a : S.A.L.length ≤ k
  y : S.C.young k
theorem TwoS.Bnd.step {S : TwoS} {k : Nat} (h : S.Bnd k) (hI : S.Inv) (e : EvS) : (S.step e).Bnd (k + 1) := by
  have hg := TwoS.Grow.step hI.okC.len e
  exact ⟨by have := hg.n; have := h.n; omega, by have := hg.g; have := h.g; omega, by have := hg.t; have := h.t; omega, by have := hg.a; have := h.a; omega, hg.y k h.y⟩
theorem TwoS.Bnd.new (n : Int) : (TwoS.new n).Bnd 0 := ⟨by simp [TwoS.new], by simp [TwoS.new], by simp [TwoS.new], by simp [TwoS.new], fun x hx => by simp [TwoS.new, Clr.new] at hx⟩
theorem TwoS.Bnd.sm {S : TwoS} {k : Nat} (h : S.Bnd k) (hI : S.Inv) (hk : k ≤ 300) : S.Sm :=
  ⟨by have := h.n; omega, by have := h.g; omega, by have := h.t; omega, by rw [hI.hrd, List.length_map]; have := h.a; omega⟩
theorem TwoS.Inv.okA {S : TwoS} (h : S.Inv) (hl : S.A.L.length ≤ 65536) : S.A.Ok := by
  refine ⟨?_, hl⟩
  have := h.ndA
  rw [List.Nodup, List.pairwise_map] at this ⊢
  exact this.imp fun hne e => hne (by simp only [kF, Frm.mk.injEq] at e; exact e.2)
end Go.SL
namespace Go.Proofs.Ytienlpaehgdpaaa
open Go Go.SL
attribute [local irreducible] pc rc SlT Me Mt It pt ro pur ex sep old Meets
attribute [local irreducible] CallsA CallerP KnP KnsA AnswererP RCallerP KbA RAnswererP
theorem l06begin_fn (n : Int) (F : List Assn) (h : 1 ≤ n ∧ n ≤ 1048576) : Meets Try.prog 28 [i64 n] F (Some' (fun _ : Nat => True) (fun b => ptr b) (fun b => TwoP b (TwoS.new n) :: F)) := by
  refine Meets.intro b28 k28 (by simp) ?_
  have e0 : TwoS.new n = ⟨Clr.new ⟨true, 1⟩ n, ⟨⟨false, 2⟩, []⟩, [], [], [], [], false⟩ := rfl
  rw [e0]
  refine J.nilS pktEC 34 true (by decide) ?_
  refine J.nilS pktEC 34 true (by decide) ?_
  refine J.nilS pktEC 34 true (by decide) ?_
  refine J.nilS intE 1 true (by decide) ?_
  refine J.imp (Imp.trans PksA.nil (Imp.trans PksA.nil PksA.nil)) ?_
  focus
   refine zs <| zc rfl <| yD rfl rfl (.of .rf) (l06agent_fn _) <| yE rfl rfl (.of .rf) (rcNew_ok ⟨_, _⟩ _ _ (by assumption)) fun x9 _ => zc rfl <| zc rfl <| zc rfl <| yD rfl rfl (.of .rf) (l06peer_fn _) <| yE rfl rfl (.of .rf) (raNew_fn ⟨_, _⟩ _) fun x5 _ => zy (.cneF rfl rfl (by decide)) <| yG rfl <| zc rfl ?_
   refine zy (.pickF rfl rfl) <| yG rfl <| zc rfl <| zy (.pickF rfl rfl) <| zd <| zq <| zu rfl <| zk <| zs <| zg rfl <| yB rfl fun b2 => zd ?_
   refine zr ?_
  exact retQS b2 (.t rfl .nil) trivial rfl (Up.of (TwoP.fold (an := none) (cn := 0) (net := []) (ag := none) (cg := 0) (gave := []) (at' := none) (ct := 0) (told := []) (ah := none) (ch := 0) (by (repeat (first | exact Has.here | assumption | apply Has.there))) (by (repeat (first | exact Has.here | assumption | apply Has.there))) (by (repeat (first | exact Has.here | assumption | apply Has.there))) (by (repeat (first | exact Has.here | assumption | apply Has.there))) (by (repeat (first | exact Has.here | assumption | apply Has.there))) (by (repeat (first | exact Has.here | assumption | apply Has.there))) (by (repeat (first | exact Has.here | assumption | apply Has.there))) (by (repeat (first | exact Has.here | assumption | apply Has.there))) (by (repeat (first | exact Has.here | assumption | apply Has.there))) (by (repeat (first | exact Has.here | assumption | apply Has.there))) rfl rfl rfl (by (repeat (first | exact Imp.refl _ | (apply Imp.take; (· (repeat (first | exact Has.here | assumption | apply Has.there)))) | fail | apply Imp.dropT | exact Imp.nil _)))))
theorem RpcOnce_fn {a1 : Option Addr} {c1 : Nat} {xs : List EvE} (n : Int) {F : List Assn} [Hs : HS F (.slice a1 xs.length c1) EvE evEC 30 c1 xs] (h0 : 0 ≤ n) (h1 : n < 256) :
    Meets Try.prog 6 [.int .u8 n, .slice a1 xs.length c1] (AnsA (xs.map (·.x)) :: F) (Det (.bool true) (AnsA (xs.map (·.x)) :: F)) := by
  refine Meets.intro b6 k6 (by simp) ?_
  refine J.sl (inferInstance : HS (AnsA (xs.map (·.x)) :: F) (.slice a1 xs.length c1) EvE evEC 30 c1 xs) (fun hC hL _ => ?_)
  have hT0 : 0 ≤ Int.tmod n 6 := Int.tmod_nonneg _ h0
  have hT1 : Int.tmod n 6 < 6 := Int.tmod_lt_of_pos _ (by decide)
  have hI := TwoS.Inv.new (again := 1 + Int.tmod n 6) (by omega)
  have hbn := TwoS.Bnd.new (1 + Int.tmod n 6)
  focus
   refine zs <| zc rfl <| yD rfl rfl (.of .rf) (l06awake_fn _) <| zc rfl <| zd <| zq <| zu rfl <| zk <| zs <| zy (.cv rfl (Wr.i64 (by omega) (by omega))) <| zj rfl rfl rfl <| zy (.add rfl rfl (Wr.i64 (by omega) (by omega))) ?_
   refine yE rfl rfl (.of .rf) (l06begin_fn _ _ (by omega)) fun x5 _ => zc rfl <| zd <| zq <| zu rfl <| zk <| zs <| zc rfl <| zd <| zq <| zb ?_
  refine J.lp (ι := Nat × TwoS) (fun i => i.1 ≤ xs.length ∧ i.1 ≤ 60 ∧ i.2.Inv ∧ i.2.Bnd i.1) (fun i => [(6, i64 (i.1 : Int))]) (fun i => TwoP x5 i.2 :: AnsA (xs.map (·.x)) :: F) (fun i => xs.length - i.1) (0, TwoS.new (1 + Int.tmod n 6)) ⟨by simp, by simp, hI, hbn⟩ (by exact subxR rfl) (.of (.t0 (.t0 .rf))) (fun i hi => ?_)
  clear hI hbn
  obtain ⟨k, S⟩ := i
  obtain ⟨hk, hk6, hI, hbn⟩ := hi
  dsimp only at hk hk6 hI hbn ⊢
  by_cases hlt : k < xs.length ∧ k < 60
  · obtain ⟨hlt, hk60⟩ := hlt
    have hn2 : nth (xs.map (·.x)) k = (nth xs k).x := by rw [nth_eq (by simpa using hlt), nth_eq hlt, List.getElem_map]
    have ha := hbn.a
    have hdo := fun F => l06do_P x5 S (nth xs k) F hI.okC (fun x hx => by have := hbn.y x hx; omega) (hI.okA (by omega)) (hbn.sm hI (by omega))
    have hI2 := hI.step (nth xs k).ev (by omega)
    have hbn2 := hbn.step hI (nth xs k).ev
    generalize S.step (nth xs k).ev = S2 at hdo hI2 hbn2
    refine J.imp (Imp.trans (Imp.take (c := AnsA (xs.map (·.x))) (by (repeat (first | exact Has.here | assumption | apply Has.there))) (Imp.refl _)) (AnsA.get (i := k) (by simpa using hlt))) ?_
    rw [hn2]
    focus
     refine zs <| zc rfl <| zy (.cltT rfl rfl (by omega)) <| yG rfl <| zy (.cltT rfl rfl (by omega)) <| zy (.pickT rfl rfl) <| zd <| zq <| zt rfl <| zk <| zq <| zb ?_
     refine zo <| zy (.iC rfl rfl (by omega)) <| zy (.LE rfl (by omega)) <| yD rfl rfl (.of (.t2 (.t0 .rf))) (hdo _) <| zd <| zo <| zy (.addN rfl rfl (by omega)) <| zd <| ⟨⟨_, _⟩, ?_, (by omega), (subxR rfl), (.of (.t0 (.t1 (.d .rf))))⟩
    exact ⟨by dsimp only; omega, by dsimp only; omega, hI2, hbn2⟩
  · obtain ⟨C, A, N, G, T, H, B⟩ := S
    have hb := hI.bad
    dsimp only at hb
    subst hb
    refine J.openTwo Has.here (fun p q an cn net ag cg gave at' ct told ah ch hn hg ht hn1 hn2 hg1 hg2 ht1 ht2 hh1 hh2 => ?_)
    focus
     refine zs <| zc rfl <| zj rfl rfl rfl <| zm rfl rfl (fun h2 => .int rfl rfl rfl) <| zy (.pickA rfl rfl rfl) <| zd <| zq <| zi rfl (fun h2 => ?_) (fun h2 => ?_)
     (exfalso; omega)
     refine zx <| zs <| zfl rfl rfl rfl <| zc rfl <| zd <| zr <| yR (.t rfl .nil) rfl (.of (.tk (.there (.there (.there (.there (.there (.there (.there (.there (.there (.there .here)))))))))) (.d (.d (.d (.d (.d (.d (.d (.d (.d (.d .rf))))))))))))
end Go.Proofs.Ytienlpaehgdpaaa
