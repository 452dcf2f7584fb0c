/- Layer 6: two over a network: a packet comes: the functions. Conditions: none. -/
import Derived.Test.YtienlpaehgdpaaaTx
set_option linter.unusedSimpArgs false
set_option linter.unusedVariables false
set_option maxRecDepth 100000
set_option maxHeartbeats 4000000
namespace Go.SL
open Go
theorem TwoS.comes_told {C C2 : Clr} {A : Anr} {N G T : List Pkt} {H : List Int} {B : Bool} {p Q : Pkt} (hr : p.reply = true) (ht : C.take p = (C2, Q, true)) (hq : Q.id = p.id) :
    TwoS.comes ⟨C, A, N, G, T, H, B⟩ p = ⟨C2, A, N, G, T ++ [p], H, (B || T.any (fun q => decide (q.id = p.id))) || !decide (p ∈ G)⟩ := by
  unfold TwoS.comes; simp [hr, ht, hq]
theorem TwoS.comes_not {C C2 : Clr} {A : Anr} {N G T : List Pkt} {H : List Int} {B : Bool} {p Q : Pkt} (hr : p.reply = true) (ht : C.take p = (C2, Q, false)) :
    TwoS.comes ⟨C, A, N, G, T, H, B⟩ p = ⟨C2, A, N, G, T, H, B⟩ := by
  unfold TwoS.comes; simp [hr, ht]
theorem TwoS.comes_new {C : Clr} {A A2 : Anr} {N G T : List Pkt} {H : List Int} {B : Bool} {p Q : Pkt} (hr : p.reply = false) (ht : A.take p = (A2, Q, 1)) :
    TwoS.comes ⟨C, A, N, G, T, H, B⟩ p = ⟨C, A2, N, G, T, H ++ [p.id], B || decide (p.id ∈ H)⟩ := by
  unfold TwoS.comes; simp [hr, ht]
theorem TwoS.comes_again {C : Clr} {A A2 : Anr} {N G T : List Pkt} {H : List Int} {B : Bool} {p Q : Pkt} (hr : p.reply = false) (ht : A.take p = (A2, Q, 3)) :
    TwoS.comes ⟨C, A, N, G, T, H, B⟩ p = ⟨C, A2, N ++ [Q], G, T, H, B || !decide (Q ∈ G)⟩ := by
  unfold TwoS.comes; simp [hr, ht]
theorem TwoS.comes_else {C : Clr} {A A2 : Anr} {N G T : List Pkt} {H : List Int} {B : Bool} {p Q : Pkt} {e : Int} (hr : p.reply = false) (ht : A.take p = (A2, Q, e)) (h1 : e ≠ 1) (h3 : e ≠ 3) :
    TwoS.comes ⟨C, A, N, G, T, H, B⟩ p = ⟨C, A2, N, G, T, H, B⟩ := by
  unfold TwoS.comes; simp [hr, ht, h1, h3]
structure TwoS.Sm (S : TwoS) : Prop where
  n : S.net.length ≤ 100000
  g : S.gave.length ≤ 100000
  t : S.told.length ≤ 100000
  h : S.heard.length ≤ 100000
theorem Clr.take_id {C C2 : Clr} {p Q : Pkt} (h : C.take p = (C2, Q, true)) : Q.id = p.id := by
  rcases Clr.take_cases C p with e | ⟨i, hi, e, _⟩
  · rw [e] at h; simp at h
  · rw [e] at h; simp only [Prod.mk.injEq] at h; rw [← h.2.1]; exact (Clr.ix_some hi).2
theorem mem_map_p {l : List PktE} {p : Pkt} {k : Nat} (hk : k < l.length) (h : (nth l k).p = p) : p ∈ l.map (·.p) := List.mem_map.2 ⟨nth l k, by rw [nth_eq hk]; exact List.getElem_mem hk, h⟩
theorem not_mem_map_p {l : List PktE} {p : Pkt} (h : ∀ j, j < l.length → (nth l j).p ≠ p) : ¬ p ∈ l.map (·.p) := by
  intro hm
  obtain ⟨y, hy, e⟩ := List.mem_map.1 hm
  obtain ⟨j, hj, rfl⟩ := List.mem_iff_getElem.1 hy
  exact h j hj (by rw [nth_eq hj]; exact e)
theorem any_snoc {l : List PktE} {f : PktE → Bool} {k : Nat} (hk : k < l.length) : (l.take (k + 1)).any f = ((l.take k).any f || f (nth l k)) := by
  rw [List.take_add_one, List.getElem?_eq_getElem hk, ← nth_eq hk]; simp
end Go.SL
namespace Go.Proofs.Ytienlpaehgdpaaa
open Go Go.SL
attribute [local irreducible] pc rc SlT Me Mt It pt ro pur ex sep old Meets
attribute [local irreducible] CallsA CallerP KnP KnsA AnswererP RCallerP KbA RAnswererP
theorem l06in_fn {a : Option Addr} {c : Nat} {xs : List Int} (n : Int) {F : List Assn} [Hs : HS F (.slice a xs.length c) Int intE 1 c xs] : Meets Try.prog 31 [.slice a xs.length c, i64 n] F (Det (.bool (decide (n ∈ xs))) F) := by
  refine Meets.intro b31 k31 (by simp) ?_
  refine J.sl Hs (fun hC hL _ => ?_)
  focus
   refine zs <| zc rfl <| zc rfl <| zd <| zq <| zb ?_
  refine J.lp (ι := Nat) (fun k => k ≤ xs.length ∧ ∀ j, j < k → nth xs j ≠ n) (fun k => [(5, i64 (k : Int))]) (fun _ => F) (fun k => xs.length - k) 0 ⟨by omega, fun j hj => by omega⟩ (by exact subxR rfl) (.of .rf) (fun k hk => ?_)
  obtain ⟨hk, hn⟩ := hk
  by_cases hlt : k < xs.length
  · by_cases he : nth xs k = n
    · rw [decide_eq_true (he ▸ nth_mem hlt : n ∈ xs)]
      focus
       refine zs <| zc rfl <| zy (.cltT rfl rfl (by omega)) <| zd <| zq <| zt rfl <| zk <| zq <| zb <| zs <| zy (.iC rfl rfl (by omega)) <| zy (.LE0 rfl (by omega) rfl) ?_
       refine zy (.ceqT rfl rfl (by omega)) <| zd <| zt rfl <| zs <| zc rfl <| zd <| zr <| yR (.t rfl .nil) rfl (.of .rf)
    · focus
       refine zs <| zc rfl <| zy (.cltT rfl rfl (by omega)) <| zd <| zq <| zt rfl <| zk <| zq <| zb <| zs <| zy (.iC rfl rfl (by omega)) <| zy (.LE0 rfl (by omega) rfl) ?_
       refine zy (.ceqF rfl rfl (by omega)) <| zd <| zu rfl <| zk <| zo <| zy (.addN rfl rfl (by omega)) <| zd <| ⟨_, ?_, (by omega), (subxR rfl), (.of .rf)⟩
      exact ⟨by omega, fun j hj => by
        rcases Nat.lt_succ_iff_lt_or_eq.1 hj with h | h
        · exact hn j h
        · subst h; exact he⟩
  · have hno : ¬ n ∈ xs := fun hm => by
      obtain ⟨j, hj, rfl⟩ := List.mem_iff_getElem.1 hm
      exact hn j (by omega) (nth_eq hj)
    rw [decide_eq_false hno]
    focus
     refine zs <| zc rfl <| zy (.cltF rfl rfl (by omega)) <| zd <| zq <| zu rfl <| zx <| zs <| zc rfl <| zd <| zr <| yR (.t rfl .nil) rfl (.of .rf)
theorem l06gave_fn {b p q ln cn cg lt ct lh ch : Nat} {an ag at' ah : Option Addr} {gave : List PktE} {B : Bool} (x : PktE) (F : List Assn) : Meets Try.prog 85 [ptr b, pkv x]
    (pc b 87 (twoC p q an ln cn ag gave.length cg at' lt ct ah lh ch B) :: SlT true pktEC 34 (.slice ag gave.length cg) cg gave :: PksA gave :: pkO x :: F)
    (Det (.bool (decide (x.p ∈ gave.map (·.p)))) (pc b 87 (twoC p q an ln cn ag gave.length cg at' lt ct ah lh ch B) :: SlT true pktEC 34 (.slice ag gave.length cg) cg gave :: PksA gave :: pkO x :: F)) := by
  refine Meets.intro b85 k85 (by simp) ?_
  refine J.slF (Has.there Has.here) (fun hC hL _ => ?_)
  focus
   refine zs <| yB rfl fun b3 => zc rfl <| zc rfl <| zd <| zq <| zb ?_
  refine J.lp (ι := Nat) (fun k => k ≤ gave.length ∧ ∀ j, j < k → (nth gave j).p ≠ x.p) (fun k => [(5, i64 (k : Int))]) (fun _ => pc b3 63 (pktEC x) :: pc b 87 (twoC p q an ln cn ag gave.length cg at' lt ct ah lh ch B) :: SlT true pktEC 34 (.slice ag gave.length cg) cg gave :: PksA gave :: pkO x :: F) (fun k => gave.length - k) 0 ⟨by omega, fun j hj => by omega⟩ (by exact subxR rfl) (.of (.t0 (.t0 (.t0 (.t0 (.t0 .rf)))))) (fun k hk => ?_)
  obtain ⟨hk, hn⟩ := hk
  by_cases hlt : k < gave.length
  · refine J.imp (Imp.trans (Imp.take (c := PksA gave) (by (repeat (first | exact Has.here | assumption | apply Has.there))) (Imp.refl _)) (PksA.get (i := k) hlt)) ?_
    by_cases he : (nth gave k).p = x.p
    · rw [decide_eq_true (mem_map_p hlt he)]
      focus
       refine zs <| zfl rfl rfl rfl <| zc rfl <| zy (.cltT rfl rfl (by omega)) <| zd <| zq <| zt rfl <| zk <| zq <| zb <| zs <| zfl rfl rfl rfl ?_
       refine zy (.iC rfl rfl (by omega)) <| zy (.LE rfl (by omega)) <| zw rfl rfl <| yD rfl rfl (.of .rf) (r4Same_fn _ _) <| zd <| zi rfl (fun h1 => ?_) (fun h1 => ?_)
       refine zs <| zc rfl <| zd <| zr <| yR (.t rfl .nil) rfl (.of (.t3 (.t3 (.t1 (.t2 (.d (.d .rf)))))))
       contradiction
    · focus
       refine zs <| zfl rfl rfl rfl <| zc rfl <| zy (.cltT rfl rfl (by omega)) <| zd <| zq <| zt rfl <| zk <| zq <| zb <| zs <| zfl rfl rfl rfl ?_
       refine zy (.iC rfl rfl (by omega)) <| zy (.LE rfl (by omega)) <| zw rfl rfl <| yD rfl rfl (.of .rf) (r4Same_fn _ _) <| zd <| zi rfl (fun h1 => ?_) (fun h1 => ?_)
       contradiction
       refine zk <| zo <| zy (.addN rfl rfl (by omega)) <| zd <| ⟨_, ?_, (by omega), (subxR rfl), (.of (.t2 (.t2 (.t2 (.t1 (.t1 (.d .rf)))))))⟩
      exact ⟨by omega, fun j hj => by
        rcases Nat.lt_succ_iff_lt_or_eq.1 hj with h | h
        · exact hn j h
        · subst h; exact he⟩
  · rw [decide_eq_false (not_mem_map_p (fun j hj => hn j (by omega)))]
    focus
     refine zs <| zfl rfl rfl rfl <| zc rfl <| zy (.cltF rfl rfl (by omega)) <| zd <| zq <| zu rfl <| zx <| zs <| zc rfl <| zd <| zr ?_
     refine yR (.t rfl .nil) rfl (.of (.t1 (.t1 (.t1 (.t1 (.d .rf))))))
theorem l06comes_P (b : Nat) (S : TwoS) (x : PktE) (F : List Assn) (hA : S.A.Ok) (hS : S.Sm) : Meets Try.prog 55 [ptr b, pkv x] (TwoP b S :: pkO x :: F) (Det (.tuple #[]) (TwoP b (S.comes x.p) :: pkO x :: F)) := by
  refine Meets.intro b55 k55 (by simp) ?_
  obtain ⟨C, A, N, G, T, H, B⟩ := S
  obtain ⟨s1, s2, s3, s4⟩ := hS
  dsimp only at hA s1 s2 s3 s4
  refine J.openTwo Has.here (fun p q an cn net ag cg gave at' ct told ah ch hn hg ht hn1 hn2 hg1 hg2 ht1 ht2 hh1 hh2 => ?_)
  subst hn hg ht
  rw [List.length_map] at s1 s2 s3
  refine J.imp (Has.dup (c := pkO x) (SlT_pers _ _ _ _ _) (by (repeat (first | exact Has.here | assumption | apply Has.there)))) ?_
  by_cases hr : x.p.reply = true
  · have hP := fun (F : List Assn) (H : HS F (.slice x.a x.p.ans.value.length x.c) UInt8 byteC 1 x.c x.p.ans.value) => rcTake_P p C x F
    have hP' := fun F => hP (pkO x :: F) inferInstance
    clear hP
    obtain ⟨C2, Q, e, ht⟩ : ∃ C2 Q e, C.take x.p = (C2, Q, e) := ⟨_, _, _, rfl⟩
    rw [ht] at hP'
    dsimp only at hP'
    focus
     refine zs <| yB rfl fun b3 => zfl rfl rfl rfl <| zd <| zq <| zi rfl (fun h1 => ?_) (fun h1 => ?_)
     rotate_left
     exact Bool.noConfusion (h1.symm.trans hr)
    refine J.cutD (ι := Nat) (fun _ => True) (fun b4 => [(4, ptr b4), (5, .bool e)]) (fun b4 => pc b4 63 (pktEC (p0 Q)) :: pkO x :: pkO x :: pc b3 63 (pktEC x) :: pc b 87 (twoC p q an net.length cn ag gave.length cg at' told.length ct ah H.length ch B) :: CallerP p C2 :: AnswererP q A :: SlT true pktEC 34 (.slice an net.length cn) cn net :: SlT true pktEC 34 (.slice ag gave.length cg) cg gave :: SlT true pktEC 34 (.slice at' told.length ct) ct told :: SlT true intE 1 (.slice ah H.length ch) ch H :: PksA net :: PksA gave :: PksA told :: F) ?_ (fun b4 _ => ?_)
    · focus
       refine zo <| zfl rfl rfl rfl <| zw rfl rfl <| JT.both ?_ ?_
       refine yD rfl rfl (.of (.t4 (.t1 .rf))) (hP' _) <| zc rfl <| zc rfl <| yN fun b4 => yW rfl rfl rfl rfl rfl <| zc rfl <| zd <| ⟨_, ?_, (subxR rfl), (.of (.t0 (.t1 (.t2 (.t1 (.t1 (.t0 (.t0 (.t0 (.t0 (.t0 (.t0 (.t0 (.t0 (.t0 .rf)))))))))))))))⟩
       rotate_left
       refine yN fun b4 => yD rfl rfl (.of (.t5 (.t2 .rf))) (hP' _) <| zc rfl <| zc rfl <| yW rfl rfl rfl rfl rfl <| zc rfl <| zd <| ⟨_, ?_, (subxR rfl), (.of (.t0 (.t1 (.t2 (.t1 (.t1 (.t0 (.t0 (.t0 (.t0 (.t0 (.t0 (.t0 (.t0 (.t0 .rf)))))))))))))))⟩
       rotate_left
      all_goals trivial
    cases e with
    | true =>
      have hq := Clr.take_id ht
      rw [TwoS.comes_told hr ht hq]
      have e1 : (told ++ [x]).map (·.p) = told.map (·.p) ++ [x.p] := by simp
      focus
       refine zs <| zc rfl <| zd <| zq <| zu rfl <| zk <| zs <| zc rfl <| zd <| zq <| zb ?_
      refine J.lp (ι := Nat × Bool) (fun i => i.1 ≤ told.length ∧ i.2 = (B || (told.take i.1).any fun y => decide (y.p.id = x.p.id))) (fun i => [(6, i64 (i.1 : Int))]) (fun i => pc b4 63 (pktEC (p0 Q)) :: pkO x :: pkO x :: pc b3 63 (pktEC x) :: pc b 87 (twoC p q an net.length cn ag gave.length cg at' told.length ct ah H.length ch i.2) :: CallerP p C2 :: AnswererP q A :: SlT true pktEC 34 (.slice an net.length cn) cn net :: SlT true pktEC 34 (.slice ag gave.length cg) cg gave :: SlT true pktEC 34 (.slice at' told.length ct) ct told :: SlT true intE 1 (.slice ah H.length ch) ch H :: PksA net :: PksA gave :: PksA told :: F) (fun i => told.length - i.1) (0, B) ⟨by simp, by simp⟩ (by exact subxR rfl) (.of (.t0 (.t0 (.t0 (.t0 (.t0 (.t0 (.t0 (.t0 (.t0 (.t0 (.t0 (.t0 (.t0 (.t0 .rf))))))))))))))) (fun i hi => ?_)
      obtain ⟨k, B1⟩ := i
      obtain ⟨hk, hB⟩ := hi
      dsimp only at hk hB ⊢
      by_cases hlt : k < told.length
      · have hs := any_snoc (f := fun y => decide (y.p.id = x.p.id)) hlt
        have hs2 : (B || (told.take (k + 1)).any fun y => decide (y.p.id = x.p.id)) = (B1 || decide ((nth told k).p.id = x.p.id)) := by rw [hs, hB, Bool.or_assoc]
        cases B1 with
        | true =>
          rw [Bool.true_or] at hs2
          focus
           refine zs <| zfl rfl rfl rfl <| zc rfl <| zy (.cltT rfl rfl (by omega)) <| zd <| zq <| zt rfl <| zk <| zq <| zb <| zo <| zfl rfl rfl rfl ?_
           refine zv rfl rfl <| zv rfl rfl <| zv rfl rfl <| zv rfl rfl <| zv rfl rfl <| zv rfl rfl <| zv rfl rfl <| zv rfl rfl <| zy (.pickT rfl rfl) <| zf 6 rfl rfl <| yS rfl rfl rfl rfl rfl (Nat.le_of_ble_eq_true rfl) rfl <| zd ?_
           refine zo <| zy (.addN rfl rfl (by omega)) <| zd <| ⟨⟨_, _⟩, ?_, (by omega), (subxR rfl), (.of (.t1 (.t1 (.t1 (.t1 (.t0 (.t0 (.t0 (.t0 (.t0 (.t0 (.t0 (.t0 (.t0 (.t0 .rf)))))))))))))))⟩
          exact ⟨by dsimp only; omega, hs2.symm⟩
        | false =>
          rw [Bool.false_or] at hs2
          focus
           refine zs <| zfl rfl rfl rfl <| zc rfl <| zy (.cltT rfl rfl (by omega)) <| zd <| zq <| zt rfl <| zk <| zq <| zb <| zo <| zfl rfl rfl rfl ?_
           refine yG rfl <| zf 4 rfl rfl <| yG rfl <| zl rfl rfl <| yG rfl <| zy (.iC rfl rfl (by omega)) <| yG rfl <| zy (.fe rfl) <| yG rfl <| zy (.LE1 rfl (by omega) rfl (by decide)) <| yG rfl <| zf 5 rfl rfl ?_
           refine yG rfl <| zl rfl rfl <| yG rfl <| zj rfl rfl rfl <| zy (.pickF rfl rfl) <| zf 6 rfl rfl <| yS rfl rfl rfl rfl rfl (Nat.le_of_ble_eq_true rfl) rfl <| zd <| zo <| zy (.addN rfl rfl (by omega)) <| zd <| ⟨⟨_, _⟩, ?_, (by omega), (subxR rfl), (.of (.t1 (.t1 (.t1 (.t1 (.t0 (.t0 (.t0 (.t0 (.t0 (.t0 (.t0 (.t0 (.t0 (.t0 .rf)))))))))))))))⟩
          exact ⟨by dsimp only; omega, hs2.symm⟩
      · have hB2 : B1 = (B || (told.map (·.p)).any fun y => decide (y.id = x.p.id)) := by
          rw [hB, List.take_of_length_le (by omega), List.any_map]; rfl
        rw [← hB2]
        refine J.imp (PksA.fold (xs := told) (y := x) (by (repeat (first | exact Has.here | assumption | apply Has.there))) (by (repeat (first | exact Has.here | assumption | apply Has.there))) (Imp.refl _)) ?_
        cases B1 with
        | true =>
          rw [Bool.true_or]
          focus
           refine zs <| zfl rfl rfl rfl <| zc rfl <| zy (.cltF rfl rfl (by omega)) <| zd <| zq <| zu rfl <| zx <| zs <| zfl rfl rfl rfl <| zv rfl rfl <| zv rfl rfl ?_
           refine zv rfl rfl <| zv rfl rfl <| zv rfl rfl <| zy (.pickT rfl rfl) <| zv rfl rfl <| zv rfl rfl <| zv rfl rfl <| zy (.pickT rfl rfl) <| zf 6 rfl rfl <| yS rfl rfl rfl rfl rfl (Nat.le_of_ble_eq_true rfl) rfl <| zfl rfl rfl rfl <| zw rfl rfl ?_
           refine JT.bsl1 (by repeat (first | exact Cells.nil | apply Cells.z | (apply Cells.cl; rfl; rfl; rfl))) (by simp only [List.length_cons, List.length_nil, Nat.reduceAdd]; rfl) (by decide) (by rfl) fun a77 => ?_
           (refine JT.A1 rfl rfl (by rfl) rfl (by decide) (by omega) (fun a78 c78 hc78 => ?_))
           refine zf 4 rfl rfl <| yS rfl rfl rfl rfl rfl (Nat.le_of_ble_eq_true rfl) rfl <| zd <| zr <| yR .nil rfl (.of (TwoP.fold .here (.there (.there (.there (.there (.there (.there .here)))))) (.there (.there (.there (.there (.there (.there .here)))))) (.there (.there (.there (.there (.there (.there .here)))))) (.there (.there (.there (.there (.there (.there .here)))))) .here (.there (.there (.there (.there (.there .here))))) (.there (.there (.there (.there (.there .here))))) (.there (.there (.there (.there (.there .here))))) (.there .here) (by first | assumption | omega | rfl | decide) (by first | assumption | omega | rfl | decide) (by first | assumption | omega | rfl | decide) (.t2 (.d (.d (.d .rf))))))
        | false =>
          rw [Bool.false_or]
          focus
           refine zs <| zfl rfl rfl rfl <| zc rfl <| zy (.cltF rfl rfl (by omega)) <| zd <| zq <| zu rfl <| zx <| zs <| zfl rfl rfl rfl <| yG rfl <| zf 5 rfl rfl ?_
           refine yG rfl <| zl rfl rfl <| yG rfl <| zf 5 rfl rfl <| yG rfl <| zl rfl rfl <| yG rfl <| zy (.cneF rfl rfl (by omega)) <| zy (.pickF rfl rfl) <| yG rfl <| zw rfl rfl <| yG rfl ?_
           refine yD rfl rfl (.of (.t4 (.tk (.there (.there (.there (.there (.there (.there (.there .here))))))) (.tk (.there (.there (.there (.there (.there (.there (.there (.there (.there (.there .here)))))))))) (.t2 .rf))))) (l06gave_fn _ _) <| yG rfl <| zc rfl <| zy (.pickF rfl rfl) <| zf 6 rfl rfl <| yS rfl rfl rfl rfl rfl (Nat.le_of_ble_eq_true rfl) rfl <| zfl rfl rfl rfl <| zw rfl rfl <| JT.bsl1 (by repeat (first | exact Cells.nil | apply Cells.z | (apply Cells.cl; rfl; rfl; rfl))) (by simp only [List.length_cons, List.length_nil, Nat.reduceAdd]; rfl) (by decide) (by rfl) fun a77 => ?_
           (refine JT.A1 rfl rfl (by rfl) rfl (by decide) (by omega) (fun a78 c78 hc78 => ?_))
           refine zf 4 rfl rfl <| yS rfl rfl rfl rfl rfl (Nat.le_of_ble_eq_true rfl) rfl <| zd <| zr <| yR .nil rfl (.of (TwoP.fold .here (.there (.there (.there (.there (.there (.there (.there (.there .here)))))))) (.there (.there (.there (.there (.there (.there (.there (.there .here)))))))) (.there (.there (.there (.there (.there (.there (.there (.there .here)))))))) (.there (.there .here)) .here (.there (.there (.there (.there (.there (.there .here)))))) (.there (.there (.there (.there (.there (.there .here)))))) (.there .here) (.there (.there .here)) (by first | assumption | omega | rfl | decide) (by first | assumption | omega | rfl | decide) (by first | assumption | omega | rfl | decide) (.t1 (.d (.d (.d .rf))))))
    | false =>
      rw [TwoS.comes_not hr ht]
      focus
       refine zs <| zc rfl <| zd <| zq <| zt rfl <| zr <| yR .nil rfl (.of (TwoP.fold (.there (.there (.there (.there .here)))) (.there (.there (.there (.there .here)))) (.there (.there (.there (.there .here)))) (.there (.there (.there (.there .here)))) (.there (.there (.there (.there .here)))) (.there (.there (.there (.there .here)))) (.there (.there (.there (.there .here)))) (.there (.there (.there (.there .here)))) (.there (.there (.there (.there .here)))) (.there (.there (.there (.there .here)))) (by first | assumption | omega | rfl | decide) (by first | assumption | omega | rfl | decide) (by first | assumption | omega | rfl | decide) (.t1 (.d (.d (.d .rf))))))
  · have hr' : x.p.reply = false := by simpa using hr
    have hP := fun F => raTake_P q A x F hA
    obtain ⟨A2, Q, e, ht⟩ : ∃ A2 Q e, A.take x.p = (A2, Q, e) := ⟨_, _, _, rfl⟩
    rw [ht] at hP
    dsimp only at hP
    focus
     refine zs <| yB rfl fun b3 => zfl rfl rfl rfl <| zd <| zq <| zi rfl (fun h1 => ?_) (fun h1 => ?_)
     contradiction
     refine zk <| seqQ_n ?_
    refine J.cutD (ι := Nat × Option Addr × Nat) (fun _ => True) (fun z => [(7, ptr z.1), (8, i64 e)]) (fun z => pc z.1 63 (pktEC ⟨Q, z.2.1, z.2.2⟩) :: byO z.2.1 z.2.2 Q.ans.value :: pkO x :: pkO x :: pc b3 63 (pktEC x) :: pc b 87 (twoC p q an net.length cn ag gave.length cg at' told.length ct ah H.length ch B) :: CallerP p C :: AnswererP q A2 :: SlT true pktEC 34 (.slice an net.length cn) cn net :: SlT true pktEC 34 (.slice ag gave.length cg) cg gave :: SlT true pktEC 34 (.slice at' told.length ct) ct told :: SlT true intE 1 (.slice ah H.length ch) ch H :: PksA net :: PksA gave :: PksA told :: F) ?_ (fun z _ => ?_)
    · focus
       refine zo <| zfl rfl rfl rfl <| zw rfl rfl <| JT.both ?_ ?_
       refine yE rfl rfl (.of (.t5 (.t1 .rf))) (hP _) fun ⟨a87, c87⟩ _ => zc rfl <| zc rfl <| yN fun b7 => yW rfl rfl rfl rfl rfl <| zc rfl <| zd <| ⟨⟨_, ⟨_, _⟩⟩, ?_, (subxR rfl), (.of (.t0 (.t0 (.t1 (.t2 (.t1 (.t1 (.t1 (.t0 (.t0 (.t0 (.t0 (.t0 (.t0 (.t0 (.t0 .rf))))))))))))))))⟩
       omega
       refine yN fun b7 => yE rfl rfl (.of (.t6 (.t2 .rf))) (hP _) fun ⟨a87, c87⟩ _ => zc rfl <| zc rfl <| yW rfl rfl rfl rfl rfl <| zc rfl <| zd <| ⟨⟨_, ⟨_, _⟩⟩, ?_, (subxR rfl), (.of (.t0 (.t0 (.t1 (.t2 (.t1 (.t1 (.t1 (.t0 (.t0 (.t0 (.t0 (.t0 (.t0 (.t0 (.t0 .rf))))))))))))))))⟩
       omega
    obtain ⟨b7, a7, c7⟩ := z
    dsimp only
    by_cases h1 : e = 1
    · subst h1
      rw [TwoS.comes_new hr' ht]
      cases B with
      | true =>
        rw [Bool.true_or]
        focus
         refine zs <| zc rfl <| zd <| zb <| zs <| zy (.ceqT rfl rfl (by decide)) <| zd <| zt rfl <| zo <| zfl rfl rfl rfl <| zv rfl rfl <| zv rfl rfl ?_
         refine zv rfl rfl <| zv rfl rfl <| zv rfl rfl <| zy (.pickT rfl rfl) <| zf 6 rfl rfl <| yS rfl rfl rfl rfl rfl (Nat.le_of_ble_eq_true rfl) rfl <| zfl rfl rfl rfl <| zfl rfl rfl rfl <| JT.bsl1 (by repeat (first | exact Cells.nil | apply Cells.z | (apply Cells.cl; rfl; rfl; rfl))) (by simp only [List.length_cons, List.length_nil, Nat.reduceAdd]; rfl) (by decide) (by rfl) fun a116 => ?_
         (refine JT.A1 rfl rfl (by rfl) rfl (by decide) (by omega) (fun a117 c117 hc117 => ?_))
         refine zf 5 rfl rfl <| yS rfl rfl rfl rfl rfl (Nat.le_of_ble_eq_true rfl) rfl <| zd <| blockQ_n ?_
        exact retQD .nil rfl (Up.of (TwoP.fold (p := p) (q := q) (an := an) (cn := cn) (net := net) (ag := ag) (cg := cg) (gave := gave) (at' := at') (ct := ct) (told := told) (ah := a117) (ch := c117) (by (repeat (first | exact Has.here | assumption | apply Has.there))) (by (repeat (first | exact Has.here | assumption | apply Has.there))) (by (repeat (first | exact Has.here | assumption | apply Has.there))) (by (repeat (first | exact Has.here | assumption | apply Has.there))) (by (repeat (first | exact Has.here | assumption | apply Has.there))) (by (repeat (first | exact Has.here | assumption | apply Has.there))) (by (repeat (first | exact Has.here | assumption | apply Has.there))) (by (repeat (first | exact Has.here | assumption | apply Has.there))) (by (repeat (first | exact Has.here | assumption | apply Has.there))) (by (repeat (first | exact Has.here | assumption | apply Has.there))) rfl rfl rfl (by (repeat (first | exact Imp.refl _ | (apply Imp.take; (· (repeat (first | exact Has.here | assumption | apply Has.there)))) | fail | apply Imp.dropT | exact Imp.nil _)))))
      | false =>
        rw [Bool.false_or]
        focus
         refine zs <| zc rfl <| zd <| zb <| zs <| zy (.ceqT rfl rfl (by decide)) <| zd <| zt rfl <| zo <| zfl rfl rfl rfl <| yG rfl <| zf 5 rfl rfl ?_
         refine yG rfl <| zl rfl rfl <| yG rfl <| zf 5 rfl rfl <| yG rfl <| zl rfl rfl <| yG rfl <| yD rfl rfl (.of .rf) (l06in_fn _) <| zy (.pickF rfl rfl) <| zf 6 rfl rfl <| yS rfl rfl rfl rfl rfl (Nat.le_of_ble_eq_true rfl) rfl <| zfl rfl rfl rfl ?_
         refine zfl rfl rfl rfl <| JT.bsl1 (by repeat (first | exact Cells.nil | apply Cells.z | (apply Cells.cl; rfl; rfl; rfl))) (by simp only [List.length_cons, List.length_nil, Nat.reduceAdd]; rfl) (by decide) (by rfl) fun a116 => ?_
         (refine JT.A1 rfl rfl (by rfl) rfl (by decide) (by omega) (fun a117 c117 hc117 => ?_))
         refine zf 5 rfl rfl <| yS rfl rfl rfl rfl rfl (Nat.le_of_ble_eq_true rfl) rfl <| zd <| blockQ_n ?_
        exact retQD .nil rfl (Up.of (TwoP.fold (p := p) (q := q) (an := an) (cn := cn) (net := net) (ag := ag) (cg := cg) (gave := gave) (at' := at') (ct := ct) (told := told) (ah := a117) (ch := c117) (by (repeat (first | exact Has.here | assumption | apply Has.there))) (by (repeat (first | exact Has.here | assumption | apply Has.there))) (by (repeat (first | exact Has.here | assumption | apply Has.there))) (by (repeat (first | exact Has.here | assumption | apply Has.there))) (by (repeat (first | exact Has.here | assumption | apply Has.there))) (by (repeat (first | exact Has.here | assumption | apply Has.there))) (by (repeat (first | exact Has.here | assumption | apply Has.there))) (by (repeat (first | exact Has.here | assumption | apply Has.there))) (by (repeat (first | exact Has.here | assumption | apply Has.there))) (by (repeat (first | exact Has.here | assumption | apply Has.there))) rfl rfl rfl (by (repeat (first | exact Imp.refl _ | (apply Imp.take; (· (repeat (first | exact Has.here | assumption | apply Has.there)))) | fail | apply Imp.dropT | exact Imp.nil _)))))
    · by_cases h3 : e = 3
      · subst h3
        rw [TwoS.comes_again hr' ht]
        have e2 : (net ++ [(⟨Q, a7, c7⟩ : PktE)]).map (·.p) = net.map (·.p) ++ [Q] := by simp
        refine J.imp (Has.dup (c := pkO ⟨Q, a7, c7⟩) (SlT_pers _ _ _ _ _) (by (repeat (first | exact Has.here | assumption | apply Has.there)))) ?_
        refine J.imp (PksA.fold (xs := net) (y := ⟨Q, a7, c7⟩) (by (repeat (first | exact Has.here | assumption | apply Has.there))) (by (repeat (first | exact Has.here | assumption | apply Has.there))) (Imp.refl _)) ?_
        cases B with
        | true =>
          rw [Bool.true_or]
          focus
           refine zs <| zc rfl <| zd <| zb <| zs <| zy (.ceqF rfl rfl (by decide)) <| zd <| zu rfl <| zs <| zy (.ceqT rfl rfl (by decide)) <| zd <| zt rfl ?_
           refine zo <| zfl rfl rfl rfl <| zv rfl rfl <| zv rfl rfl <| zv rfl rfl <| zy (.pickT rfl rfl) <| zf 6 rfl rfl <| yS rfl rfl rfl rfl rfl (Nat.le_of_ble_eq_true rfl) rfl <| zfl rfl rfl rfl <| zw rfl rfl <| JT.bsl1 (by repeat (first | exact Cells.nil | apply Cells.z | (apply Cells.cl; rfl; rfl; rfl))) (by simp only [List.length_cons, List.length_nil, Nat.reduceAdd]; rfl) (by decide) (by rfl) fun a141 => ?_
           (refine JT.A1 rfl rfl (by rfl) rfl (by decide) (by omega) (fun a142 c142 hc142 => ?_))
           refine zf 2 rfl rfl <| yS rfl rfl rfl rfl rfl (Nat.le_of_ble_eq_true rfl) rfl <| zd <| blockQ_n ?_
          exact retQD .nil rfl (Up.of (TwoP.fold (p := p) (q := q) (an := a142) (cn := c142) (net := (net ++ [(⟨Q, a7, c7⟩ : PktE)])) (ag := ag) (cg := cg) (gave := gave) (at' := at') (ct := ct) (told := told) (ah := ah) (ch := ch) (by (repeat (first | exact Has.here | assumption | apply Has.there))) (by (repeat (first | exact Has.here | assumption | apply Has.there))) (by (repeat (first | exact Has.here | assumption | apply Has.there))) (by (repeat (first | exact Has.here | assumption | apply Has.there))) (by (repeat (first | exact Has.here | assumption | apply Has.there))) (by (repeat (first | exact Has.here | assumption | apply Has.there))) (by (repeat (first | exact Has.here | assumption | apply Has.there))) (by (repeat (first | exact Has.here | assumption | apply Has.there))) (by (repeat (first | exact Has.here | assumption | apply Has.there))) (by (repeat (first | exact Has.here | assumption | apply Has.there))) e2 rfl rfl (by (repeat (first | exact Imp.refl _ | (apply Imp.take; (· (repeat (first | exact Has.here | assumption | apply Has.there)))) | fail | apply Imp.dropT | exact Imp.nil _)))))
        | false =>
          rw [Bool.false_or]
          focus
           refine zs <| zc rfl <| zd <| zb <| zs <| zy (.ceqF rfl rfl (by decide)) <| zd <| zu rfl <| zs <| zy (.ceqT rfl rfl (by decide)) <| zd <| zt rfl ?_
           refine zo <| zfl rfl rfl rfl <| yG rfl <| zw rfl rfl <| yG rfl <| yD rfl rfl (.of (.t6 (.tk (.there (.there (.there (.there (.there (.there (.there (.there (.there .here))))))))) (.tk (.there (.there (.there (.there (.there (.there (.there (.there (.there (.there (.there .here))))))))))) (.t1 .rf))))) (l06gave_fn ⟨_, _, _⟩ _) <| yG rfl <| zc rfl <| zy (.pickF rfl rfl) <| zf 6 rfl rfl <| yS (us := [_]) rfl rfl rfl rfl rfl (Nat.le_of_ble_eq_true rfl) (by simp only [lput]; rfl) <| zfl rfl rfl rfl ?_
           refine zw rfl rfl <| JT.bsl1 (by repeat (first | exact Cells.nil | apply Cells.z | (apply Cells.cl; rfl; rfl; rfl))) (by simp only [List.length_cons, List.length_nil, Nat.reduceAdd]; rfl) (by decide) (by rfl) fun a141 => ?_
           (refine JT.A1 rfl rfl (by rfl) rfl (by decide) (by omega) (fun a142 c142 hc142 => ?_))
           refine zf 2 rfl rfl <| yS rfl rfl rfl rfl rfl (Nat.le_of_ble_eq_true rfl) rfl <| zd <| blockQ_n ?_
          exact retQD .nil rfl (Up.of (TwoP.fold (p := p) (q := q) (an := a142) (cn := c142) (net := (net ++ [(⟨Q, a7, c7⟩ : PktE)])) (ag := ag) (cg := cg) (gave := gave) (at' := at') (ct := ct) (told := told) (ah := ah) (ch := ch) (by (repeat (first | exact Has.here | assumption | apply Has.there))) (by (repeat (first | exact Has.here | assumption | apply Has.there))) (by (repeat (first | exact Has.here | assumption | apply Has.there))) (by (repeat (first | exact Has.here | assumption | apply Has.there))) (by (repeat (first | exact Has.here | assumption | apply Has.there))) (by (repeat (first | exact Has.here | assumption | apply Has.there))) (by (repeat (first | exact Has.here | assumption | apply Has.there))) (by (repeat (first | exact Has.here | assumption | apply Has.there))) (by (repeat (first | exact Has.here | assumption | apply Has.there))) (by (repeat (first | exact Has.here | assumption | apply Has.there))) e2 rfl rfl (by (repeat (first | exact Imp.refl _ | (apply Imp.take; (· (repeat (first | exact Has.here | assumption | apply Has.there)))) | fail | apply Imp.dropT | exact Imp.nil _)))))
      · rw [TwoS.comes_else hr' ht h1 h3]
        focus
         refine zs <| zc rfl <| zd <| zb <| zs <| zy (.ceqF rfl rfl (by omega)) <| zd <| zu rfl <| zs <| zy (.ceqF rfl rfl (by omega)) <| zd <| zu rfl ?_
         refine zr <| yR .nil rfl (.of (TwoP.fold (.there (.there (.there (.there (.there .here))))) (.there (.there (.there (.there (.there .here))))) (.there (.there (.there (.there (.there .here))))) (.there (.there (.there (.there (.there .here))))) (.there (.there (.there (.there (.there .here))))) (.there (.there (.there (.there (.there .here))))) (.there (.there (.there (.there (.there .here))))) (.there (.there (.there (.there (.there .here))))) (.there (.there (.there (.there (.there .here))))) (.there (.there (.there (.there (.there .here))))) (by first | assumption | omega | rfl | decide) (by first | assumption | omega | rfl | decide) (by first | assumption | omega | rfl | decide) (.t2 (.d (.d (.d (.d .rf)))))))
end Go.Proofs.Ytienlpaehgdpaaa

set_option linter.unusedSimpArgs false
set_option linter.unusedVariables false
set_option maxRecDepth 100000
set_option maxHeartbeats 4000000
namespace Go.SL
open Go
section
variable {C C2 : Clr} {A A2 : Anr} {N G T : List Pkt} {H : List Int} {B : Bool} {Q : Pkt} {er i : Int} {a : Ask} {x : Ans}
theorem TwoS.step_1 (ht : C.ask peerA a = (C2, Q, 0)) : TwoS.step ⟨C, A, N, G, T, H, B⟩ ⟨1, i, a, x⟩ = ⟨C2, A, N ++ [Q], G, T, H, B⟩ := by unfold TwoS.step TwoS.ask; simp [ht]
theorem TwoS.step_1n (ht : C.ask peerA a = (C2, Q, er)) (he : er ≠ 0) : TwoS.step ⟨C, A, N, G, T, H, B⟩ ⟨1, i, a, x⟩ = ⟨C2, A, N, G, T, H, B⟩ := by unfold TwoS.step TwoS.ask; simp [ht, he]
theorem TwoS.step_out {k : Int} (hk : k = 2 ∨ k = 3 ∨ k = 4) (h : i < 0 ∨ (N.length : Int) ≤ i) : TwoS.step ⟨C, A, N, G, T, H, B⟩ ⟨k, i, a, x⟩ = ⟨C, A, N, G, T, H, B⟩ := by
  unfold TwoS.step
  simp only
  rw [if_neg (by omega), if_pos hk, if_pos h]
theorem TwoS.step_2 {n : Nat} (h : n < N.length) : TwoS.step ⟨C, A, N, G, T, H, B⟩ ⟨2, (n : Int), a, x⟩ = TwoS.comes ⟨C, A, N.take n ++ N.drop (n + 1), G, T, H, B⟩ (nth N n) := by
  unfold TwoS.step TwoS.lose
  simp only
  rw [if_neg (by decide), if_pos (by decide), if_neg (by omega), if_pos trivial, eraseIdx_eq]; rfl
theorem TwoS.step_3 {n : Nat} (h : n < N.length) : TwoS.step ⟨C, A, N, G, T, H, B⟩ ⟨3, (n : Int), a, x⟩ = TwoS.comes ⟨C, A, N, G, T, H, B⟩ (nth N n) := by
  unfold TwoS.step
  simp only
  rw [if_neg (by decide), if_pos (by decide), if_neg (by omega), if_neg (by decide), if_pos trivial]; rfl
theorem TwoS.step_4 {n : Nat} (h : n < N.length) : TwoS.step ⟨C, A, N, G, T, H, B⟩ ⟨4, (n : Int), a, x⟩ = ⟨C, A, N.take n ++ N.drop (n + 1), G, T, H, B⟩ := by
  unfold TwoS.step TwoS.lose
  simp only
  rw [if_neg (by decide), if_pos (by decide), if_neg (by omega), if_neg (by decide), if_neg (by decide), eraseIdx_eq]; rfl
theorem TwoS.step_5 {Qs : List Pkt} (ht : C.tick = (C2, Qs)) : TwoS.step ⟨C, A, N, G, T, H, B⟩ ⟨5, i, a, x⟩ = ⟨C2, A, N ++ Qs, G, T, H, B⟩ := by
  unfold TwoS.step TwoS.tick
  simp [ht]
theorem TwoS.step_6o (h : i < 0 ∨ (A.waits.length : Int) ≤ i ∨ 3000 < x.value.length) : TwoS.step ⟨C, A, N, G, T, H, B⟩ ⟨6, i, a, x⟩ = ⟨C, A, N, G, T, H, B⟩ := by
  unfold TwoS.step
  simp only
  rw [if_neg (by decide), if_neg (by decide), if_neg (by decide), if_pos trivial, if_pos h]
theorem TwoS.step_6 {n : Nat} (h : n < A.waits.length) (hv : x.value.length ≤ 3000) (ht : A.reply (nth A.waits n).src (nth A.waits n).id x = (A2, Q, 0)) : TwoS.step ⟨C, A, N, G, T, H, B⟩ ⟨6, (n : Int), a, x⟩ = ⟨C, A2, N ++ [Q], G ++ [Q], T, H, B⟩ := by
  unfold TwoS.step TwoS.answer
  simp only
  rw [if_neg (by decide), if_neg (by decide), if_neg (by decide), if_pos trivial, if_neg (by omega)]
  simp only [Int.toNat_natCast, ht, if_true]
theorem TwoS.step_6n {n : Nat} (h : n < A.waits.length) (hv : x.value.length ≤ 3000) (ht : A.reply (nth A.waits n).src (nth A.waits n).id x = (A2, Q, er)) (he : er ≠ 0) : TwoS.step ⟨C, A, N, G, T, H, B⟩ ⟨6, (n : Int), a, x⟩ = ⟨C, A2, N, G, T, H, B⟩ := by
  unfold TwoS.step TwoS.answer
  simp only
  rw [if_neg (by decide), if_neg (by decide), if_neg (by decide), if_pos trivial, if_neg (by omega)]
  simp only [Int.toNat_natCast, ht, if_neg he]
theorem TwoS.step_n {k : Int} (h1 : k ≠ 1) (h2 : k ≠ 2) (h3 : k ≠ 3) (h4 : k ≠ 4) (h5 : k ≠ 5) (h6 : k ≠ 6) : TwoS.step ⟨C, A, N, G, T, H, B⟩ ⟨k, i, a, x⟩ = ⟨C, A, N, G, T, H, B⟩ := by
  unfold TwoS.step
  simp only
  rw [if_neg h1, if_neg (by omega), if_neg h5, if_neg h6]
end
end Go.SL
namespace Go.Proofs.Ytienlpaehgdpaaa
open Go Go.SL
attribute [local irreducible] pc rc SlT Me Mt It pt ro pur ex sep old Meets
attribute [local irreducible] CallsA CallerP KnP KnsA AnswererP RCallerP KbA RAnswererP
instance : TE 83 EvE evEC 30 := ⟨evEC_one, by decide⟩
theorem l06do_P (b : Nat) (S : TwoS) (e : EvE) (F : List Assn) (hC : S.C.Ok) (hy : ∀ x ∈ S.C.L, x.age < 4611686018427387904) (hA : S.A.Ok) (hS : S.Sm) : Meets Try.prog 29 [ptr b, evv e] (TwoP b S :: anO e.x :: F) (Det (.tuple #[]) (TwoP b (S.step e.ev) :: anO e.x :: F)) := by
  refine Meets.intro b29 k29 (by simp) ?_
  obtain ⟨C, A, N, G, T, H, B⟩ := S
  obtain ⟨s1, s2, s3, s4⟩ := hS
  obtain ⟨kd, i, ask, y⟩ := e
  unfold EvE.ev
  dsimp only at hC hy hA s1 s2 s3 s4 ⊢
  refine J.openTwo Has.here (fun p q an cn net ag cg gave at' ct told ah ch hn hg ht hn1 hn2 hg1 hg2 ht1 ht2 hh1 hh2 => ?_)
  subst hn hg ht
  have hSm : (⟨C, A, net.map (·.p), gave.map (·.p), told.map (·.p), H, B⟩ : TwoS).Sm := ⟨s1, s2, s3, s4⟩
  rw [List.length_map] at s1 s2 s3
  by_cases k1 : kd = 1
  · subst k1
    have hP := fun F => rcAsk_P p C peerA ask F hC
    have hQ := Clr.ask_ans C peerA ask
    obtain ⟨C2, Q, er, ht⟩ : ∃ C2 Q e, C.ask peerA ask = (C2, Q, e) := ⟨_, _, _, rfl⟩
    rw [ht] at hP hQ
    dsimp only at hP hQ
    have hP' : ∀ F, Meets Try.prog 25 [ptr p, adv ⟨false, 2⟩, askv ask] (CallerP p C :: F) (Det (.tuple #[pkv (p0 Q), i64 er]) (CallerP p C2 :: F)) := hP
    clear hP
    refine J.up (Up.nilP hQ) ?_
    focus
     refine zs <| yB rfl fun b3 => zfl rfl rfl rfl <| zd <| zb <| zs <| zj rfl rfl rfl <| zd <| zi rfl (fun h1 => ?_) (fun h1 => ?_)
     rotate_left
     contradiction
    refine J.cutD (ι := Nat) (fun _ => True) (fun b4 => [(4, ptr b4), (5, i64 er)]) (fun b4 => pc b4 63 (pktEC (p0 Q)) :: pkO (p0 Q) :: anO y :: pc b3 83 (evEC ⟨1, i, ask, y⟩) :: pc b 87 (twoC p q an net.length cn ag gave.length cg at' told.length ct ah H.length ch B) :: CallerP p C2 :: AnswererP q A :: SlT true pktEC 34 (.slice an net.length cn) cn net :: SlT true pktEC 34 (.slice ag gave.length cg) cg gave :: SlT true pktEC 34 (.slice at' told.length ct) ct told :: SlT true intE 1 (.slice ah H.length ch) ch H :: PksA net :: PksA gave :: PksA told :: F) ?_ (fun b4 _ => ?_)
    · focus
       refine zo <| zf 0 rfl rfl <| zl rfl rfl <| zf 2 rfl rfl <| zy (.Lf rfl (Nat.le_of_ble_eq_true rfl)) <| JT.both ?_ ?_
       refine yD rfl rfl (.of .rf) (l06peer_fn _) <| JT.yA rfl (Ev.L rfl rfl) <| JT.yA rfl (Ev.Lf rfl (Nat.le_of_ble_eq_true rfl)) <| JT.both ?_ ?_
       refine yD rfl rfl (.of (.t3 .rf)) (hP' _) <| zc rfl <| zc rfl <| yN fun b4 => yW rfl rfl rfl rfl rfl <| zc rfl <| zd <| ⟨_, ?_, (subxR rfl), (.of (.t0 (.t2 (.tk (.there (.there (.there (.there (.there (.there (.there (.there (.there (.there (.there .here))))))))))) (.t1 (.t1 (.t0 (.t0 (.t0 (.t0 (.t0 (.t0 (.t0 (.t0 (.t0 .rf)))))))))))))))⟩
       rotate_left
       refine yN fun b4 => yD rfl rfl (.of (.t4 .rf)) (hP' _) <| zc rfl <| zc rfl <| yW rfl rfl rfl rfl rfl <| zc rfl <| zd <| ⟨_, ?_, (subxR rfl), (.of (.t0 (.t2 (.tk (.there (.there (.there (.there (.there (.there (.there (.there (.there (.there (.there .here))))))))))) (.t1 (.t1 (.t0 (.t0 (.t0 (.t0 (.t0 (.t0 (.t0 (.t0 (.t0 .rf)))))))))))))))⟩
       rotate_left
       refine yN fun b4 => yD rfl rfl (.of .rf) (l06peer_fn _) <| JT.yA rfl (Ev.L rfl rfl) <| JT.yA rfl (Ev.Lf rfl (Nat.le_of_ble_eq_true rfl)) <| yD rfl rfl (.of (.t4 .rf)) (hP' _) <| zc rfl <| zc rfl <| yW rfl rfl rfl rfl rfl <| zc rfl <| zd <| ⟨_, ?_, (subxR rfl), (.of (.t0 (.t2 (.tk (.there (.there (.there (.there (.there (.there (.there (.there (.there (.there (.there .here))))))))))) (.t1 (.t1 (.t0 (.t0 (.t0 (.t0 (.t0 (.t0 (.t0 (.t0 (.t0 .rf)))))))))))))))⟩
       rotate_left
      all_goals trivial
    by_cases he : er = 0
    · subst he
      rw [TwoS.step_1 ht]
      have e1 : (net ++ [p0 Q]).map (·.p) = net.map (·.p) ++ [Q] := by simp
      refine J.imp (PksA.fold (xs := net) (y := p0 Q) (by (repeat (first | exact Has.here | assumption | apply Has.there))) (by (repeat (first | exact Has.here | assumption | apply Has.there))) (Imp.refl _)) ?_
      focus
       refine zs <| zy (.ceqT rfl rfl (by decide)) <| zd <| zt rfl <| zo <| zfl rfl rfl rfl <| zw rfl rfl <| JT.bsl1 (by repeat (first | exact Cells.nil | apply Cells.z | (apply Cells.cl; rfl; rfl; rfl))) (by simp only [List.length_cons, List.length_nil, Nat.reduceAdd]; rfl) (by decide) (by rfl) fun a33 => ?_
       (refine JT.A1 rfl rfl (by rfl) rfl (by decide) (by omega) (fun a34 c34 hc34 => ?_))
       refine zf 2 rfl rfl <| yS rfl rfl rfl rfl rfl (Nat.le_of_ble_eq_true rfl) rfl <| zd <| blockQ_n ?_
      exact retQD .nil rfl (Up.of (TwoP.fold (p := p) (q := q) (an := a34) (cn := c34) (net := (net ++ [p0 Q])) (ag := ag) (cg := cg) (gave := gave) (at' := at') (ct := ct) (told := told) (ah := ah) (ch := ch) (by (repeat (first | exact Has.here | assumption | apply Has.there))) (by (repeat (first | exact Has.here | assumption | apply Has.there))) (by (repeat (first | exact Has.here | assumption | apply Has.there))) (by (repeat (first | exact Has.here | assumption | apply Has.there))) (by (repeat (first | exact Has.here | assumption | apply Has.there))) (by (repeat (first | exact Has.here | assumption | apply Has.there))) (by (repeat (first | exact Has.here | assumption | apply Has.there))) (by (repeat (first | exact Has.here | assumption | apply Has.there))) (by (repeat (first | exact Has.here | assumption | apply Has.there))) (by (repeat (first | exact Has.here | assumption | apply Has.there))) e1 rfl rfl (by (repeat (first | exact Imp.refl _ | (apply Imp.take; (· (repeat (first | exact Has.here | assumption | apply Has.there)))) | fail | apply Imp.dropT | exact Imp.nil _)))))
    · rw [TwoS.step_1n ht he]
      focus
       refine zs <| zy (.ceqF rfl rfl (by omega)) <| zd <| zu rfl <| zk <| blockQ_n ?_
      exact retQD .nil rfl (.of (TwoP.fold (.there (.there (.there (.there .here)))) (.there (.there (.there (.there .here)))) (.there (.there (.there (.there .here)))) (.there (.there (.there (.there .here)))) (.there (.there (.there (.there .here)))) (.there (.there (.there (.there .here)))) (.there (.there (.there (.there .here)))) (.there (.there (.there (.there .here)))) (.there (.there (.there (.there .here)))) (.there (.there (.there (.there .here)))) (by first | assumption | omega | rfl | decide) (by first | assumption | omega | rfl | decide) (by first | assumption | omega | rfl | decide) (.t2 (.d (.d (.d .rf))))))
  by_cases k2 : kd = 2 ∨ kd = 3 ∨ kd = 4
  · by_cases hr : i < 0 ∨ (net.length : Int) ≤ i
    · rw [TwoS.step_out k2 (by rw [List.length_map]; exact hr)]
      by_cases hr0 : i < 0
      · rcases k2 with rfl | rfl | rfl
        · focus
           refine zs <| yB rfl fun b3 => zfl rfl rfl rfl <| zd <| zb <| zs <| zy (.ceqF rfl rfl (by omega)) <| zd <| zu rfl <| zs <| zj rfl rfl rfl <| zd ?_
           refine zq <| zi rfl (fun h1 => ?_) (fun h1 => ?_)
           refine zk <| zi rfl (fun h2 => ?_) (fun h2 => ?_)
           refine zs <| zfl rfl rfl rfl <| zy (.cltT rfl rfl (by omega)) <| zv rfl rfl <| zv rfl rfl <| zv rfl rfl <| zv rfl rfl <| zv rfl rfl <| zv rfl rfl <| zy (.pickT rfl rfl) <| zd <| zq ?_
           refine zt rfl <| zr <| yR .nil rfl (.of (TwoP.fold (.there .here) (.there .here) (.there .here) (.there .here) (.there .here) (.there .here) (.there .here) (.there .here) (.there .here) (.there .here) (by first | assumption | omega | rfl | decide) (by first | assumption | omega | rfl | decide) (by first | assumption | omega | rfl | decide) (.t1 (.d .rf))))
           (exfalso; omega)
           contradiction
        · focus
           refine zs <| yB rfl fun b3 => zfl rfl rfl rfl <| zd <| zb <| zs <| zy (.ceqF rfl rfl (by omega)) <| zd <| zu rfl <| zs <| zy (.ceqF rfl rfl (by (try simp only [List.length_nil, List.length_cons, List.length_append, List.length_take, List.length_drop, List.length_set]); omega)) <| zd ?_
           refine zq <| zu rfl <| zs <| zj rfl rfl rfl <| zd <| zi rfl (fun h1 => ?_) (fun h1 => ?_)
           refine zk <| zi rfl (fun h2 => ?_) (fun h2 => ?_)
           refine zs <| zfl rfl rfl rfl <| zy (.cltT rfl rfl (by omega)) <| zv rfl rfl <| zv rfl rfl <| zv rfl rfl <| zv rfl rfl <| zv rfl rfl <| zv rfl rfl <| zy (.pickT rfl rfl) <| zd <| zq ?_
           refine zt rfl <| zr <| yR .nil rfl (.of (TwoP.fold (.there .here) (.there .here) (.there .here) (.there .here) (.there .here) (.there .here) (.there .here) (.there .here) (.there .here) (.there .here) (by first | assumption | omega | rfl | decide) (by first | assumption | omega | rfl | decide) (by first | assumption | omega | rfl | decide) (.t1 (.d .rf))))
           (exfalso; omega)
           contradiction
        · focus
           refine zs <| yB rfl fun b3 => zfl rfl rfl rfl <| zd <| zb <| zs <| zy (.ceqF rfl rfl (by omega)) <| zd <| zu rfl <| zs <| zy (.ceqF rfl rfl (by (try simp only [List.length_nil, List.length_cons, List.length_append, List.length_take, List.length_drop, List.length_set]); omega)) <| zd ?_
           refine zq <| zu rfl <| zs <| zy (.ceqF rfl rfl (by (try simp only [List.length_nil, List.length_cons, List.length_append, List.length_take, List.length_drop, List.length_set]); omega)) <| zd <| zu rfl <| zo <| zj rfl rfl rfl <| zd <| zi rfl (fun h1 => ?_) (fun h1 => ?_)
           refine zs <| zfl rfl rfl rfl <| zy (.cltT rfl rfl (by omega)) <| zv rfl rfl <| zv rfl rfl <| zv rfl rfl <| zv rfl rfl <| zv rfl rfl <| zv rfl rfl <| zy (.pickT rfl rfl) <| zd <| zq ?_
           refine zt rfl <| zr <| yR .nil rfl (.of (TwoP.fold (.there .here) (.there .here) (.there .here) (.there .here) (.there .here) (.there .here) (.there .here) (.there .here) (.there .here) (.there .here) (by first | assumption | omega | rfl | decide) (by first | assumption | omega | rfl | decide) (by first | assumption | omega | rfl | decide) (.t1 (.d .rf))))
           contradiction
      · have hr1 : (net.length : Int) ≤ i := by omega
        rcases k2 with rfl | rfl | rfl
        · focus
           refine zs <| yB rfl fun b3 => zfl rfl rfl rfl <| zd <| zb <| zs <| zy (.ceqF rfl rfl (by omega)) <| zd <| zu rfl <| zs <| zj rfl rfl rfl <| zd ?_
           refine zq <| zi rfl (fun h1 => ?_) (fun h1 => ?_)
           refine zk <| zi rfl (fun h2 => ?_) (fun h2 => ?_)
           refine zs <| zfl rfl rfl rfl <| zy (.cltF rfl rfl (by omega)) <| yG rfl <| zf 1 rfl rfl <| yG rfl <| zl rfl rfl <| yG rfl <| zf 2 rfl rfl <| yG rfl <| zl rfl rfl <| yG rfl ?_
           refine zc rfl <| yG rfl <| zy (.cgeT rfl rfl (by omega)) <| zy (.pickF rfl rfl) <| zd <| zq <| zt rfl <| zr <| yR .nil rfl (.of (TwoP.fold (.there .here) (.there .here) (.there .here) (.there .here) (.there .here) (.there .here) (.there .here) (.there .here) (.there .here) (.there .here) (by first | assumption | omega | rfl | decide) (by first | assumption | omega | rfl | decide) (by first | assumption | omega | rfl | decide) (.t1 (.d .rf))))
           (exfalso; omega)
           contradiction
        · focus
           refine zs <| yB rfl fun b3 => zfl rfl rfl rfl <| zd <| zb <| zs <| zy (.ceqF rfl rfl (by omega)) <| zd <| zu rfl <| zs <| zy (.ceqF rfl rfl (by (try simp only [List.length_nil, List.length_cons, List.length_append, List.length_take, List.length_drop, List.length_set]); omega)) <| zd ?_
           refine zq <| zu rfl <| zs <| zj rfl rfl rfl <| zd <| zi rfl (fun h1 => ?_) (fun h1 => ?_)
           refine zk <| zi rfl (fun h2 => ?_) (fun h2 => ?_)
           refine zs <| zfl rfl rfl rfl <| zy (.cltF rfl rfl (by omega)) <| yG rfl <| zf 1 rfl rfl <| yG rfl <| zl rfl rfl <| yG rfl <| zf 2 rfl rfl <| yG rfl <| zl rfl rfl <| yG rfl ?_
           refine zc rfl <| yG rfl <| zy (.cgeT rfl rfl (by omega)) <| zy (.pickF rfl rfl) <| zd <| zq <| zt rfl <| zr <| yR .nil rfl (.of (TwoP.fold (.there .here) (.there .here) (.there .here) (.there .here) (.there .here) (.there .here) (.there .here) (.there .here) (.there .here) (.there .here) (by first | assumption | omega | rfl | decide) (by first | assumption | omega | rfl | decide) (by first | assumption | omega | rfl | decide) (.t1 (.d .rf))))
           (exfalso; omega)
           contradiction
        · focus
           refine zs <| yB rfl fun b3 => zfl rfl rfl rfl <| zd <| zb <| zs <| zy (.ceqF rfl rfl (by omega)) <| zd <| zu rfl <| zs <| zy (.ceqF rfl rfl (by (try simp only [List.length_nil, List.length_cons, List.length_append, List.length_take, List.length_drop, List.length_set]); omega)) <| zd ?_
           refine zq <| zu rfl <| zs <| zy (.ceqF rfl rfl (by (try simp only [List.length_nil, List.length_cons, List.length_append, List.length_take, List.length_drop, List.length_set]); omega)) <| zd <| zu rfl <| zo <| zj rfl rfl rfl <| zd <| zi rfl (fun h1 => ?_) (fun h1 => ?_)
           refine zs <| zfl rfl rfl rfl <| zy (.cltF rfl rfl (by omega)) <| yG rfl <| zf 1 rfl rfl <| yG rfl <| zl rfl rfl <| yG rfl <| zf 2 rfl rfl <| yG rfl <| zl rfl rfl <| yG rfl ?_
           refine zc rfl <| yG rfl <| zy (.cgeT rfl rfl (by omega)) <| zy (.pickF rfl rfl) <| zd <| zq <| zt rfl <| zr <| yR .nil rfl (.of (TwoP.fold (.there .here) (.there .here) (.there .here) (.there .here) (.there .here) (.there .here) (.there .here) (.there .here) (.there .here) (.there .here) (by first | assumption | omega | rfl | decide) (by first | assumption | omega | rfl | decide) (by first | assumption | omega | rfl | decide) (.t1 (.d .rf))))
           contradiction
    · obtain ⟨n, rfl⟩ : ∃ n : Nat, i = n := ⟨i.toNat, by omega⟩
      have hlt : n < net.length := by omega
      have hln : (net.map (·.p)).length = net.length := List.length_map _
      have hnn : nth (net.map (·.p)) n = (nth net n).p := by rw [nth_eq (by omega), nth_eq hlt, List.getElem_map]
      have en : (net.take n ++ net.drop (n + 1)).map (·.p) = (net.map (·.p)).take n ++ (net.map (·.p)).drop (n + 1) := by simp
      have hl2 : (net.take n ++ net.drop (n + 1)).length ≤ net.length := by simp; omega
      refine J.imp (Imp.trans (Imp.take (c := PksA net) (by (repeat (first | exact Has.here | assumption | apply Has.there))) (Imp.refl _)) (PksA.get (i := n) hlt)) ?_
      rcases k2 with rfl | rfl | rfl
      · rw [TwoS.step_2 (by omega), hnn, ← en]
        have hc := fun F => l06comes_P b ⟨C, A, (net.take n ++ net.drop (n + 1)).map (·.p), gave.map (·.p), told.map (·.p), H, B⟩ (nth net n) F hA ⟨by rw [List.length_map]; omega, hSm.g, hSm.t, hSm.h⟩
        refine J.imp (Imp.trans (Imp.take (c := PksA net) (by (repeat (first | exact Has.here | assumption | apply Has.there))) (Imp.refl _)) (PksA.of (ys := net.take n ++ net.drop (n + 1)) (fun z hz => by rcases List.mem_append.1 hz with h | h; exact List.mem_of_mem_take h; exact List.mem_of_mem_drop h))) ?_
        refine J.frz (sv := .slice an net.length cn) (xs := net) (by (repeat (first | exact Has.here | assumption | apply Has.there))) ?_
        focus
         refine zs <| yB rfl fun b3 => zfl rfl rfl rfl <| zd <| zb <| zs <| zy (.ceqF rfl rfl (by omega)) <| zd <| zu rfl <| zs <| zj rfl rfl rfl <| zd ?_
         refine zq <| zi rfl (fun h1 => ?_) (fun h1 => ?_)
         refine zk <| zi rfl (fun h2 => ?_) (fun h2 => ?_)
         refine zs <| zfl rfl rfl rfl <| zy (.cltF rfl rfl (by (try simp only [List.length_nil, List.length_cons, List.length_append, List.length_take, List.length_drop, List.length_set]); omega)) <| yG rfl <| zf 1 rfl rfl <| yG rfl <| zl rfl rfl <| yG rfl <| zf 2 rfl rfl <| yG rfl <| zl rfl rfl <| yG rfl ?_
         refine zc rfl <| yG rfl <| zy (.cgeF rfl rfl (by (try simp only [List.length_nil, List.length_cons, List.length_append, List.length_take, List.length_drop, List.length_set]); omega)) <| zy (.pickF rfl rfl) <| zd <| zq <| zu rfl <| zk <| zs <| zfl rfl rfl rfl <| zfl rfl rfl rfl <| zy (.iC rfl rfl (by omega)) ?_
         refine zy (.LE rfl (by omega)) <| yN fun b6 => yW rfl rfl rfl rfl rfl <| zfl rfl rfl rfl <| zy (.cneT rfl rfl (by omega)) <| zd <| zq <| zt rfl <| zo <| zfl rfl rfl rfl <| zfl rfl rfl rfl ?_
         ((refine JT.G rfl .no (.c rfl) .no (by decide) (by omega) (by omega) (by omega) (by omega) (fun a73 => ?_)); (try simp only [List.take_length, List.drop_zero, Nat.sub_zero]))
         refine zf 2 rfl rfl <| zl rfl rfl <| zf 1 rfl rfl <| zl rfl rfl <| zy (.addN rfl rfl (by omega)) ?_
         ((refine JT.G rfl (.c rfl) .no .no (by decide) (by omega) (by omega) (by omega) (by omega) (fun a82 => ?_)); (try simp only [List.take_length, List.drop_zero, Nat.sub_zero]))
         refine JT.b0 fun a66 => ?_
         (refine JT.A3 rfl rfl rfl (by decide) (by simp; omega) (fun a74 c74 hc74 => ?_))
         refine JT.yA rfl (Ev.L rfl rfl) <| JT.yA rfl (Ev.L rfl rfl) ?_
         (refine JT.A3 rfl rfl rfl (by decide) (by simp; omega) (fun a83 c83 hc83 => ?_))
         refine zf 2 rfl rfl <| yS rfl rfl rfl rfl rfl (Nat.le_of_ble_eq_true rfl) rfl <| zd <| zs <| zfl rfl rfl rfl <| zy (.cneT rfl rfl (by omega)) <| zd <| zt rfl <| zo <| zw rfl rfl <| yD rfl rfl (.of (TwoP.fold .here (.there (.there (.there (.there (.there (.there (.there (.there (.there .here))))))))) (.there (.there (.there (.there (.there (.there (.there (.there (.there .here))))))))) .here (.there (.there (.there (.there (.there (.there (.there (.there .here)))))))) (.there (.there (.there (.there (.there (.there (.there (.there .here)))))))) (.there (.there (.there (.there (.there (.there (.there (.there .here)))))))) (.there (.there (.there (.there (.there .here))))) (.there (.there (.there (.there (.there (.there (.there .here))))))) (.there (.there (.there (.there (.there (.there (.there .here))))))) (by first | assumption | omega | rfl | decide) (by first | assumption | omega | rfl | decide) (by first | assumption | omega | rfl | decide) (.t6 .rf))) (hc _) ?_
         refine zd <| blockQ_n ?_
         rotate_left
         (exfalso; omega)
         contradiction
        exact retQD .nil rfl (.of (.t0 (.tk (.there (.there (.there (.there (.there (.there (.there .here))))))) (.d (.d (.d (.d (.d (.d (.d .rf))))))))))
      · rw [TwoS.step_3 (by omega), hnn]
        have hc := fun F => l06comes_P b ⟨C, A, net.map (·.p), gave.map (·.p), told.map (·.p), H, B⟩ (nth net n) F hA hSm
        focus
         refine zs <| yB rfl fun b3 => zfl rfl rfl rfl <| zd <| zb <| zs <| zy (.ceqF rfl rfl (by omega)) <| zd <| zu rfl <| zs <| zy (.ceqF rfl rfl (by (try simp only [List.length_nil, List.length_cons, List.length_append, List.length_take, List.length_drop, List.length_set]); omega)) <| zd ?_
         refine zq <| zu rfl <| zs <| zj rfl rfl rfl <| zd <| zi rfl (fun h1 => ?_) (fun h1 => ?_)
         refine zk <| zi rfl (fun h2 => ?_) (fun h2 => ?_)
         refine zs <| zfl rfl rfl rfl <| zy (.cltF rfl rfl (by (try simp only [List.length_nil, List.length_cons, List.length_append, List.length_take, List.length_drop, List.length_set]); omega)) <| yG rfl <| zf 1 rfl rfl <| yG rfl <| zl rfl rfl <| yG rfl <| zf 2 rfl rfl <| yG rfl <| zl rfl rfl <| yG rfl ?_
         refine zc rfl <| yG rfl <| zy (.cgeF rfl rfl (by (try simp only [List.length_nil, List.length_cons, List.length_append, List.length_take, List.length_drop, List.length_set]); omega)) <| zy (.pickF rfl rfl) <| zd <| zq <| zu rfl <| zk <| zs <| zfl rfl rfl rfl <| zfl rfl rfl rfl <| zy (.iC rfl rfl (by omega)) ?_
         refine zy (.LE rfl (by omega)) <| yN fun b6 => yW rfl rfl rfl rfl rfl <| zfl rfl rfl rfl <| zy (.cneF rfl rfl (by omega)) <| zd <| zq <| zu rfl <| zk <| zs <| zfl rfl rfl rfl <| zy (.cneT rfl rfl (by omega)) ?_
         refine zd <| zt rfl <| zo <| zw rfl rfl <| yD rfl rfl (.of (TwoP.fold (.there (.there (.there (.there .here)))) (.there (.there (.there (.there .here)))) (.there (.there (.there (.there .here)))) (.there (.there (.there (.there .here)))) (.there (.there (.there (.there .here)))) (.there (.there (.there (.there .here)))) (.there (.there (.there (.there .here)))) (.there (.there (.there .here))) (.there (.there (.there .here))) (.there (.there (.there .here))) (by first | assumption | omega | rfl | decide) (by first | assumption | omega | rfl | decide) (by first | assumption | omega | rfl | decide) (.t2 .rf))) (hc _) ?_
         refine zd <| blockQ_n ?_
         rotate_left
         (exfalso; omega)
         contradiction
        exact retQD .nil rfl (.of (.t0 (.t3 (.d (.d (.d .rf))))))
      · rw [TwoS.step_4 (by omega), ← en]
        refine J.imp (Imp.trans (Imp.take (c := PksA net) (by (repeat (first | exact Has.here | assumption | apply Has.there))) (Imp.refl _)) (PksA.of (ys := net.take n ++ net.drop (n + 1)) (fun z hz => by rcases List.mem_append.1 hz with h | h; exact List.mem_of_mem_take h; exact List.mem_of_mem_drop h))) ?_
        refine J.frz (sv := .slice an net.length cn) (xs := net) (by (repeat (first | exact Has.here | assumption | apply Has.there))) ?_
        focus
         refine zs <| yB rfl fun b3 => zfl rfl rfl rfl <| zd <| zb <| zs <| zy (.ceqF rfl rfl (by omega)) <| zd <| zu rfl <| zs <| zy (.ceqF rfl rfl (by (try simp only [List.length_nil, List.length_cons, List.length_append, List.length_take, List.length_drop, List.length_set]); omega)) <| zd ?_
         refine zq <| zu rfl <| zs <| zy (.ceqF rfl rfl (by (try simp only [List.length_nil, List.length_cons, List.length_append, List.length_take, List.length_drop, List.length_set]); omega)) <| zd <| zu rfl <| zo <| zj rfl rfl rfl <| zd <| zi rfl (fun h1 => ?_) (fun h1 => ?_)
         refine zs <| zfl rfl rfl rfl <| zy (.cltF rfl rfl (by (try simp only [List.length_nil, List.length_cons, List.length_append, List.length_take, List.length_drop, List.length_set]); omega)) <| yG rfl <| zf 1 rfl rfl <| yG rfl <| zl rfl rfl <| yG rfl <| zf 2 rfl rfl <| yG rfl <| zl rfl rfl <| yG rfl ?_
         refine zc rfl <| yG rfl <| zy (.cgeF rfl rfl (by (try simp only [List.length_nil, List.length_cons, List.length_append, List.length_take, List.length_drop, List.length_set]); omega)) <| zy (.pickF rfl rfl) <| zd <| zq <| zu rfl <| zk <| zs <| zfl rfl rfl rfl <| zfl rfl rfl rfl <| zy (.iC rfl rfl (by omega)) ?_
         refine zy (.LE rfl (by omega)) <| yN fun b6 => yW rfl rfl rfl rfl rfl <| zfl rfl rfl rfl <| zy (.cneT rfl rfl (by omega)) <| zd <| zq <| zt rfl <| zo <| zfl rfl rfl rfl <| zfl rfl rfl rfl ?_
         ((refine JT.G rfl .no (.c rfl) .no (by decide) (by omega) (by omega) (by omega) (by omega) (fun a73 => ?_)); (try simp only [List.take_length, List.drop_zero, Nat.sub_zero]))
         refine zf 2 rfl rfl <| zl rfl rfl <| zf 1 rfl rfl <| zl rfl rfl <| zy (.addN rfl rfl (by omega)) ?_
         ((refine JT.G rfl (.c rfl) .no .no (by decide) (by omega) (by omega) (by omega) (by omega) (fun a82 => ?_)); (try simp only [List.take_length, List.drop_zero, Nat.sub_zero]))
         refine JT.b0 fun a66 => ?_
         (refine JT.A3 rfl rfl rfl (by decide) (by simp; omega) (fun a74 c74 hc74 => ?_))
         refine JT.yA rfl (Ev.L rfl rfl) <| JT.yA rfl (Ev.L rfl rfl) ?_
         (refine JT.A3 rfl rfl rfl (by decide) (by simp; omega) (fun a83 c83 hc83 => ?_))
         refine zf 2 rfl rfl <| yS rfl rfl rfl rfl rfl (Nat.le_of_ble_eq_true rfl) rfl <| zd <| zs <| zfl rfl rfl rfl <| zy (.cneF rfl rfl (by omega)) <| zd <| zu rfl <| zk <| blockQ_n ?_
         rotate_left
         contradiction
        exact retQD .nil rfl (.of (TwoP.fold .here (.there (.there (.there (.there (.there (.there (.there (.there (.there .here))))))))) (.there (.there (.there (.there (.there (.there (.there (.there (.there .here))))))))) .here (.there (.there (.there (.there (.there (.there (.there (.there .here)))))))) (.there (.there (.there (.there (.there (.there (.there (.there .here)))))))) (.there (.there (.there (.there (.there (.there (.there (.there .here)))))))) (.there (.there (.there (.there (.there .here))))) (.there (.there (.there (.there (.there (.there (.there .here))))))) (.there (.there (.there (.there (.there (.there (.there .here))))))) (by first | assumption | omega | rfl | decide) (by first | assumption | omega | rfl | decide) (by first | assumption | omega | rfl | decide) (.tk (.there (.there (.there (.there (.there (.there (.there .here))))))) (.d (.d (.d (.d (.d (.d (.d .rf))))))))))
  by_cases k5 : kd = 5
  · subst k5
    have hP := fun F => rcTick_P p C F hC hy
    have hQ := Clr.tick_ans hC
    have hQl : C.tick.2.length ≤ 256 := by
      simp only [Clr.tick, List.length_map]; exact Nat.le_trans (List.length_filter_le _ _) hC.len
    obtain ⟨C2, Qs, ht⟩ : ∃ C2 Qs, C.tick = (C2, Qs) := ⟨_, _, rfl⟩
    rw [ht] at hP hQ hQl
    dsimp only at hP hQ hQl
    rw [TwoS.step_5 ht]
    have hQl2 : (Qs.map p0).length ≤ 256 := by simpa using hQl
    have e1 : (net ++ Qs.map p0).map (·.p) = net.map (·.p) ++ Qs := by
      rw [List.map_append, List.map_map]; congr 1; exact List.map_id Qs
    refine J.up (PksA.nils hQ) ?_
    refine J.imp (Imp.trans (Imp.take (c := PksA net) (by (repeat (first | exact Has.here | assumption | apply Has.there))) (Imp.take (c := PksA (Qs.map p0)) (by (repeat (first | exact Has.here | assumption | apply Has.there))) (Imp.refl _))) PksA.app) ?_
    focus
     refine zs <| yB rfl fun b3 => zfl rfl rfl rfl <| zd <| zb <| zs <| zy (.ceqF rfl rfl (by omega)) <| zd <| zu rfl <| zs <| zy (.ceqF rfl rfl (by (try simp only [List.length_nil, List.length_cons, List.length_append, List.length_take, List.length_drop, List.length_set]); omega)) <| zd ?_
     refine zq <| zu rfl <| zs <| zy (.ceqF rfl rfl (by (try simp only [List.length_nil, List.length_cons, List.length_append, List.length_take, List.length_drop, List.length_set]); omega)) <| zd <| zu rfl <| zo <| zy (.ceqF rfl rfl (by (try simp only [List.length_nil, List.length_cons, List.length_append, List.length_take, List.length_drop, List.length_set]); omega)) <| zd <| zu rfl <| zs <| zj rfl rfl rfl ?_
     refine zd <| zi rfl (fun h1 => ?_) (fun h1 => ?_)
     refine zo <| zf 2 rfl rfl <| zl rfl rfl <| zfl rfl rfl rfl <| yE rfl rfl (.of (.t3 .rf)) (hP _) fun ⟨a103, c103⟩ _ => JT.yA rfl (Ev.L rfl rfl) ?_
     (refine JT.A3 rfl rfl rfl (by decide) (by omega) (fun a104 c104 hc104 => ?_))
     refine zf 2 rfl rfl <| yS rfl rfl rfl rfl rfl (Nat.le_of_ble_eq_true rfl) rfl <| zd <| blockQ_n ?_
     rotate_left
     contradiction
    exact retQD .nil rfl (.of (TwoP.fold .here (.there (.there .here)) (.there (.there (.there (.there .here)))) .here (.there (.there (.there .here))) (.there (.there (.there .here))) (.there (.there (.there .here))) (.there (.there .here)) (.there (.there .here)) (.there (.there .here)) (by first | assumption | omega | rfl | decide) (by first | assumption | omega | rfl | decide) (by first | assumption | omega | rfl | decide) (.t2 (.d (.d .rf)))))
  by_cases k6 : kd = 6
  · subst k6
    have hW : ∀ F, Meets Try.prog 38 [ptr q] (AnswererP q A :: F) (Some' (fun x : Option Addr × Nat × List PktE => x.2.2.map (·.p) = A.waits ∧ x.2.2.length = A.waits.length) (fun x => .slice x.1 x.2.2.length x.2.1) (fun x => SlT true pktEC 34 (.slice x.1 x.2.2.length x.2.1) x.2.1 x.2.2 :: PksA x.2.2 :: AnswererP q A :: F)) := fun F =>
      Meets.post (raWaits_P q A F hA) (by rintro v c ⟨x, h, rfl, rfl⟩; exact ⟨_, Up.refl _, x, ⟨h, by rw [← h, List.length_map]⟩, rfl, rfl⟩)
    by_cases hr0 : i < 0
    · rw [TwoS.step_6o (.inl hr0)]
      focus
       refine zs <| yB rfl fun b3 => zfl rfl rfl rfl <| zd <| zb <| zs <| zy (.ceqF rfl rfl (by omega)) <| zd <| zu rfl <| zs <| zy (.ceqF rfl rfl (by (try simp only [List.length_nil, List.length_cons, List.length_append, List.length_take, List.length_drop, List.length_set]); omega)) <| zd ?_
       refine zq <| zu rfl <| zs <| zy (.ceqF rfl rfl (by (try simp only [List.length_nil, List.length_cons, List.length_append, List.length_take, List.length_drop, List.length_set]); omega)) <| zd <| zu rfl <| zo <| zy (.ceqF rfl rfl (by (try simp only [List.length_nil, List.length_cons, List.length_append, List.length_take, List.length_drop, List.length_set]); omega)) <| zd <| zu rfl <| zs <| zy (.ceqF rfl rfl (by omega)) ?_
       refine zd <| zu rfl <| zs <| zj rfl rfl rfl <| zd <| zi rfl (fun h1 => ?_) (fun h1 => ?_)
       refine zs <| zfl rfl rfl rfl <| yE rfl rfl (.of (.t3 .rf)) (hW _) fun ⟨a7, c7⟩ hx7 => zfl rfl rfl rfl <| zy (.cltT rfl rfl (by omega)) <| zv rfl rfl <| zv rfl rfl <| zv rfl rfl <| zv rfl rfl <| zy (.pickT rfl rfl) <| zv rfl rfl <| zv rfl rfl ?_
       refine zv rfl rfl <| zv rfl rfl <| zv rfl rfl <| zy (.pickT rfl rfl) <| zd <| zq <| zt rfl <| zr <| yR .nil rfl (.of (TwoP.fold (.there (.there (.there (.there .here)))) (.there (.there (.there (.there .here)))) (.there (.there .here)) (.there (.there (.there .here))) (.there (.there (.there .here))) (.there (.there (.there .here))) (.there (.there (.there .here))) (.there (.there (.there .here))) (.there (.there (.there .here))) (.there (.there (.there .here))) (by first | assumption | omega | rfl | decide) (by first | assumption | omega | rfl | decide) (by first | assumption | omega | rfl | decide) (.t3 (.d (.d (.d .rf))))))
       contradiction
    by_cases hr1 : (A.waits.length : Int) ≤ i
    · rw [TwoS.step_6o (.inr (.inl hr1))]
      focus
       refine zs <| yB rfl fun b3 => zfl rfl rfl rfl <| zd <| zb <| zs <| zy (.ceqF rfl rfl (by omega)) <| zd <| zu rfl <| zs <| zy (.ceqF rfl rfl (by (try simp only [List.length_nil, List.length_cons, List.length_append, List.length_take, List.length_drop, List.length_set]); omega)) <| zd ?_
       refine zq <| zu rfl <| zs <| zy (.ceqF rfl rfl (by (try simp only [List.length_nil, List.length_cons, List.length_append, List.length_take, List.length_drop, List.length_set]); omega)) <| zd <| zu rfl <| zo <| zy (.ceqF rfl rfl (by (try simp only [List.length_nil, List.length_cons, List.length_append, List.length_take, List.length_drop, List.length_set]); omega)) <| zd <| zu rfl <| zs <| zy (.ceqF rfl rfl (by omega)) ?_
       refine zd <| zu rfl <| zs <| zj rfl rfl rfl <| zd <| zi rfl (fun h1 => ?_) (fun h1 => ?_)
       refine zs <| zfl rfl rfl rfl <| yE rfl rfl (.of (.t3 .rf)) (hW _) fun ⟨a7, c7⟩ hx7 => zfl rfl rfl rfl <| zy (.cltF rfl rfl (by omega)) <| yG rfl <| zf 1 rfl rfl <| yG rfl <| zl rfl rfl <| yG rfl <| zc rfl <| yG rfl ?_
       refine zj rfl rfl rfl <| zy (.pickF rfl rfl) <| zh rfl rfl (fun h2 => .fa' 17 rfl rfl) <| zh rfl rfl (fun h2 => by rw [h2]; exact .calc rfl) <| zh rfl rfl (fun h2 => by rw [h2]; exact .L rfl rfl) <| zh rfl rfl (fun h2 => by rw [h2]; exact .calc rfl) <| zh rfl rfl (fun h2 => by rw [h2]; exact .int rfl rfl rfl) <| zy (.pickO rfl rfl rfl) <| zd <| zq <| zi rfl (fun h2 => ?_) (fun h2 => ?_)
       refine zr <| yR .nil rfl (.of (TwoP.fold (.there (.there (.there (.there .here)))) (.there (.there (.there (.there .here)))) (.there (.there .here)) (.there (.there (.there .here))) (.there (.there (.there .here))) (.there (.there (.there .here))) (.there (.there (.there .here))) (.there (.there (.there .here))) (.there (.there (.there .here))) (.there (.there (.there .here))) (by first | assumption | omega | rfl | decide) (by first | assumption | omega | rfl | decide) (by first | assumption | omega | rfl | decide) (.t3 (.d (.d (.d .rf))))))
       refine zk <| zs <| zfl rfl rfl rfl <| zfl rfl rfl rfl ?_
       rotate_left
       contradiction
      have hh := hx7.2
      have hh2 := h2.1
      dsimp only at hh hh2
      omega
    by_cases hr2 : 3000 < y.x.value.length
    · rw [TwoS.step_6o (.inr (.inr hr2))]
      focus
       refine zs <| yB rfl fun b3 => zfl rfl rfl rfl <| zd <| zb <| zs <| zy (.ceqF rfl rfl (by omega)) <| zd <| zu rfl <| zs <| zy (.ceqF rfl rfl (by (try simp only [List.length_nil, List.length_cons, List.length_append, List.length_take, List.length_drop, List.length_set]); omega)) <| zd ?_
       refine zq <| zu rfl <| zs <| zy (.ceqF rfl rfl (by (try simp only [List.length_nil, List.length_cons, List.length_append, List.length_take, List.length_drop, List.length_set]); omega)) <| zd <| zu rfl <| zo <| zy (.ceqF rfl rfl (by (try simp only [List.length_nil, List.length_cons, List.length_append, List.length_take, List.length_drop, List.length_set]); omega)) <| zd <| zu rfl <| zs <| zy (.ceqF rfl rfl (by omega)) ?_
       refine zd <| zu rfl <| zs <| zj rfl rfl rfl <| zd <| zi rfl (fun h1 => ?_) (fun h1 => ?_)
       refine zs <| zfl rfl rfl rfl <| yE rfl rfl (.of (.t3 .rf)) (hW _) fun ⟨a7, c7⟩ hx7 => zfl rfl rfl rfl <| zy (.cltF rfl rfl (by omega)) <| yG rfl <| zf 1 rfl rfl <| yG rfl <| zl rfl rfl <| yG rfl <| zc rfl <| yG rfl ?_
       refine zj rfl rfl rfl <| zy (.pickF rfl rfl) <| zh rfl rfl (fun h2 => .fa' 17 rfl rfl) <| zh rfl rfl (fun h2 => by rw [h2]; exact .calc rfl) <| zh rfl rfl (fun h2 => by rw [h2]; exact .L rfl rfl) <| zh rfl rfl (fun h2 => by rw [h2]; exact .calc rfl) <| zh rfl rfl (fun h2 => by rw [h2]; exact .cgtT rfl rfl (by (try simp only [List.length_nil, List.length_cons, List.length_append, List.length_take, List.length_drop, List.length_set]); omega)) <| zy (.pickO rfl rfl rfl) <| zd <| zq <| zi rfl (fun h2 => ?_) (fun h2 => ?_)
       refine zr <| yR .nil rfl (.of (TwoP.fold (.there (.there (.there (.there .here)))) (.there (.there (.there (.there .here)))) (.there (.there .here)) (.there (.there (.there .here))) (.there (.there (.there .here))) (.there (.there (.there .here))) (.there (.there (.there .here))) (.there (.there (.there .here))) (.there (.there (.there .here))) (.there (.there (.there .here))) (by first | assumption | omega | rfl | decide) (by first | assumption | omega | rfl | decide) (by first | assumption | omega | rfl | decide) (.t3 (.d (.d (.d .rf))))))
       refine zk <| zs <| zfl rfl rfl rfl <| zfl rfl rfl rfl ?_
       rotate_left
       contradiction
      exact absurd h2.2 (by decide)
    obtain ⟨n, rfl⟩ : ∃ n : Nat, i = n := ⟨i.toNat, by omega⟩
    have hlt : n < A.waits.length := by omega
    have hv : y.x.value.length ≤ 3000 := by omega
    have hP : ∀ l : List PktE, (l.map (·.p) = A.waits ∧ l.length = A.waits.length) → ∀ F, Meets Try.prog 36 [ptr q, adv (nth l n).p.src, i64 (nth l n).p.id, anv y] (AnswererP q A :: byO y.a y.c y.x.value :: F)
        (Some' (fun _ : Option Addr × Nat => True) (fun z => .tuple #[pkv ⟨(A.reply (nth A.waits n).src (nth A.waits n).id y.x).2.1, z.1, z.2⟩, i64 (A.reply (nth A.waits n).src (nth A.waits n).id y.x).2.2]) (fun z => byO z.1 z.2 (A.reply (nth A.waits n).src (nth A.waits n).id y.x).2.1.ans.value :: AnswererP q (A.reply (nth A.waits n).src (nth A.waits n).id y.x).1 :: byO y.a y.c y.x.value :: F)) := fun l hl F => by
      have h : (nth l n).p = nth A.waits n := by rw [← hl.1, nth_eq (by omega), nth_eq (by rw [List.length_map]; omega), List.getElem_map]
      rw [h]; exact raReply_P q A _ _ y F
    obtain ⟨A2, Q, er, ht⟩ : ∃ A2 Q e, A.reply (nth A.waits n).src (nth A.waits n).id y.x = (A2, Q, e) := ⟨_, _, _, rfl⟩
    rw [ht] at hP
    dsimp only at hP
    focus
     refine zs <| yB rfl fun b3 => zfl rfl rfl rfl <| zd <| zb <| zs <| zy (.ceqF rfl rfl (by omega)) <| zd <| zu rfl <| zs <| zy (.ceqF rfl rfl (by (try simp only [List.length_nil, List.length_cons, List.length_append, List.length_take, List.length_drop, List.length_set]); omega)) <| zd ?_
     refine zq <| zu rfl <| zs <| zy (.ceqF rfl rfl (by (try simp only [List.length_nil, List.length_cons, List.length_append, List.length_take, List.length_drop, List.length_set]); omega)) <| zd <| zu rfl <| zo <| zy (.ceqF rfl rfl (by (try simp only [List.length_nil, List.length_cons, List.length_append, List.length_take, List.length_drop, List.length_set]); omega)) <| zd <| zu rfl <| zs <| zy (.ceqF rfl rfl (by omega)) ?_
     refine zd <| zu rfl <| zs <| zj rfl rfl rfl <| zd <| zi rfl (fun h1 => ?_) (fun h1 => ?_)
     refine zs <| zfl rfl rfl rfl <| yE rfl rfl (.of (.t3 .rf)) (hW _) fun ⟨a7, c7⟩ hx7 => zfl rfl rfl rfl <| zy (.cltF rfl rfl (by omega)) <| yG rfl <| zf 1 rfl rfl <| yG rfl <| zl rfl rfl <| yG rfl <| zc rfl <| yG rfl ?_
     refine zj rfl rfl rfl <| zy (.pickF rfl rfl) <| zh rfl rfl (fun h2 => .fa' 17 rfl rfl) <| zh rfl rfl (fun h2 => by rw [h2]; exact .calc rfl) <| zh rfl rfl (fun h2 => by rw [h2]; exact .L rfl rfl) <| zh rfl rfl (fun h2 => by rw [h2]; exact .calc rfl) <| zh rfl rfl (fun h2 => by rw [h2]; exact .cgtF rfl rfl (by (try simp only [List.length_nil, List.length_cons, List.length_append, List.length_take, List.length_drop, List.length_set]); omega)) <| zy (.pickO rfl rfl rfl) <| zd <| zq <| zi rfl (fun h2 => ?_) (fun h2 => ?_)
     refine zr <| seqQ_r <| blockQ_r ?_
     rotate_left
     refine zk <| seqQ_n ?_
     rotate_left
     contradiction
    · exfalso
      have hh := hx7.2
      dsimp only at hh h2
      first | omega | (simp at h2; omega)
    refine J.cutD (ι := Nat × Option Addr × Nat) (fun _ => True) (fun z => [(8, ptr z.1), (9, i64 er)]) (fun z => pc z.1 63 (pktEC ⟨Q, z.2.1, z.2.2⟩) :: byO z.2.1 z.2.2 Q.ans.value :: anO y :: pc b3 83 (evEC ⟨6, (n : Int), ask, y⟩) :: pc b 87 (twoC p q an net.length cn ag gave.length cg at' told.length ct ah H.length ch B) :: CallerP p C :: AnswererP q A2 :: SlT true pktEC 34 (.slice an net.length cn) cn net :: SlT true pktEC 34 (.slice ag gave.length cg) cg gave :: SlT true pktEC 34 (.slice at' told.length ct) ct told :: SlT true intE 1 (.slice ah H.length ch) ch H :: PksA net :: PksA gave :: PksA told :: F) ?_ (fun z _ => ?_)
    · focus
       refine zo <| zfl rfl rfl rfl <| zfl rfl rfl rfl <| zy (.iC rfl rfl (by omega)) <| zy (.fe rfl) <| zy (.LEf rfl (by omega) (by decide)) <| zfl rfl rfl rfl <| zy (.iC rfl rfl (by omega)) <| zy (.fe rfl) <| zy (.LE1 rfl (by omega) rfl (by decide)) <| zfw [_, _, _, _, _, _, _, _, _, _, _, _, _] rfl rfl rfl rfl <| JT.both ?_ ?_
       refine yE rfl rfl (.of (.t2 (.tk (.there (.there (.there (.there (.there (.there (.there (.there (.there (.there (.there (.there .here)))))))))))) .rf))) (hP _ (by assumption) _) fun ⟨a150, c150⟩ _ => zc rfl <| zc rfl <| yN fun b8 => yW rfl rfl rfl rfl rfl <| zc rfl <| zd <| ⟨⟨_, ⟨_, _⟩⟩, ?_, (subxR rfl), (.of (.t0 (.t0 (.t1 (.t3 (.t3 (.t3 (.t0 (.t2 (.t2 (.t2 (.t2 (.t2 (.t2 (.t2 (.d (.d .rf)))))))))))))))))⟩
       omega
       refine yN fun b8 => yE rfl rfl (.of (.t3 (.tk (.there (.there (.there (.there (.there (.there (.there (.there (.there (.there (.there (.there (.there .here))))))))))))) .rf))) (hP _ (by assumption) _) fun ⟨a150, c150⟩ _ => zc rfl <| zc rfl <| yW rfl rfl rfl rfl rfl <| zc rfl <| zd <| ⟨⟨_, ⟨_, _⟩⟩, ?_, (subxR rfl), (.of (.t0 (.t0 (.t1 (.t3 (.t3 (.t3 (.t0 (.t2 (.t2 (.t2 (.t2 (.t2 (.t2 (.t2 (.d (.d .rf)))))))))))))))))⟩
       omega
    obtain ⟨b8, a8, c8⟩ := z
    dsimp only
    by_cases he : er = 0
    · subst he
      rw [TwoS.step_6 hlt hv ht]
      have e1 : (net ++ [(⟨Q, a8, c8⟩ : PktE)]).map (·.p) = net.map (·.p) ++ [Q] := by simp
      have e2 : (gave ++ [(⟨Q, a8, c8⟩ : PktE)]).map (·.p) = gave.map (·.p) ++ [Q] := by simp
      refine J.imp (Has.dup (c := pkO ⟨Q, a8, c8⟩) (SlT_pers _ _ _ _ _) (by (repeat (first | exact Has.here | assumption | apply Has.there)))) ?_
      refine J.imp (PksA.fold (xs := net) (y := ⟨Q, a8, c8⟩) (by (repeat (first | exact Has.here | assumption | apply Has.there))) (by (repeat (first | exact Has.here | assumption | apply Has.there))) (Imp.refl _)) ?_
      refine J.imp (PksA.fold (xs := gave) (y := ⟨Q, a8, c8⟩) (by (repeat (first | exact Has.here | assumption | apply Has.there))) (by (repeat (first | exact Has.here | assumption | apply Has.there))) (Imp.refl _)) ?_
      focus
       refine zs <| zy (.ceqT rfl rfl (by decide)) <| zd <| zt rfl <| zo <| zfl rfl rfl rfl <| zw rfl rfl <| zf 2 rfl rfl <| zl rfl rfl <| zw rfl rfl <| JT.both ?_ ?_
       refine JT.bsl1 (by repeat (first | exact Cells.nil | apply Cells.z | (apply Cells.cl; rfl; rfl; rfl))) (by simp only [List.length_cons, List.length_nil, Nat.reduceAdd]; rfl) (by decide) (by rfl) fun a162 => ?_
       refine JT.both ?_ ?_
       (refine JT.A1 rfl rfl (by rfl) rfl (by decide) (by omega) (fun a163 c163 hc163 => ?_))
       refine JT.yA rfl (Ev.L rfl rfl) <| JT.yA rfl (Ev.Lw rfl rfl) <| JT.bsl1 (by repeat (first | exact Cells.nil | apply Cells.z | (apply Cells.cl; rfl; rfl; rfl))) (by simp only [List.length_cons, List.length_nil, Nat.reduceAdd]; rfl) (by decide) (by rfl) fun a169 => ?_
       (refine JT.A1 rfl rfl (by rfl) rfl (by decide) (by omega) (fun a170 c170 hc170 => ?_))
       refine zc rfl <| zf 3 rfl rfl <| yS rfl rfl rfl rfl rfl (Nat.le_of_ble_eq_true rfl) rfl <| zc rfl <| zf 2 rfl rfl <| yS rfl rfl rfl rfl rfl (Nat.le_of_ble_eq_true rfl) rfl <| zd <| blockQ_n ?_
       rotate_left
       refine JT.bsl1 (by repeat (first | exact Cells.nil | apply Cells.z | (apply Cells.cl; rfl; rfl; rfl))) (by simp only [List.length_cons, List.length_nil, Nat.reduceAdd]; rfl) (by decide) (by rfl) fun a169 => ?_
       (refine JT.A1 rfl rfl (by rfl) rfl (by decide) (by omega) (fun a163 c163 hc163 => ?_))
       refine JT.yA rfl (Ev.L rfl rfl) <| JT.yA rfl (Ev.Lw rfl rfl) ?_
       (refine JT.A1 rfl rfl (by rfl) rfl (by decide) (by omega) (fun a170 c170 hc170 => ?_))
       refine zc rfl <| zf 3 rfl rfl <| yS rfl rfl rfl rfl rfl (Nat.le_of_ble_eq_true rfl) rfl <| zc rfl <| zf 2 rfl rfl <| yS rfl rfl rfl rfl rfl (Nat.le_of_ble_eq_true rfl) rfl <| zd <| blockQ_n ?_
       rotate_left
       refine JT.bsl1 (by repeat (first | exact Cells.nil | apply Cells.z | (apply Cells.cl; rfl; rfl; rfl))) (by simp only [List.length_cons, List.length_nil, Nat.reduceAdd]; rfl) (by decide) (by rfl) fun a169 => ?_
       refine JT.bsl1 (by repeat (first | exact Cells.nil | apply Cells.z | (apply Cells.cl; rfl; rfl; rfl))) (by simp only [List.length_cons, List.length_nil, Nat.reduceAdd]; rfl) (by decide) (by rfl) fun a162 => ?_
       (refine JT.A1 rfl rfl (by rfl) rfl (by decide) (by omega) (fun a163 c163 hc163 => ?_))
       refine JT.yA rfl (Ev.L rfl rfl) <| JT.yA rfl (Ev.Lw rfl rfl) ?_
       (refine JT.A1 rfl rfl (by rfl) rfl (by decide) (by omega) (fun a170 c170 hc170 => ?_))
       refine zc rfl <| zf 3 rfl rfl <| yS rfl rfl rfl rfl rfl (Nat.le_of_ble_eq_true rfl) rfl <| zc rfl <| zf 2 rfl rfl <| yS rfl rfl rfl rfl rfl (Nat.le_of_ble_eq_true rfl) rfl <| zd <| blockQ_n ?_
       rotate_left
      · exact retQD .nil rfl (.of (TwoP.fold .here (.there (.there (.there (.there (.there (.there (.there (.there (.there .here))))))))) (.there (.there (.there (.there (.there (.there (.there (.there (.there .here))))))))) .here (.there .here) (.there (.there (.there (.there (.there (.there (.there .here))))))) (.there (.there (.there (.there (.there (.there (.there .here))))))) (.there (.there (.there .here))) (.there (.there .here)) (.there (.there (.there (.there (.there .here))))) (by first | assumption | omega | rfl | decide) (by first | assumption | omega | rfl | decide) (by first | assumption | omega | rfl | decide) (.t3 (.d (.d (.d (.d .rf)))))))
      · exact retQD .nil rfl (.of (TwoP.fold .here (.there (.there (.there (.there (.there (.there (.there (.there (.there .here))))))))) (.there (.there (.there (.there (.there (.there (.there (.there (.there .here))))))))) .here .here (.there (.there (.there (.there (.there (.there (.there .here))))))) (.there (.there (.there (.there (.there (.there (.there .here))))))) (.there (.there (.there .here))) (.there (.there .here)) (.there (.there (.there (.there (.there .here))))) (by first | assumption | omega | rfl | decide) (by first | assumption | omega | rfl | decide) (by first | assumption | omega | rfl | decide) (.t3 (.d (.d (.d (.d .rf)))))))
      · exact retQD .nil rfl (.of (TwoP.fold .here (.there (.there (.there (.there (.there (.there (.there (.there (.there .here))))))))) (.there (.there (.there (.there (.there (.there (.there (.there (.there .here))))))))) .here .here (.there (.there (.there (.there (.there (.there (.there .here))))))) (.there (.there (.there (.there (.there (.there (.there .here))))))) (.there (.there (.there .here))) (.there (.there .here)) (.there (.there (.there (.there (.there .here))))) (by first | assumption | omega | rfl | decide) (by first | assumption | omega | rfl | decide) (by first | assumption | omega | rfl | decide) (.t3 (.d (.d (.d (.d .rf)))))))
    · rw [TwoS.step_6n hlt hv ht he]
      focus
       refine zs <| zy (.ceqF rfl rfl (by omega)) <| zd <| zu rfl <| zk <| blockQ_n ?_
      exact retQD .nil rfl (.of (TwoP.fold (.there (.there (.there (.there .here)))) (.there (.there (.there (.there .here)))) (.there (.there (.there (.there .here)))) (.there (.there (.there (.there .here)))) (.there (.there (.there (.there .here)))) (.there (.there (.there (.there .here)))) (.there (.there (.there (.there .here)))) (.there (.there (.there (.there .here)))) (.there (.there (.there (.there .here)))) (.there (.there (.there (.there .here)))) (by first | assumption | omega | rfl | decide) (by first | assumption | omega | rfl | decide) (by first | assumption | omega | rfl | decide) (.t2 (.d (.d (.d .rf))))))
  · rw [TwoS.step_n k1 (by omega) (by omega) (by omega) k5 k6]
    focus
     refine zs <| yB rfl fun b3 => zfl rfl rfl rfl <| zd <| zb <| zs <| zy (.ceqF rfl rfl (by omega)) <| zd <| zu rfl <| zs <| zy (.ceqF rfl rfl (by (try simp only [List.length_nil, List.length_cons, List.length_append, List.length_take, List.length_drop, List.length_set]); omega)) <| zd ?_
     refine zq <| zu rfl <| zs <| zy (.ceqF rfl rfl (by (try simp only [List.length_nil, List.length_cons, List.length_append, List.length_take, List.length_drop, List.length_set]); omega)) <| zd <| zu rfl <| zo <| zy (.ceqF rfl rfl (by (try simp only [List.length_nil, List.length_cons, List.length_append, List.length_take, List.length_drop, List.length_set]); omega)) <| zd <| zu rfl <| zs <| zy (.ceqF rfl rfl (by omega)) ?_
     refine zd <| zu rfl <| zs <| zy (.ceqF rfl rfl (by omega)) <| zd <| zu rfl <| zk <| blockQ_n ?_
    exact retQD .nil rfl (.of (TwoP.fold (.there .here) (.there .here) (.there .here) (.there .here) (.there .here) (.there .here) (.there .here) (.there .here) (.there .here) (.there .here) (by first | assumption | omega | rfl | decide) (by first | assumption | omega | rfl | decide) (by first | assumption | omega | rfl | decide) (.t1 (.d .rf))))
end Go.Proofs.Ytienlpaehgdpaaa
