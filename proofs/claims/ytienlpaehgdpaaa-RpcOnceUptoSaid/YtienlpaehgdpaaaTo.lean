/- Layer 6: two over a network: a packet comes: the functions. Conditions: none. -/
import Derived.Test.YtienlpaehgdpaaaTx
set_option linter.unusedSimpArgs false
set_option linter.unusedVariables false
set_option maxRecDepth 100000
set_option maxHeartbeats 4000000
namespace Go.SL
open Go
theorem TwoS.comes_told {C C2 : Clr} {A : Anr} {N G T : List Pkt} {H : List Int} {B : Bool} {p Q : Pkt} (hr : p.reply = true) (ht : C.take p = (C2, Q, true)) (hq : Q.id = p.id) :
    TwoS.comes ⟨C, A, N, G, T, H, B⟩ p = ⟨C2, A, N, G, T ++ [p], H, (B || T.any (fun q => decide (q.id = p.id))) || !decide (p ∈ G)⟩ := by
  unfold TwoS.comes; simp [hr, ht, hq]
theorem TwoS.comes_not {C C2 : Clr} {A : Anr} {N G T : List Pkt} {H : List Int} {B : Bool} {p Q : Pkt} (hr : p.reply = true) (ht : C.take p = (C2, Q, false)) :
    TwoS.comes ⟨C, A, N, G, T, H, B⟩ p = ⟨C2, A, N, G, T, H, B⟩ := by
  unfold TwoS.comes; simp [hr, ht]
theorem TwoS.comes_new {C : Clr} {A A2 : Anr} {N G T : List Pkt} {H : List Int} {B : Bool} {p Q : Pkt} (hr : p.reply = false) (ht : A.take p = (A2, Q, 1)) :
    TwoS.comes ⟨C, A, N, G, T, H, B⟩ p = ⟨C, A2, N, G, T, H ++ [p.id], B || decide (p.id ∈ H)⟩ := by
  unfold TwoS.comes; simp [hr, ht]
theorem TwoS.comes_again {C : Clr} {A A2 : Anr} {N G T : List Pkt} {H : List Int} {B : Bool} {p Q : Pkt} (hr : p.reply = false) (ht : A.take p = (A2, Q, 3)) :
    TwoS.comes ⟨C, A, N, G, T, H, B⟩ p = ⟨C, A2, N ++ [Q], G, T, H, B || !decide (Q ∈ G)⟩ := by
  unfold TwoS.comes; simp [hr, ht]
theorem TwoS.comes_else {C : Clr} {A A2 : Anr} {N G T : List Pkt} {H : List Int} {B : Bool} {p Q : Pkt} {e : Int} (hr : p.reply = false) (ht : A.take p = (A2, Q, e)) (h1 : e ≠ 1) (h3 : e ≠ 3) :
    TwoS.comes ⟨C, A, N, G, T, H, B⟩ p = ⟨C, A2, N, G, T, H, B⟩ := by
  unfold TwoS.comes; simp [hr, ht, h1, h3]
structure TwoS.Sm (S : TwoS) : Prop where
  n : S.net.length ≤ 100000
  g : S.gave.length ≤ 100000
  t : S.told.length ≤ 100000
  h : S.heard.length ≤ 100000
theorem Clr.take_id {C C2 : Clr} {p Q : Pkt} (h : C.take p = (C2, Q, true)) : Q.id = p.id := by
  rcases Clr.take_cases C p with e | ⟨i, hi, e, _⟩
  · rw [e] at h; simp at h
  · rw [e] at h; simp only [Prod.mk.injEq] at h; rw [← h.2.1]; exact (Clr.ix_some hi).2
theorem mem_map_p {l : List PktE} {p : Pkt} {k : Nat} (hk : k < l.length) (h : (nth l k).p = p) : p ∈ l.map (·.p) := List.mem_map.2 ⟨nth l k, by rw [nth_eq hk]; exact List.getElem_mem hk, h⟩
theorem not_mem_map_p {l : List PktE} {p : Pkt} (h : ∀ j, j < l.length → (nth l j).p ≠ p) : ¬ p ∈ l.map (·.p) := by
  intro hm
  obtain ⟨y, hy, e⟩ := List.mem_map.1 hm
  obtain ⟨j, hj, rfl⟩ := List.mem_iff_getElem.1 hy
  exact h j hj (by rw [nth_eq hj]; exact e)
theorem any_snoc {l : List PktE} {f : PktE → Bool} {k : Nat} (hk : k < l.length) : (l.take (k + 1)).any f = ((l.take k).any f || f (nth l k)) := by
  rw [List.take_add_one, List.getElem?_eq_getElem hk, ← nth_eq hk]; simp
end Go.SL
namespace Go.Proofs.Ytienlpaehgdpaaa
open Go Go.SL
attribute [local irreducible] pc rc SlT Me Mt It pt ro pur ex sep old Meets
attribute [local irreducible] CallsA CallerP KnP KnsA AnswererP RCallerP KbA RAnswererP
theorem l06in_fn {a : Option Addr} {c : Nat} {xs : List Int} (n : Int) {F : List Assn} [Hs : HS F (.slice a xs.length c) Int intE 1 c xs] : Meets Try.prog 31 [.slice a xs.length c, i64 n] F (Det (.bool (decide (n ∈ xs))) F) := by
  refine Meets.intro b31 k31 (by simp) ?_
  refine J.sl Hs (fun hC hL _ => ?_)
  focus
   refine zs <| zc rfl <| zc rfl <| zd <| zq <| zb ?_
  refine J.lp (ι := Nat) (fun k => k ≤ xs.length ∧ ∀ j, j < k → nth xs j ≠ n) (fun k => [(5, i64 (k : Int))]) (fun _ => F) (fun k => xs.length - k) 0 ⟨by omega, fun j hj => by omega⟩ (by exact subxR rfl) (.of .rf) (fun k hk => ?_)
  obtain ⟨hk, hn⟩ := hk
  by_cases hlt : k < xs.length
  · by_cases he : nth xs k = n
    · rw [decide_eq_true (he ▸ nth_mem hlt : n ∈ xs)]
      focus
       refine zs <| zc rfl <| zy (.cltT rfl rfl (by omega)) <| zd <| zq <| zt rfl <| zk <| zq <| zb <| zs <| zy (.iC rfl rfl (by omega)) <| zy (.LE0 rfl (by omega) rfl) ?_
       refine zy (.ceqT rfl rfl (by omega)) <| zd <| zt rfl <| zs <| zc rfl <| zd <| zr <| yR (.t rfl .nil) rfl (.of .rf)
    · focus
       refine zs <| zc rfl <| zy (.cltT rfl rfl (by omega)) <| zd <| zq <| zt rfl <| zk <| zq <| zb <| zs <| zy (.iC rfl rfl (by omega)) <| zy (.LE0 rfl (by omega) rfl) ?_
       refine zy (.ceqF rfl rfl (by omega)) <| zd <| zu rfl <| zk <| zo <| zy (.addN rfl rfl (by omega)) <| zd <| ⟨_, ?_, (by omega), (subxR rfl), (.of .rf)⟩
      exact ⟨by omega, fun j hj => by
        rcases Nat.lt_succ_iff_lt_or_eq.1 hj with h | h
        · exact hn j h
        · subst h; exact he⟩
  · have hno : ¬ n ∈ xs := fun hm => by
      obtain ⟨j, hj, rfl⟩ := List.mem_iff_getElem.1 hm
      exact hn j (by omega) (nth_eq hj)
    rw [decide_eq_false hno]
    focus
     refine zs <| zc rfl <| zy (.cltF rfl rfl (by omega)) <| zd <| zq <| zu rfl <| zx <| zs <| zc rfl <| zd <| zr <| yR (.t rfl .nil) rfl (.of .rf)
theorem l06gave_fn {b p q ln cn cg lt ct lh ch : Nat} {an ag at' ah : Option Addr} {gave : List PktE} {B : Bool} (x : PktE) (F : List Assn) : Meets Try.prog 85 [ptr b, pkv x]
    (pc b 87 (twoC p q an ln cn ag gave.length cg at' lt ct ah lh ch B) :: SlT true pktEC 34 (.slice ag gave.length cg) cg gave :: PksA gave :: pkO x :: F)
    (Det (.bool (decide (x.p ∈ gave.map (·.p)))) (pc b 87 (twoC p q an ln cn ag gave.length cg at' lt ct ah lh ch B) :: SlT true pktEC 34 (.slice ag gave.length cg) cg gave :: PksA gave :: pkO x :: F)) := by
  refine Meets.intro b85 k85 (by simp) ?_
  refine J.slF (Has.there Has.here) (fun hC hL _ => ?_)
  focus
   refine zs <| yB rfl fun b3 => zc rfl <| zc rfl <| zd <| zq <| zb ?_
  refine J.lp (ι := Nat) (fun k => k ≤ gave.length ∧ ∀ j, j < k → (nth gave j).p ≠ x.p) (fun k => [(5, i64 (k : Int))]) (fun _ => pc b3 63 (pktEC x) :: pc b 87 (twoC p q an ln cn ag gave.length cg at' lt ct ah lh ch B) :: SlT true pktEC 34 (.slice ag gave.length cg) cg gave :: PksA gave :: pkO x :: F) (fun k => gave.length - k) 0 ⟨by omega, fun j hj => by omega⟩ (by exact subxR rfl) (.of (.t0 (.t0 (.t0 (.t0 (.t0 .rf)))))) (fun k hk => ?_)
  obtain ⟨hk, hn⟩ := hk
  by_cases hlt : k < gave.length
  · refine J.imp (Imp.trans (Imp.take (c := PksA gave) (by (repeat (first | exact Has.here | assumption | apply Has.there))) (Imp.refl _)) (PksA.get (i := k) hlt)) ?_
    by_cases he : (nth gave k).p = x.p
    · rw [decide_eq_true (mem_map_p hlt he)]
      focus
       refine zs <| zfl rfl rfl rfl <| zc rfl <| zy (.cltT rfl rfl (by omega)) <| zd <| zq <| zt rfl <| zk <| zq <| zb <| zs <| zfl rfl rfl rfl ?_
       refine zy (.iC rfl rfl (by omega)) <| zy (.LE rfl (by omega)) <| zw rfl rfl <| yD rfl rfl (.of .rf) (r4Same_fn _ _) <| zd <| zi rfl (fun h1 => ?_) (fun h1 => ?_)
       refine zs <| zc rfl <| zd <| zr <| yR (.t rfl .nil) rfl (.of (.t3 (.t3 (.t1 (.t2 (.d (.d .rf)))))))
       contradiction
    · focus
       refine zs <| zfl rfl rfl rfl <| zc rfl <| zy (.cltT rfl rfl (by omega)) <| zd <| zq <| zt rfl <| zk <| zq <| zb <| zs <| zfl rfl rfl rfl ?_
       refine zy (.iC rfl rfl (by omega)) <| zy (.LE rfl (by omega)) <| zw rfl rfl <| yD rfl rfl (.of .rf) (r4Same_fn _ _) <| zd <| zi rfl (fun h1 => ?_) (fun h1 => ?_)
       contradiction
       refine zk <| zo <| zy (.addN rfl rfl (by omega)) <| zd <| ⟨_, ?_, (by omega), (subxR rfl), (.of (.t2 (.t2 (.t2 (.t1 (.t1 (.d .rf)))))))⟩
      exact ⟨by omega, fun j hj => by
        rcases Nat.lt_succ_iff_lt_or_eq.1 hj with h | h
        · exact hn j h
        · subst h; exact he⟩
  · rw [decide_eq_false (not_mem_map_p (fun j hj => hn j (by omega)))]
    focus
     refine zs <| zfl rfl rfl rfl <| zc rfl <| zy (.cltF rfl rfl (by omega)) <| zd <| zq <| zu rfl <| zx <| zs <| zc rfl <| zd <| zr ?_
     refine yR (.t rfl .nil) rfl (.of (.t1 (.t1 (.t1 (.t1 (.d .rf))))))
theorem l06comes_P (b : Nat) (S : TwoS) (x : PktE) (F : List Assn) (hA : S.A.Ok) (hS : S.Sm) : Meets Try.prog 55 [ptr b, pkv x] (TwoP b S :: pkO x :: F) (Det (.tuple #[]) (TwoP b (S.comes x.p) :: pkO x :: F)) := by
  refine Meets.intro b55 k55 (by simp) ?_
  obtain ⟨C, A, N, G, T, H, B⟩ := S
  obtain ⟨s1, s2, s3, s4⟩ := hS
  dsimp only at hA s1 s2 s3 s4
  refine J.openTwo Has.here (fun p q an cn net ag cg gave at' ct told ah ch hn hg ht hn1 hn2 hg1 hg2 ht1 ht2 hh1 hh2 => ?_)
  subst hn hg ht
  rw [List.length_map] at s1 s2 s3
  refine J.imp (Has.dup (c := pkO x) (SlT_pers _ _ _ _ _) (by (repeat (first | exact Has.here | assumption | apply Has.there)))) ?_
  by_cases hr : x.p.reply = true
  · have hP := fun (F : List Assn) (H : HS F (.slice x.a x.p.ans.value.length x.c) UInt8 byteC 1 x.c x.p.ans.value) => rcTake_P p C x F
    have hP' := fun F => hP (pkO x :: F) inferInstance
    clear hP
    obtain ⟨C2, Q, e, ht⟩ : ∃ C2 Q e, C.take x.p = (C2, Q, e) := ⟨_, _, _, rfl⟩
    rw [ht] at hP'
    dsimp only at hP'
    focus
     refine zs <| yB rfl fun b3 => zfl rfl rfl rfl <| zd <| zq <| zi rfl (fun h1 => ?_) (fun h1 => ?_)
     rotate_left
     exact Bool.noConfusion (h1.symm.trans hr)
    refine J.cutD (ι := Nat) (fun _ => True) (fun b4 => [(4, ptr b4), (5, .bool e)]) (fun b4 => pc b4 63 (pktEC (p0 Q)) :: pkO x :: pkO x :: pc b3 63 (pktEC x) :: pc b 87 (twoC p q an net.length cn ag gave.length cg at' told.length ct ah H.length ch B) :: CallerP p C2 :: AnswererP q A :: SlT true pktEC 34 (.slice an net.length cn) cn net :: SlT true pktEC 34 (.slice ag gave.length cg) cg gave :: SlT true pktEC 34 (.slice at' told.length ct) ct told :: SlT true intE 1 (.slice ah H.length ch) ch H :: PksA net :: PksA gave :: PksA told :: F) ?_ (fun b4 _ => ?_)
    · focus
       refine zo <| zfl rfl rfl rfl <| zw rfl rfl <| JT.both ?_ ?_
       refine yD rfl rfl (.of (.t4 (.t1 .rf))) (hP' _) <| zc rfl <| zc rfl <| yN fun b4 => yW rfl rfl rfl rfl rfl <| zc rfl <| zd <| ⟨_, ?_, (subxR rfl), (.of (.t0 (.t1 (.t2 (.t1 (.t1 (.t0 (.t0 (.t0 (.t0 (.t0 (.t0 (.t0 (.t0 (.t0 .rf)))))))))))))))⟩
       rotate_left
       refine yN fun b4 => yD rfl rfl (.of (.t5 (.t2 .rf))) (hP' _) <| zc rfl <| zc rfl <| yW rfl rfl rfl rfl rfl <| zc rfl <| zd <| ⟨_, ?_, (subxR rfl), (.of (.t0 (.t1 (.t2 (.t1 (.t1 (.t0 (.t0 (.t0 (.t0 (.t0 (.t0 (.t0 (.t0 (.t0 .rf)))))))))))))))⟩
       rotate_left
      all_goals trivial
    cases e with
    | true =>
      have hq := Clr.take_id ht
      rw [TwoS.comes_told hr ht hq]
      have e1 : (told ++ [x]).map (·.p) = told.map (·.p) ++ [x.p] := by simp
      focus
       refine zs <| zc rfl <| zd <| zq <| zu rfl <| zk <| zs <| zc rfl <| zd <| zq <| zb ?_
      refine J.lp (ι := Nat × Bool) (fun i => i.1 ≤ told.length ∧ i.2 = (B || (told.take i.1).any fun y => decide (y.p.id = x.p.id))) (fun i => [(6, i64 (i.1 : Int))]) (fun i => pc b4 63 (pktEC (p0 Q)) :: pkO x :: pkO x :: pc b3 63 (pktEC x) :: pc b 87 (twoC p q an net.length cn ag gave.length cg at' told.length ct ah H.length ch i.2) :: CallerP p C2 :: AnswererP q A :: SlT true pktEC 34 (.slice an net.length cn) cn net :: SlT true pktEC 34 (.slice ag gave.length cg) cg gave :: SlT true pktEC 34 (.slice at' told.length ct) ct told :: SlT true intE 1 (.slice ah H.length ch) ch H :: PksA net :: PksA gave :: PksA told :: F) (fun i => told.length - i.1) (0, B) ⟨by simp, by simp⟩ (by exact subxR rfl) (.of (.t0 (.t0 (.t0 (.t0 (.t0 (.t0 (.t0 (.t0 (.t0 (.t0 (.t0 (.t0 (.t0 (.t0 .rf))))))))))))))) (fun i hi => ?_)
      obtain ⟨k, B1⟩ := i
      obtain ⟨hk, hB⟩ := hi
      dsimp only at hk hB ⊢
      by_cases hlt : k < told.length
      · have hs := any_snoc (f := fun y => decide (y.p.id = x.p.id)) hlt
        have hs2 : (B || (told.take (k + 1)).any fun y => decide (y.p.id = x.p.id)) = (B1 || decide ((nth told k).p.id = x.p.id)) := by rw [hs, hB, Bool.or_assoc]
        cases B1 with
        | true =>
          rw [Bool.true_or] at hs2
          focus
           refine zs <| zfl rfl rfl rfl <| zc rfl <| zy (.cltT rfl rfl (by omega)) <| zd <| zq <| zt rfl <| zk <| zq <| zb <| zo <| zfl rfl rfl rfl ?_
           refine zv rfl rfl <| zv rfl rfl <| zv rfl rfl <| zv rfl rfl <| zv rfl rfl <| zv rfl rfl <| zv rfl rfl <| zv rfl rfl <| zy (.pickT rfl rfl) <| zf 6 rfl rfl <| yS rfl rfl rfl rfl rfl (Nat.le_of_ble_eq_true rfl) rfl <| zd ?_
           refine zo <| zy (.addN rfl rfl (by omega)) <| zd <| ⟨⟨_, _⟩, ?_, (by omega), (subxR rfl), (.of (.t1 (.t1 (.t1 (.t1 (.t0 (.t0 (.t0 (.t0 (.t0 (.t0 (.t0 (.t0 (.t0 (.t0 .rf)))))))))))))))⟩
          exact ⟨by dsimp only; omega, hs2.symm⟩
        | false =>
          rw [Bool.false_or] at hs2
          focus
           refine zs <| zfl rfl rfl rfl <| zc rfl <| zy (.cltT rfl rfl (by omega)) <| zd <| zq <| zt rfl <| zk <| zq <| zb <| zo <| zfl rfl rfl rfl ?_
           refine yG rfl <| zf 4 rfl rfl <| yG rfl <| zl rfl rfl <| yG rfl <| zy (.iC rfl rfl (by omega)) <| yG rfl <| zy (.fe rfl) <| yG rfl <| zy (.LE1 rfl (by omega) rfl (by decide)) <| yG rfl <| zf 5 rfl rfl ?_
           refine yG rfl <| zl rfl rfl <| yG rfl <| zj rfl rfl rfl <| zy (.pickF rfl rfl) <| zf 6 rfl rfl <| yS rfl rfl rfl rfl rfl (Nat.le_of_ble_eq_true rfl) rfl <| zd <| zo <| zy (.addN rfl rfl (by omega)) <| zd <| ⟨⟨_, _⟩, ?_, (by omega), (subxR rfl), (.of (.t1 (.t1 (.t1 (.t1 (.t0 (.t0 (.t0 (.t0 (.t0 (.t0 (.t0 (.t0 (.t0 (.t0 .rf)))))))))))))))⟩
          exact ⟨by dsimp only; omega, hs2.symm⟩
      · have hB2 : B1 = (B || (told.map (·.p)).any fun y => decide (y.id = x.p.id)) := by
          rw [hB, List.take_of_length_le (by omega), List.any_map]; rfl
        rw [← hB2]
        refine J.imp (PksA.fold (xs := told) (y := x) (by (repeat (first | exact Has.here | assumption | apply Has.there))) (by (repeat (first | exact Has.here | assumption | apply Has.there))) (Imp.refl _)) ?_
        cases B1 with
        | true =>
          rw [Bool.true_or]
          focus
           refine zs <| zfl rfl rfl rfl <| zc rfl <| zy (.cltF rfl rfl (by omega)) <| zd <| zq <| zu rfl <| zx <| zs <| zfl rfl rfl rfl <| zv rfl rfl <| zv rfl rfl ?_
           refine zv rfl rfl <| zv rfl rfl <| zv rfl rfl <| zy (.pickT rfl rfl) <| zv rfl rfl <| zv rfl rfl <| zv rfl rfl <| zy (.pickT rfl rfl) <| zf 6 rfl rfl <| yS rfl rfl rfl rfl rfl (Nat.le_of_ble_eq_true rfl) rfl <| zfl rfl rfl rfl <| zw rfl rfl ?_
           refine JT.bsl1 (by repeat (first | exact Cells.nil | apply Cells.z | (apply Cells.cl; rfl; rfl; rfl))) (by simp only [List.length_cons, List.length_nil, Nat.reduceAdd]; rfl) (by decide) (by rfl) fun a77 => ?_
           (refine JT.A1 rfl rfl (by rfl) rfl (by decide) (by omega) (fun a78 c78 hc78 => ?_))
           refine zf 4 rfl rfl <| yS rfl rfl rfl rfl rfl (Nat.le_of_ble_eq_true rfl) rfl <| zd <| zr <| yR .nil rfl (.of (TwoP.fold .here (.there (.there (.there (.there (.there (.there .here)))))) (.there (.there (.there (.there (.there (.there .here)))))) (.there (.there (.there (.there (.there (.there .here)))))) (.there (.there (.there (.there (.there (.there .here)))))) .here (.there (.there (.there (.there (.there .here))))) (.there (.there (.there (.there (.there .here))))) (.there (.there (.there (.there (.there .here))))) (.there .here) (by first | assumption | omega | rfl | decide) (by first | assumption | omega | rfl | decide) (by first | assumption | omega | rfl | decide) (.t2 (.d (.d (.d .rf))))))
        | false =>
          rw [Bool.false_or]
          focus
           refine zs <| zfl rfl rfl rfl <| zc rfl <| zy (.cltF rfl rfl (by omega)) <| zd <| zq <| zu rfl <| zx <| zs <| zfl rfl rfl rfl <| yG rfl <| zf 5 rfl rfl ?_
           refine yG rfl <| zl rfl rfl <| yG rfl <| zf 5 rfl rfl <| yG rfl <| zl rfl rfl <| yG rfl <| zy (.cneF rfl rfl (by omega)) <| zy (.pickF rfl rfl) <| yG rfl <| zw rfl rfl <| yG rfl ?_
           refine yD rfl rfl (.of (.t4 (.tk (.there (.there (.there (.there (.there (.there (.there .here))))))) (.tk (.there (.there (.there (.there (.there (.there (.there (.there (.there (.there .here)))))))))) (.t2 .rf))))) (l06gave_fn _ _) <| yG rfl <| zc rfl <| zy (.pickF rfl rfl) <| zf 6 rfl rfl <| yS rfl rfl rfl rfl rfl (Nat.le_of_ble_eq_true rfl) rfl <| zfl rfl rfl rfl <| zw rfl rfl <| JT.bsl1 (by repeat (first | exact Cells.nil | apply Cells.z | (apply Cells.cl; rfl; rfl; rfl))) (by simp only [List.length_cons, List.length_nil, Nat.reduceAdd]; rfl) (by decide) (by rfl) fun a77 => ?_
           (refine JT.A1 rfl rfl (by rfl) rfl (by decide) (by omega) (fun a78 c78 hc78 => ?_))
           refine zf 4 rfl rfl <| yS rfl rfl rfl rfl rfl (Nat.le_of_ble_eq_true rfl) rfl <| zd <| zr <| yR .nil rfl (.of (TwoP.fold .here (.there (.there (.there (.there (.there (.there (.there (.there .here)))))))) (.there (.there (.there (.there (.there (.there (.there (.there .here)))))))) (.there (.there (.there (.there (.there (.there (.there (.there .here)))))))) (.there (.there .here)) .here (.there (.there (.there (.there (.there (.there .here)))))) (.there (.there (.there (.there (.there (.there .here)))))) (.there .here) (.there (.there .here)) (by first | assumption | omega | rfl | decide) (by first | assumption | omega | rfl | decide) (by first | assumption | omega | rfl | decide) (.t1 (.d (.d (.d .rf))))))
    | false =>
      rw [TwoS.comes_not hr ht]
      focus
       refine zs <| zc rfl <| zd <| zq <| zt rfl <| zr <| yR .nil rfl (.of (TwoP.fold (.there (.there (.there (.there .here)))) (.there (.there (.there (.there .here)))) (.there (.there (.there (.there .here)))) (.there (.there (.there (.there .here)))) (.there (.there (.there (.there .here)))) (.there (.there (.there (.there .here)))) (.there (.there (.there (.there .here)))) (.there (.there (.there (.there .here)))) (.there (.there (.there (.there .here)))) (.there (.there (.there (.there .here)))) (by first | assumption | omega | rfl | decide) (by first | assumption | omega | rfl | decide) (by first | assumption | omega | rfl | decide) (.t1 (.d (.d (.d .rf))))))
  · have hr' : x.p.reply = false := by simpa using hr
    have hP := fun F => raTake_P q A x F hA
    obtain ⟨A2, Q, e, ht⟩ : ∃ A2 Q e, A.take x.p = (A2, Q, e) := ⟨_, _, _, rfl⟩
    rw [ht] at hP
    dsimp only at hP
    focus
     refine zs <| yB rfl fun b3 => zfl rfl rfl rfl <| zd <| zq <| zi rfl (fun h1 => ?_) (fun h1 => ?_)
     contradiction
     refine zk <| seqQ_n ?_
    refine J.cutD (ι := Nat × Option Addr × Nat) (fun _ => True) (fun z => [(7, ptr z.1), (8, i64 e)]) (fun z => pc z.1 63 (pktEC ⟨Q, z.2.1, z.2.2⟩) :: byO z.2.1 z.2.2 Q.ans.value :: pkO x :: pkO x :: pc b3 63 (pktEC x) :: pc b 87 (twoC p q an net.length cn ag gave.length cg at' told.length ct ah H.length ch B) :: CallerP p C :: AnswererP q A2 :: SlT true pktEC 34 (.slice an net.length cn) cn net :: SlT true pktEC 34 (.slice ag gave.length cg) cg gave :: SlT true pktEC 34 (.slice at' told.length ct) ct told :: SlT true intE 1 (.slice ah H.length ch) ch H :: PksA net :: PksA gave :: PksA told :: F) ?_ (fun z _ => ?_)
    · focus
       refine zo <| zfl rfl rfl rfl <| zw rfl rfl <| JT.both ?_ ?_
       refine yE rfl rfl (.of (.t5 (.t1 .rf))) (hP _) fun ⟨a87, c87⟩ _ => zc rfl <| zc rfl <| yN fun b7 => yW rfl rfl rfl rfl rfl <| zc rfl <| zd <| ⟨⟨_, ⟨_, _⟩⟩, ?_, (subxR rfl), (.of (.t0 (.t0 (.t1 (.t2 (.t1 (.t1 (.t1 (.t0 (.t0 (.t0 (.t0 (.t0 (.t0 (.t0 (.t0 .rf))))))))))))))))⟩
       omega
       refine yN fun b7 => yE rfl rfl (.of (.t6 (.t2 .rf))) (hP _) fun ⟨a87, c87⟩ _ => zc rfl <| zc rfl <| yW rfl rfl rfl rfl rfl <| zc rfl <| zd <| ⟨⟨_, ⟨_, _⟩⟩, ?_, (subxR rfl), (.of (.t0 (.t0 (.t1 (.t2 (.t1 (.t1 (.t1 (.t0 (.t0 (.t0 (.t0 (.t0 (.t0 (.t0 (.t0 .rf))))))))))))))))⟩
       omega
    obtain ⟨b7, a7, c7⟩ := z
    dsimp only
    by_cases h1 : e = 1
    · subst h1
      rw [TwoS.comes_new hr' ht]
      cases B with
      | true =>
        rw [Bool.true_or]
        focus
         refine zs <| zc rfl <| zd <| zb <| zs <| zy (.ceqT rfl rfl (by decide)) <| zd <| zt rfl <| zo <| zfl rfl rfl rfl <| zv rfl rfl <| zv rfl rfl ?_
         refine zv rfl rfl <| zv rfl rfl <| zv rfl rfl <| zy (.pickT rfl rfl) <| zf 6 rfl rfl <| yS rfl rfl rfl rfl rfl (Nat.le_of_ble_eq_true rfl) rfl <| zfl rfl rfl rfl <| zfl rfl rfl rfl <| JT.bsl1 (by repeat (first | exact Cells.nil | apply Cells.z | (apply Cells.cl; rfl; rfl; rfl))) (by simp only [List.length_cons, List.length_nil, Nat.reduceAdd]; rfl) (by decide) (by rfl) fun a116 => ?_
         (refine JT.A1 rfl rfl (by rfl) rfl (by decide) (by omega) (fun a117 c117 hc117 => ?_))
         refine zf 5 rfl rfl <| yS rfl rfl rfl rfl rfl (Nat.le_of_ble_eq_true rfl) rfl <| zd <| blockQ_n ?_
        exact retQD .nil rfl (Up.of (TwoP.fold (p := p) (q := q) (an := an) (cn := cn) (net := net) (ag := ag) (cg := cg) (gave := gave) (at' := at') (ct := ct) (told := told) (ah := a117) (ch := c117) (by (repeat (first | exact Has.here | assumption | apply Has.there))) (by (repeat (first | exact Has.here | assumption | apply Has.there))) (by (repeat (first | exact Has.here | assumption | apply Has.there))) (by (repeat (first | exact Has.here | assumption | apply Has.there))) (by (repeat (first | exact Has.here | assumption | apply Has.there))) (by (repeat (first | exact Has.here | assumption | apply Has.there))) (by (repeat (first | exact Has.here | assumption | apply Has.there))) (by (repeat (first | exact Has.here | assumption | apply Has.there))) (by (repeat (first | exact Has.here | assumption | apply Has.there))) (by (repeat (first | exact Has.here | assumption | apply Has.there))) rfl rfl rfl (by (repeat (first | exact Imp.refl _ | (apply Imp.take; (· (repeat (first | exact Has.here | assumption | apply Has.there)))) | fail | apply Imp.dropT | exact Imp.nil _)))))
      | false =>
        rw [Bool.false_or]
        focus
         refine zs <| zc rfl <| zd <| zb <| zs <| zy (.ceqT rfl rfl (by decide)) <| zd <| zt rfl <| zo <| zfl rfl rfl rfl <| yG rfl <| zf 5 rfl rfl ?_
         refine yG rfl <| zl rfl rfl <| yG rfl <| zf 5 rfl rfl <| yG rfl <| zl rfl rfl <| yG rfl <| yD rfl rfl (.of .rf) (l06in_fn _) <| zy (.pickF rfl rfl) <| zf 6 rfl rfl <| yS rfl rfl rfl rfl rfl (Nat.le_of_ble_eq_true rfl) rfl <| zfl rfl rfl rfl ?_
         refine zfl rfl rfl rfl <| JT.bsl1 (by repeat (first | exact Cells.nil | apply Cells.z | (apply Cells.cl; rfl; rfl; rfl))) (by simp only [List.length_cons, List.length_nil, Nat.reduceAdd]; rfl) (by decide) (by rfl) fun a116 => ?_
         (refine JT.A1 rfl rfl (by rfl) rfl (by decide) (by omega) (fun a117 c117 hc117 => ?_))
         refine zf 5 rfl rfl <| yS rfl rfl rfl rfl rfl (Nat.le_of_ble_eq_true rfl) rfl <| zd <| blockQ_n ?_
        exact retQD .nil rfl (Up.of (TwoP.fold (p := p) (q := q) (an := an) (cn := cn) (net := net) (ag := ag) (cg := cg) (gave := gave) (at' := at') (ct := ct) (told := told) (ah := a117) (ch := c117) (by (repeat (first | exact Has.here | assumption | apply Has.there))) (by (repeat (first | exact Has.here | assumption | apply Has.there))) (by (repeat (first | exact Has.here | assumption | apply Has.there))) (by (repeat (first | exact Has.here | assumption | apply Has.there))) (by (repeat (first | exact Has.here | assumption | apply Has.there))) (by (repeat (first | exact Has.here | assumption | apply Has.there))) (by (repeat (first | exact Has.here | assumption | apply Has.there))) (by (repeat (first | exact Has.here | assumption | apply Has.there))) (by (repeat (first | exact Has.here | assumption | apply Has.there))) (by (repeat (first | exact Has.here | assumption | apply Has.there))) rfl rfl rfl (by (repeat (first | exact Imp.refl _ | (apply Imp.take; (· (repeat (first | exact Has.here | assumption | apply Has.there)))) | fail | apply Imp.dropT | exact Imp.nil _)))))
    · by_cases h3 : e = 3
      · subst h3
        rw [TwoS.comes_again hr' ht]
        have e2 : (net ++ [(⟨Q, a7, c7⟩ : PktE)]).map (·.p) = net.map (·.p) ++ [Q] := by simp
        refine J.imp (Has.dup (c := pkO ⟨Q, a7, c7⟩) (SlT_pers _ _ _ _ _) (by (repeat (first | exact Has.here | assumption | apply Has.there)))) ?_
        refine J.imp (PksA.fold (xs := net) (y := ⟨Q, a7, c7⟩) (by (repeat (first | exact Has.here | assumption | apply Has.there))) (by (repeat (first | exact Has.here | assumption | apply Has.there))) (Imp.refl _)) ?_
        cases B with
        | true =>
          rw [Bool.true_or]
          focus
           refine zs <| zc rfl <| zd <| zb <| zs <| zy (.ceqF rfl rfl (by decide)) <| zd <| zu rfl <| zs <| zy (.ceqT rfl rfl (by decide)) <| zd <| zt rfl ?_
           refine zo <| zfl rfl rfl rfl <| zv rfl rfl <| zv rfl rfl <| zv rfl rfl <| zy (.pickT rfl rfl) <| zf 6 rfl rfl <| yS rfl rfl rfl rfl rfl (Nat.le_of_ble_eq_true rfl) rfl <| zfl rfl rfl rfl <| zw rfl rfl <| JT.bsl1 (by repeat (first | exact Cells.nil | apply Cells.z | (apply Cells.cl; rfl; rfl; rfl))) (by simp only [List.length_cons, List.length_nil, Nat.reduceAdd]; rfl) (by decide) (by rfl) fun a141 => ?_
           (refine JT.A1 rfl rfl (by rfl) rfl (by decide) (by omega) (fun a142 c142 hc142 => ?_))
           refine zf 2 rfl rfl <| yS rfl rfl rfl rfl rfl (Nat.le_of_ble_eq_true rfl) rfl <| zd <| blockQ_n ?_
          exact retQD .nil rfl (Up.of (TwoP.fold (p := p) (q := q) (an := a142) (cn := c142) (net := (net ++ [(⟨Q, a7, c7⟩ : PktE)])) (ag := ag) (cg := cg) (gave := gave) (at' := at') (ct := ct) (told := told) (ah := ah) (ch := ch) (by (repeat (first | exact Has.here | assumption | apply Has.there))) (by (repeat (first | exact Has.here | assumption | apply Has.there))) (by (repeat (first | exact Has.here | assumption | apply Has.there))) (by (repeat (first | exact Has.here | assumption | apply Has.there))) (by (repeat (first | exact Has.here | assumption | apply Has.there))) (by (repeat (first | exact Has.here | assumption | apply Has.there))) (by (repeat (first | exact Has.here | assumption | apply Has.there))) (by (repeat (first | exact Has.here | assumption | apply Has.there))) (by (repeat (first | exact Has.here | assumption | apply Has.there))) (by (repeat (first | exact Has.here | assumption | apply Has.there))) e2 rfl rfl (by (repeat (first | exact Imp.refl _ | (apply Imp.take; (· (repeat (first | exact Has.here | assumption | apply Has.there)))) | fail | apply Imp.dropT | exact Imp.nil _)))))
        | false =>
          rw [Bool.false_or]
          focus
           refine zs <| zc rfl <| zd <| zb <| zs <| zy (.ceqF rfl rfl (by decide)) <| zd <| zu rfl <| zs <| zy (.ceqT rfl rfl (by decide)) <| zd <| zt rfl ?_
           refine zo <| zfl rfl rfl rfl <| yG rfl <| zw rfl rfl <| yG rfl <| yD rfl rfl (.of (.t6 (.tk (.there (.there (.there (.there (.there (.there (.there (.there (.there .here))))))))) (.tk (.there (.there (.there (.there (.there (.there (.there (.there (.there (.there (.there .here))))))))))) (.t1 .rf))))) (l06gave_fn ⟨_, _, _⟩ _) <| yG rfl <| zc rfl <| zy (.pickF rfl rfl) <| zf 6 rfl rfl <| yS (us := [_]) rfl rfl rfl rfl rfl (Nat.le_of_ble_eq_true rfl) (by simp only [lput]; rfl) <| zfl rfl rfl rfl ?_
           refine zw rfl rfl <| JT.bsl1 (by repeat (first | exact Cells.nil | apply Cells.z | (apply Cells.cl; rfl; rfl; rfl))) (by simp only [List.length_cons, List.length_nil, Nat.reduceAdd]; rfl) (by decide) (by rfl) fun a141 => ?_
           (refine JT.A1 rfl rfl (by rfl) rfl (by decide) (by omega) (fun a142 c142 hc142 => ?_))
           refine zf 2 rfl rfl <| yS rfl rfl rfl rfl rfl (Nat.le_of_ble_eq_true rfl) rfl <| zd <| blockQ_n ?_
          exact retQD .nil rfl (Up.of (TwoP.fold (p := p) (q := q) (an := a142) (cn := c142) (net := (net ++ [(⟨Q, a7, c7⟩ : PktE)])) (ag := ag) (cg := cg) (gave := gave) (at' := at') (ct := ct) (told := told) (ah := ah) (ch := ch) (by (repeat (first | exact Has.here | assumption | apply Has.there))) (by (repeat (first | exact Has.here | assumption | apply Has.there))) (by (repeat (first | exact Has.here | assumption | apply Has.there))) (by (repeat (first | exact Has.here | assumption | apply Has.there))) (by (repeat (first | exact Has.here | assumption | apply Has.there))) (by (repeat (first | exact Has.here | assumption | apply Has.there))) (by (repeat (first | exact Has.here | assumption | apply Has.there))) (by (repeat (first | exact Has.here | assumption | apply Has.there))) (by (repeat (first | exact Has.here | assumption | apply Has.there))) (by (repeat (first | exact Has.here | assumption | apply Has.there))) e2 rfl rfl (by (repeat (first | exact Imp.refl _ | (apply Imp.take; (· (repeat (first | exact Has.here | assumption | apply Has.there)))) | fail | apply Imp.dropT | exact Imp.nil _)))))
      · rw [TwoS.comes_else hr' ht h1 h3]
        focus
         refine zs <| zc rfl <| zd <| zb <| zs <| zy (.ceqF rfl rfl (by omega)) <| zd <| zu rfl <| zs <| zy (.ceqF rfl rfl (by omega)) <| zd <| zu rfl ?_
         refine zr <| yR .nil rfl (.of (TwoP.fold (.there (.there (.there (.there (.there .here))))) (.there (.there (.there (.there (.there .here))))) (.there (.there (.there (.there (.there .here))))) (.there (.there (.there (.there (.there .here))))) (.there (.there (.there (.there (.there .here))))) (.there (.there (.there (.there (.there .here))))) (.there (.there (.there (.there (.there .here))))) (.there (.there (.there (.there (.there .here))))) (.there (.there (.there (.there (.there .here))))) (.there (.there (.there (.there (.there .here))))) (by first | assumption | omega | rfl | decide) (by first | assumption | omega | rfl | decide) (by first | assumption | omega | rfl | decide) (.t2 (.d (.d (.d (.d .rf)))))))
end Go.Proofs.Ytienlpaehgdpaaa
