/- Layer 6: the two, counted: what is on its way, and that it all comes (plain Lean). Conditions: none. -/
import Derived.Test.YtienlpaehgdpaaaTe
import Derived.Test.YtienlpaehgdpaaaTs
set_option linter.unusedSimpArgs false
set_option linter.unusedVariables false
namespace Go.SL
open Go
def cntR (l : List Pkt) (id : Int) : Nat := l.countP fun p => !p.reply && decide (p.id = id)
def TwoS.ansd (S : TwoS) (id : Int) : Bool := S.A.L.any fun k => decide (k.1.id = id) && k.2.isSome
def TwoS.wt (S : TwoS) (p : Pkt) : Nat := if p.reply = true then 1 else if S.ansd p.id = true then 2 else 1
def TwoS.wsum (S : TwoS) (l : List Pkt) : Nat := (l.map S.wt).sum
def TwoS.m (S : TwoS) : Nat := S.A.L.countP fun k => k.2.isSome
theorem cntR_app (l l' : List Pkt) (id : Int) : cntR (l ++ l') id = cntR l id + cntR l' id := List.countP_append
theorem wsum_app (S : TwoS) (l l' : List Pkt) : S.wsum (l ++ l') = S.wsum l + S.wsum l' := by simp [TwoS.wsum]
theorem wsum_one (S : TwoS) (p : Pkt) : S.wsum [p] = S.wt p := by simp [TwoS.wsum]
theorem wsum_erase (S : TwoS) {l : List Pkt} {i : Nat} (h : i < l.length) : S.wsum (l.eraseIdx i) + S.wt (nth l i) = S.wsum l := by
  obtain ⟨A, B, e, _, he⟩ := eraseIdx_split (List.getElem?_eq_getElem h)
  rw [he, nth_eq h]
  conv => rhs; rw [e]
  simp [TwoS.wsum]; omega
theorem cntR_erase {l : List Pkt} (i : Nat) (id : Int) : cntR (l.eraseIdx i) id ≤ cntR l id := (List.eraseIdx_sublist l i).countP_le
theorem wt_pos (S : TwoS) (p : Pkt) : 1 ≤ S.wt p := by unfold TwoS.wt; split <;> (try split) <;> omega
theorem wsum_len (S : TwoS) : ∀ l : List Pkt, l.length ≤ S.wsum l
  | [] => by simp [TwoS.wsum]
  | p :: l => by
    have := wsum_len S l
    have := wt_pos S p
    simp only [TwoS.wsum, List.map_cons, List.sum_cons, List.length_cons] at *; omega
structure TwoS.Cnt (S : TwoS) (t s : Nat) : Prop where
  c1 : ∀ id, cntR S.net id ≤ 1 + t
  c2 : S.wsum S.net ≤ (S.C.last.toNat + S.m) * (1 + t) + S.m + s
theorem nodup_le {α : Type} [DecidableEq α] : ∀ {l m : List α}, l.Nodup → (∀ x ∈ l, x ∈ m) → l.length ≤ m.length
  | [], m, _, _ => by simp
  | x :: l, m, h, hm => by
    rw [List.nodup_cons] at h
    have h1 := nodup_le (l := l) (m := m.erase x) h.2 fun y hy => by
      exact (List.mem_erase_of_ne (fun e => h.1 (by rw [← e]; exact hy))).2 (hm y (by simp [hy]))
    rw [List.length_erase_of_mem (hm x (by simp))] at h1
    have : 0 < m.length := List.length_pos_of_mem (hm x (by simp))
    simp only [List.length_cons]; omega
theorem ids_le {l : List Int} {n : Int} (h : l.Nodup) (hr : ∀ x ∈ l, 1 ≤ x ∧ x ≤ n) : l.length ≤ n.toNat := by
  have := nodup_le (m := (List.range n.toNat).map fun (i : Nat) => (i : Int) + 1) h fun x hx => by
    have := hr x hx
    rw [List.mem_map]
    exact ⟨(x - 1).toNat, by rw [List.mem_range]; omega, by omega⟩
  simpa using this
theorem Clr.Ok.nodup {C : Clr} (h : C.Ok) : (C.L.map (fun x => x.p.id)).Nodup := by
  rw [List.Nodup, List.pairwise_map]
  exact h.srt.imp fun h => by omega
theorem Clr.Ok.lenle {C : Clr} (h : C.Ok) : C.L.length ≤ C.last.toNat := by
  have := ids_le h.nodup fun x hx => by
    obtain ⟨y, hy, rfl⟩ := List.mem_map.1 hx; exact h.rng y hy
  simpa using this
theorem TwoS.Inv.alen {S : TwoS} (h : S.Inv) : S.A.L.length ≤ S.C.last.toNat := by
  have := ids_le h.ndA fun x hx => by
    obtain ⟨y, hy, rfl⟩ := List.mem_map.1 hx; exact (h.rqA y hy).2
  simpa using this
theorem TwoS.Inv.ansd {S : TwoS} (h : S.Inv) {id : Int} (hid : S.C.last < id) : S.ansd id = false := by
  unfold TwoS.ansd
  rw [List.any_eq_false]
  intro k hk
  have := (h.rqA k hk).2
  simp only [Bool.and_eq_true, decide_eq_true_eq, not_and]
  intro e; omega
theorem TwoS.Inv.cnt0 {S : TwoS} (h : S.Inv) {id : Int} (hid : S.C.last < id) : cntR S.net id = 0 := by
  unfold cntR
  rw [List.countP_eq_zero]
  intro p hp
  rcases h.net p hp with h1 | h1
  · have := h1.2; simp only [Bool.and_eq_true, decide_eq_true_eq, not_and]; intro _ e; omega
  · have := (h.gave_rep h1).1.1; simp [this]
theorem wt_congr {S S' : TwoS} (h : S'.A = S.A) : S'.wt = S.wt := by
  funext p; unfold TwoS.wt TwoS.ansd; rw [h]
theorem m_congr {S S' : TwoS} (h : S'.A = S.A) : S'.m = S.m := by unfold TwoS.m; rw [h]
theorem wsum_congr {S S' : TwoS} (h : S'.A = S.A) (l : List Pkt) : S'.wsum l = S.wsum l := by unfold TwoS.wsum; rw [wt_congr h]
theorem TwoS.Cnt.lose {S : TwoS} {t s : Nat} (h : S.Cnt t s) (i : Nat) : (S.lose i).Cnt t s := by
  refine ⟨fun id => Nat.le_trans (cntR_erase i id) (h.c1 id), ?_⟩
  have e : (S.lose i).wsum (S.lose i).net ≤ S.wsum S.net := by
    rw [wsum_congr (S := S) (S' := S.lose i) rfl]
    by_cases hi : i < S.net.length
    · have := wsum_erase S hi
      show S.wsum (S.net.eraseIdx i) ≤ _
      omega
    · show S.wsum (S.net.eraseIdx i) ≤ _
      rw [List.eraseIdx_of_length_le (by omega)]; exact Nat.le_refl _
  exact Nat.le_trans e h.c2
theorem TwoS.Cnt.ask {S : TwoS} {t s : Nat} (h : S.Cnt t s) (hI : S.Inv) (a : Ask) : (S.ask a).Cnt t s ∧ (S.ask a).C.last.toNat ≤ S.C.last.toNat + 1 ∧ (S.ask a).m = S.m := by
  unfold TwoS.ask
  rcases Clr.ask_cases S.C peerA a with ⟨e1, e2, e3⟩ | ⟨e, h1, h2, h3⟩
  · rw [if_neg e3, e1]; exact ⟨h, by simp only; omega, rfl⟩
  · rw [e]
    have hl := hI.okC.lst
    simp only [if_true]
    refine ⟨⟨fun id => ?_, ?_⟩, by first | omega | (simp only; omega), rfl⟩
    · simp only; rw [cntR_app]
      by_cases hid : id = S.C.last + 1
      · subst hid
        rw [hI.cnt0 (by omega)]
        have : cntR [mkReq S.C peerA a] (S.C.last + 1) ≤ 1 := by unfold cntR; exact Nat.le_trans List.countP_le_length (by simp)
        omega
      · have : cntR [mkReq S.C peerA a] id = 0 := by
          unfold cntR; rw [List.countP_eq_zero]; intro p hp
          simp only [List.mem_singleton] at hp; subst hp
          simp only [mkReq, Bool.not_false, Bool.true_and, decide_eq_true_eq]; omega
        have := h.c1 id; omega
    · have e1 := wsum_congr (S := S) (S' := { S with C := { S.C with last := S.C.last + 1, L := S.C.L ++ [⟨mkReq S.C peerA a, 0⟩] }, net := S.net ++ [mkReq S.C peerA a] }) rfl (S.net ++ [mkReq S.C peerA a])
      have e2 := m_congr (S := S) (S' := { S with C := { S.C with last := S.C.last + 1, L := S.C.L ++ [⟨mkReq S.C peerA a, 0⟩] }, net := S.net ++ [mkReq S.C peerA a] }) rfl
      rw [e1, e2, wsum_app, wsum_one]
      have hw : S.wt (mkReq S.C peerA a) = 1 := by
        unfold TwoS.wt; rw [if_neg (by simp [mkReq]), if_neg]
        simp only [mkReq]; rw [hI.ansd (by omega)]; simp
      have e3 : (S.C.last + 1).toNat = S.C.last.toNat + 1 := by omega
      simp only [e3]
      have := h.c2
      have e4 : (S.C.last.toNat + 1 + S.m) * (1 + t) = (S.C.last.toNat + S.m) * (1 + t) + (1 + t) := by rw [Nat.add_right_comm, Nat.add_mul, Nat.one_mul]
      omega
theorem TwoS.comes_eq (S : TwoS) (p : Pkt) (hI : S.Inv) (hp : (p.req ∧ 1 ≤ p.id ∧ p.id ≤ S.C.last) ∨ p ∈ S.gave) :
    (S.comes p).C.last = S.C.last ∧ (S.comes p).m = S.m ∧ (∀ q, (S.comes p).wt q = S.wt q) ∧ (∀ id, cntR (S.comes p).net id = cntR S.net id) ∧ (S.comes p).wsum (S.comes p).net + 1 ≤ S.wsum S.net + S.wt p := by
  have hw1 := wt_pos S p
  have hl := hI.okC.lst
  rcases hp with ⟨hq, hp1, hp2⟩ | hg
  · have hpk := hq.ok hp1 (by omega)
    unfold TwoS.comes
    rw [if_neg (by rw [hq.1]; decide)]
    have hc : p.ok ∧ p.reply = false ∧ p.dst = S.A.me := ⟨hpk, hq.1, by rw [hI.meA]; exact hq.2.2.1⟩
    cases hi : S.A.ix p.src p.id with
    | some i =>
      obtain ⟨hlt, _, hid⟩ := Anr.ix_some hi
      cases hr : (nth S.A.L i).2 with
      | some r =>
        have ht : S.A.take p = (S.A, r, 3) := by unfold Anr.take; rw [if_pos hc, hi]; simp only; rw [hr]
        have hrr := (hI.rpA _ (nth_mem hlt) r hr).2.1
        have hansd : S.ansd p.id = true := by
          unfold TwoS.ansd; rw [List.any_eq_true]
          exact ⟨_, nth_mem hlt, by rw [hid, hr]; simp⟩
        have hw2 : S.wt p = 2 := by unfold TwoS.wt; rw [if_neg (by rw [hq.1]; decide), if_pos hansd]
        have hw3 : S.wt r = 1 := by unfold TwoS.wt; rw [if_pos hrr.1]
        have hc0 : ∀ id, cntR [r] id = 0 := fun id => by unfold cntR; rw [List.countP_eq_zero]; intro q hq; simp only [List.mem_singleton] at hq; subst hq; simp [hrr.1]
        rw [ht]
        simp only [show ((3 : Int) = 1) = False from by decide, if_false, if_true]
        refine ⟨by first | trivial | rfl | exact fun _ => rfl | exact fun _ => trivial, by first | trivial | rfl | exact fun _ => rfl | exact fun _ => trivial, by first | trivial | rfl | exact fun _ => rfl | exact fun _ => trivial, fun id => by rw [cntR_app, hc0, Nat.add_zero], ?_⟩
        rw [wsum_congr (S := S) (S' := { S with A := S.A, bad := _, net := S.net ++ [r] }) rfl, wsum_app, wsum_one]; omega
      | none =>
        have ht : S.A.take p = (S.A, zPkt, 2) := by unfold Anr.take; rw [if_pos hc, hi]; simp only; rw [hr]
        rw [ht]
        exact ⟨rfl, rfl, fun q => rfl, fun id => rfl, by show S.wsum S.net + 1 ≤ _; omega⟩
    | none =>
      by_cases hlen : 65536 ≤ S.A.L.length
      · have ht : S.A.take p = (S.A, zPkt, 0) := by unfold Anr.take; rw [if_pos hc, hi]; simp only; rw [if_pos hlen]
        rw [ht]
        exact ⟨rfl, rfl, fun q => rfl, fun id => rfl, by show S.wsum S.net + 1 ≤ _; omega⟩
      · have ht : S.A.take p = ({ S.A with L := S.A.L ++ [(p, none)] }, zPkt, 1) := by unfold Anr.take; rw [if_pos hc, hi]; simp only; rw [if_neg hlen]
        rw [ht]
        simp only [if_true]
        have hwt : ∀ q, TwoS.wt { S with A := { S.A with L := S.A.L ++ [(p, none)] }, bad := S.bad || decide (p.id ∈ S.heard), heard := S.heard ++ [p.id] } q = S.wt q := fun q => by
          unfold TwoS.wt TwoS.ansd; simp only [List.any_append, List.any_cons, List.any_nil, Option.isSome_none, Bool.and_false, Bool.or_false]
        refine ⟨by first | trivial | rfl | exact fun _ => rfl | exact fun _ => trivial, by unfold TwoS.m; simp, hwt, by first | trivial | rfl | exact fun _ => rfl | exact fun _ => trivial, ?_⟩
        have : TwoS.wsum { S with A := { S.A with L := S.A.L ++ [(p, none)] }, bad := S.bad || decide (p.id ∈ S.heard), heard := S.heard ++ [p.id] } S.net = S.wsum S.net := by
          unfold TwoS.wsum; rw [funext hwt]
        simp only [this]; omega
  · obtain ⟨hr, _, _⟩ := hI.gave_rep hg
    unfold TwoS.comes
    rw [if_pos hr.1]
    have hlast : (S.C.take p).1.last = S.C.last := by rcases Clr.take_cases S.C p with e | ⟨i, _, e, _⟩ <;> rw [e]
    split
    · exact ⟨hlast, rfl, fun q => rfl, fun id => rfl, by show S.wsum S.net + 1 ≤ _; omega⟩
    · exact ⟨hlast, rfl, fun q => rfl, fun id => rfl, by show S.wsum S.net + 1 ≤ _; omega⟩
/-! ### Ticks -/
theorem wt_eq (S : TwoS) {p : Pkt} (h : p.reply = false) : S.wt p = 1 + (if S.ansd p.id = true then 1 else 0) := by
  unfold TwoS.wt; rw [if_neg (by rw [h]; decide)]; split <;> rfl
theorem wsum_req (S : TwoS) : ∀ {l : List Pkt}, (∀ p ∈ l, p.reply = false) → S.wsum l = l.length + (l.filter fun p => S.ansd p.id).length
  | [], _ => by simp [TwoS.wsum]
  | p :: l, h => by
    have ih := wsum_req S (l := l) fun q hq => h q (by simp [hq])
    have hp := wt_eq S (h p (by simp))
    have : S.wsum (p :: l) = S.wt p + S.wsum l := by simp [TwoS.wsum]
    rw [this, ih, hp, List.filter_cons]
    split <;> simp only [List.length_cons] <;> omega
theorem wsum_le (S : TwoS) {l : List Pkt} (hr : ∀ p ∈ l, p.reply = false) (hn : (l.map (fun p => p.id)).Nodup) : S.wsum l ≤ l.length + S.m := by
  rw [wsum_req S hr]
  have h1 : ((l.filter fun p => S.ansd p.id).map (fun p => p.id)).Nodup := hn.sublist ((List.filter_sublist (p := fun p => S.ansd p.id) (l := l)).map _)
  have h2 := nodup_le (m := (S.A.L.filter fun k => k.2.isSome).map (fun k => k.1.id)) h1 fun x hx => by
    obtain ⟨p, hp, rfl⟩ := List.mem_map.1 hx
    have hp2 := (List.mem_filter.1 hp).2
    unfold TwoS.ansd at hp2
    rw [List.any_eq_true] at hp2
    obtain ⟨k, hk, e⟩ := hp2
    simp only [Bool.and_eq_true, decide_eq_true_eq] at e
    exact List.mem_map.2 ⟨k, List.mem_filter.2 ⟨hk, e.2⟩, e.1⟩
  have h3 : S.m = (S.A.L.filter fun k => k.2.isSome).length := by unfold TwoS.m; rw [List.countP_eq_length_filter]
  simp only [List.length_map] at h2
  omega
theorem tick_ids (C : Clr) : (C.tick.2.map (fun p => p.id)).Sublist (C.L.map (fun x => x.p.id)) := by
  simp only [Clr.tick, List.map_map]
  exact (List.filter_sublist (p := C.due) (l := C.L)).map _
theorem tick_req {S : TwoS} (hI : S.Inv) : ∀ p ∈ S.C.tick.2, p.reply = false := by
  intro p hp
  simp only [Clr.tick, List.mem_map, List.mem_filter] at hp
  obtain ⟨x, ⟨hx, _⟩, rfl⟩ := hp
  exact (hI.rqC x hx).1
theorem cntR_le (l : List Pkt) (id : Int) : cntR l id ≤ (l.map (fun p => p.id)).count id := by
  unfold cntR
  rw [List.count, List.countP_map]
  apply List.countP_mono_left
  intro p _ h
  simp only [Bool.and_eq_true, decide_eq_true_eq] at h
  simp [h.2]
theorem TwoS.Cnt.tick {S : TwoS} {t s : Nat} (h : S.Cnt t s) (hI : S.Inv) : S.tick.Cnt (t + 1) s := by
  have hnd : (S.C.tick.2.map (fun p => p.id)).Nodup := hI.okC.nodup.sublist (tick_ids S.C)
  refine ⟨fun id => ?_, ?_⟩
  · show cntR (S.net ++ S.C.tick.2) id ≤ _
    rw [cntR_app]
    have h1 := h.c1 id
    have h2 := cntR_le S.C.tick.2 id
    have h3 := List.nodup_iff_count.1 hnd id
    omega
  · have e1 := wsum_congr (S := S) (S' := S.tick) rfl (S.net ++ S.C.tick.2)
    have e2 := m_congr (S := S) (S' := S.tick) rfl
    show S.tick.wsum (S.net ++ S.C.tick.2) ≤ (S.C.last.toNat + S.tick.m) * (1 + (t + 1)) + S.tick.m + s
    rw [e1, e2, wsum_app]
    have h1 := h.c2
    have h2 := wsum_le S (tick_req hI) hnd
    have h3 : S.C.tick.2.length ≤ S.C.last.toNat := by
      have := hI.okC.lenle
      simp only [Clr.tick, List.length_map]; exact Nat.le_trans (List.length_filter_le _ _) this
    have e4 : (S.C.last.toNat + S.m) * (1 + (t + 1)) = (S.C.last.toNat + S.m) * (1 + t) + (S.C.last.toNat + S.m) := by rw [← Nat.add_assoc, Nat.mul_add_one]
    omega
theorem wsum_le_add {S S' : TwoS} {id : Int} (h : ∀ q, S'.wt q ≤ S.wt q + (if (!q.reply && decide (q.id = id)) = true then 1 else 0)) : ∀ l : List Pkt, S'.wsum l ≤ S.wsum l + cntR l id
  | [] => by simp [TwoS.wsum]
  | p :: l => by
    have ih := wsum_le_add h l
    have hp := h p
    have e1 : S'.wsum (p :: l) = S'.wt p + S'.wsum l := by simp [TwoS.wsum]
    have e2 : S.wsum (p :: l) = S.wt p + S.wsum l := by simp [TwoS.wsum]
    have e3 : cntR (p :: l) id = cntR l id + (if (!p.reply && decide (p.id = id)) = true then 1 else 0) := by unfold cntR; rw [List.countP_cons]
    rw [e1, e2, e3]; omega
theorem TwoS.Cnt.answer {S : TwoS} {t s : Nat} (h : S.Cnt t s) (hI : S.Inv) (p : Pkt) (x : Ans) : (S.answer p x).Cnt t s ∧ (S.answer p x).C.last = S.C.last ∧ (S.answer p x).m ≤ S.m + 1 := by
  unfold TwoS.answer
  rcases Anr.reply_cases S.A p.src p.id x with ⟨e1, e2, e3⟩ | ⟨i, hi, hn, hx, e⟩
  · rw [if_neg e3, e1]; exact ⟨h, rfl, by show S.m ≤ _; omega⟩
  · obtain ⟨hlt, _, _⟩ := Anr.ix_some hi
    rw [e]
    simp only [if_true]
    generalize hR : mkRep (nth S.A.L i).1 x = R
    have hRr : R.reply = true := by rw [← hR]
    generalize hS' : ({ S with A := { S.A with L := S.A.L.set i ((nth S.A.L i).1, some R) }, gave := S.gave ++ [R], net := S.net ++ [R] } : TwoS) = S'
    have hA' : S'.A.L = S.A.L.set i ((nth S.A.L i).1, some R) := by rw [← hS']
    have hm : S'.m = S.m + 1 := by
      unfold TwoS.m
      rw [hA', List.countP_set hlt]
      rw [← nth_eq hlt, hn]; simp
    have hw : ∀ q, S'.wt q ≤ S.wt q + (if (!q.reply && decide (q.id = (nth S.A.L i).1.id)) = true then 1 else 0) := by
      intro q
      cases hq : q.reply with
      | true => unfold TwoS.wt; rw [if_pos hq, if_pos hq]; omega
      | false =>
        rw [wt_eq S' hq, wt_eq S hq]
        by_cases ha : S'.ansd q.id = true
        · rw [if_pos ha]
          unfold TwoS.ansd at ha
          rw [hA', List.any_eq_true] at ha
          obtain ⟨k, hk, e⟩ := ha
          simp only [Bool.and_eq_true, decide_eq_true_eq] at e
          rcases mem_set hk with rfl | hk
          · simp only at e; rw [if_pos (c := (!false && decide (q.id = (nth S.A.L i).1.id)) = true) (by simp [e.1])]; omega
          · have : S.ansd q.id = true := by unfold TwoS.ansd; rw [List.any_eq_true]; exact ⟨k, hk, by simp [e.1, e.2]⟩
            rw [if_pos this]; omega
        · rw [if_neg ha]; omega
    refine ⟨⟨fun id => ?_, ?_⟩, by first | trivial | rw [← hS'], by omega⟩
    · have : S'.net = S.net ++ [R] := by rw [← hS']
      rw [this, cntR_app]
      have h0 : cntR [R] id = 0 := by unfold cntR; rw [List.countP_eq_zero]; intro q hq; simp only [List.mem_singleton] at hq; subst hq; simp [hRr]
      have := h.c1 id; omega
    · have h1 : S'.net = S.net ++ [R] := by rw [← hS']
      have h2 : S'.C.last = S.C.last := by rw [← hS']
      rw [h1, wsum_app, wsum_one, h2, hm]
      have h3 := wsum_le_add hw S.net
      have h4 := h.c1 (nth S.A.L i).1.id
      have h5 := h.c2
      have h6 : S'.wt R = 1 := by unfold TwoS.wt; rw [if_pos hRr]
      have e4 : (S.C.last.toNat + (S.m + 1)) * (1 + t) = (S.C.last.toNat + S.m) * (1 + t) + (1 + t) := by rw [← Nat.add_assoc, Nat.add_mul, Nat.one_mul]
      omega
theorem TwoS.Cnt.step {S : TwoS} {t s k : Nat} (h : S.Cnt t s) (hI : S.Inv) (hb : S.C.last.toNat + S.m + t + s ≤ k) (e : EvS) : ∃ t' s', (S.step e).Cnt t' s' ∧ (S.step e).C.last.toNat + (S.step e).m + t' + s' ≤ k + 1 := by
  unfold TwoS.step
  split
  · obtain ⟨h1, h2, h3⟩ := h.ask hI e.ask
    exact ⟨t, s, h1, by omega⟩
  · split
    · split
      · exact ⟨t, s, h, by omega⟩
      · rename_i hi
        have hlt : e.i.toNat < S.net.length := by omega
        have hp := hI.net _ (nth_mem hlt)
        split
        · obtain ⟨q1, q2, q3, q4, q5⟩ := TwoS.comes_eq (S.lose e.i.toNat) (nth S.net e.i.toNat) (hI.lose _) hp
          have hl := h.lose e.i.toNat
          have hw : (S.lose e.i.toNat).wsum (S.lose e.i.toNat).net + (S.lose e.i.toNat).wt (nth S.net e.i.toNat) = S.wsum S.net := by
            rw [wsum_congr (S := S) (S' := S.lose e.i.toNat) rfl, wt_congr (S := S) (S' := S.lose e.i.toNat) rfl]
            exact wsum_erase S hlt
          have hm : (S.lose e.i.toNat).m = S.m := rfl
          have hl2 : (S.lose e.i.toNat).C.last = S.C.last := rfl
          refine ⟨t, s, ⟨fun id => by rw [q4]; exact hl.c1 id, ?_⟩, by rw [q1, q2, hm, hl2]; omega⟩
          have := h.c2
          rw [q1, q2, hm, hl2]; omega
        · split
          · obtain ⟨q1, q2, q3, q4, q5⟩ := TwoS.comes_eq S (nth S.net e.i.toNat) hI hp
            refine ⟨t, s + 1, ⟨fun id => by rw [q4]; exact h.c1 id, ?_⟩, by rw [q1, q2]; omega⟩
            have := h.c2
            have h2 : S.wt (nth S.net e.i.toNat) ≤ 2 := by unfold TwoS.wt; split <;> (try split) <;> omega
            rw [q1, q2]; omega
          · exact ⟨t, s, h.lose _, by show S.C.last.toNat + S.m + t + s ≤ _; omega⟩
    · split
      · exact ⟨t + 1, s, h.tick hI, by show S.C.last.toNat + S.m + (t + 1) + s ≤ _; omega⟩
      · split
        · split
          · exact ⟨t, s, h, by omega⟩
          · obtain ⟨q1, q2, q3⟩ := h.answer hI (nth S.A.waits e.i.toNat) e.x
            exact ⟨t, s, q1, by rw [q2]; omega⟩
        · exact ⟨t, s, h, by omega⟩
theorem TwoS.Cnt.new (n : Int) : (TwoS.new n).Cnt 0 0 := ⟨fun id => by simp [TwoS.new, cntR], by simp [TwoS.new, TwoS.wsum]⟩
theorem mul_bound : ∀ t : Nat, t < 61 → (60 - t) * (3 + t) ≤ 992 := by decide
/-- After sixty events and one tick more: what is on its way comes in a thousand steps. -/
theorem TwoS.Cnt.thousand {S : TwoS} {t s : Nat} (h : S.Cnt (t + 1) s) (hb : S.C.last.toNat + S.m + t + s ≤ 60) : S.wsum S.net ≤ 1000 := by
  have h1 := h.c2
  have h2 := mul_bound t (by omega)
  have h3 : (S.C.last.toNat + S.m + s) * (3 + t) ≤ (60 - t) * (3 + t) := Nat.mul_le_mul_right _ (by omega)
  have h4 : (S.C.last.toNat + S.m + s) * (3 + t) = (S.C.last.toNat + S.m) * (1 + (t + 1)) + (S.C.last.toNat + S.m) + s * (3 + t) := by
    rw [Nat.add_mul]; congr 1
    rw [show 3 + t = (1 + (t + 1)) + 1 by omega, Nat.mul_add_one]
  have h5 : s * 1 ≤ s * (3 + t) := Nat.mul_le_mul_left _ (by omega)
  omega
end Go.SL

set_option linter.unusedSimpArgs false
set_option linter.unusedVariables false
namespace Go.SL
open Go
/-- A request is on its way, or heard; and if it was answered, the answer is on its way, or was told. -/
def TwoS.K (S : TwoS) (id : Int) : Prop := (∃ p ∈ S.net, p.reply = false ∧ p.id = id) ∨ (id ∈ S.heard ∧ (S.ansd id = true → (∃ p ∈ S.net, p.reply = true ∧ p.id = id) ∨ ∀ x ∈ S.C.L, x.p.id ≠ id))
abbrev ev0 : EvS := ⟨2, 0, zAsk, zAns⟩
theorem TwoS.next_eq {C : Clr} {A : Anr} {a : Pkt} {l G T : List Pkt} {H : List Int} {B : Bool} : TwoS.step ⟨C, A, a :: l, G, T, H, B⟩ ev0 = TwoS.comes ⟨C, A, l, G, T, H, B⟩ a := by
  have := TwoS.step_2 (C := C) (A := A) (N := a :: l) (G := G) (T := T) (H := H) (B := B) (a := zAsk) (x := zAns) (n := 0) (by simp)
  simpa [nth] using this
theorem TwoS.Inv.closed {S : TwoS} (hI : S.Inv) {p : Pkt} (hp : p.rep) (h1 : 1 ≤ p.id) (h2 : p.id ≤ S.C.last) : ∀ x ∈ (S.C.take p).1.L, x.p.id ≠ p.id := by
  have hl := hI.okC.lst
  have hc : p.ok ∧ p.reply = true ∧ p.dst = S.C.me := ⟨hp.ok h1 (by omega), hp.1, by rw [hI.meC]; exact hp.2.2.1⟩
  unfold Clr.take
  rw [if_pos hc]
  cases hi : S.C.ix p.id with
  | none => exact Clr.ix_none hi
  | some i =>
    obtain ⟨hlt, hid⟩ := Clr.ix_some hi
    have hd : (nth S.C.L i).p.dst = p.src := by rw [(hI.rqC _ (nth_mem hlt)).2.2.1, hp.2.1]
    simp only
    rw [if_pos hd]
    unfold Clr.fin
    rw [hi]
    intro x hx
    rw [← hid]
    exact Clr.erase_ne hI.okC hlt x hx
theorem take_sub (C : Clr) (p : Pkt) : ∀ x ∈ (C.take p).1.L, x ∈ C.L := by
  rcases Clr.take_cases C p with e | ⟨i, _, e, _⟩ <;> rw [e]
  · exact fun x h => h
  · exact fun x h => mem_of_erase h
theorem any_id {A : Anr} {id : Int} (hnd : (A.L.map (fun k => k.1.id)).Nodup) {i : Nat} (hlt : i < A.L.length) (hid : (nth A.L i).1.id = id) (hn : (nth A.L i).2 = none) : (A.L.any fun k => decide (k.1.id = id) && k.2.isSome) = false := by
  rw [List.any_eq_false]
  intro k hk
  obtain ⟨j, hj, rfl⟩ := List.mem_iff_getElem.1 hk
  simp only [Bool.and_eq_true, decide_eq_true_eq, not_and]
  intro e
  by_cases hji : j = i
  · subst hji; rw [nth_eq hlt] at hn; rw [hn]; simp
  · exfalso
    have := (List.nodup_iff_pairwise_ne.1 hnd)
    rw [List.pairwise_map] at this
    rw [nth_eq hlt] at hid
    rcases Nat.lt_or_gt_of_ne hji with h | h
    · exact List.pairwise_iff_getElem.1 this j i hj hlt h (by rw [e, hid])
    · exact List.pairwise_iff_getElem.1 this i j hlt hj h (by rw [e, hid])
theorem TwoS.K.next {C : Clr} {A : Anr} {a : Pkt} {l G T : List Pkt} {H : List Int} {B : Bool} (hI : (⟨C, A, a :: l, G, T, H, B⟩ : TwoS).Inv) (hA : A.L.length < 65536) {id : Int} (h : TwoS.K ⟨C, A, a :: l, G, T, H, B⟩ id) :
    (TwoS.comes ⟨C, A, l, G, T, H, B⟩ a).K id := by
  have hl := hI.okC.lst
  have hhr : H = A.L.map (fun k => k.1.id) := hI.hrd
  rcases hI.net a (by simp) with ⟨hq, hp1, hp2⟩ | hg
  · have hpk := hq.ok hp1 (by dsimp only at hl hp2 ⊢; omega)
    have hc : a.ok ∧ a.reply = false ∧ a.dst = A.me := ⟨hpk, hq.1, by have := hI.meA; dsimp only at this; rw [this]; exact hq.2.2.1⟩
    have hmv : ∀ q, q ∈ a :: l → q.reply = true → q ∈ l := fun q hq' hr => by
      rcases List.mem_cons.1 hq' with rfl | h'
      · rw [hq.1] at hr; cases hr
      · exact h'
    cases hi : A.ix a.src a.id with
    | some i =>
      obtain ⟨hlt, _, hid⟩ := Anr.ix_some hi
      have hhe : a.id ∈ H := by rw [hhr]; exact List.mem_map.2 ⟨_, nth_mem hlt, hid⟩
      cases hr : (nth A.L i).2 with
      | some r =>
        have ht : A.take a = (A, r, 3) := by unfold Anr.take; rw [if_pos hc, hi]; simp only; rw [hr]
        obtain ⟨_, hrr, hrid⟩ := hI.rpA _ (nth_mem hlt) r hr
        rw [TwoS.comes_again hq.1 ht]
        rcases h with ⟨q, hqm, hqr, hqi⟩ | ⟨h1, h2⟩
        · rcases List.mem_cons.1 hqm with rfl | h'
          · exact .inr ⟨by rw [← hqi]; exact hhe, fun _ => .inl ⟨r, by simp, hrr.1, by rw [hrid, hid, hqi]⟩⟩
          · exact .inl ⟨q, by simp [h'], hqr, hqi⟩
        · refine .inr ⟨h1, fun ha => ?_⟩
          rcases h2 ha with ⟨q, hqm, hqr, hqi⟩ | h3
          · exact .inl ⟨q, by simp [hmv q hqm hqr], hqr, hqi⟩
          · exact .inr h3
      | none =>
        have ht : A.take a = (A, zPkt, 2) := by unfold Anr.take; rw [if_pos hc, hi]; simp only; rw [hr]
        rw [TwoS.comes_else hq.1 ht (by decide) (by decide)]
        rcases h with ⟨q, hqm, hqr, hqi⟩ | ⟨h1, h2⟩
        · rcases List.mem_cons.1 hqm with rfl | h'
          · refine .inr ⟨by rw [← hqi]; exact hhe, fun ha => ?_⟩
            have := any_id (A := A) (id := id) hI.ndA hlt (by rw [hid, hqi]) hr
            unfold TwoS.ansd at ha
            dsimp only at ha
            rw [this] at ha; cases ha
          · exact .inl ⟨q, h', hqr, hqi⟩
        · refine .inr ⟨h1, fun ha => ?_⟩
          rcases h2 ha with ⟨q, hqm, hqr, hqi⟩ | h3
          · exact .inl ⟨q, hmv q hqm hqr, hqr, hqi⟩
          · exact .inr h3
    | none =>
      have ht : A.take a = ({ A with L := A.L ++ [(a, none)] }, zPkt, 1) := by unfold Anr.take; rw [if_pos hc, hi]; simp only; rw [if_neg (by omega)]
      rw [TwoS.comes_new hq.1 ht]
      have hans : ∀ id, TwoS.ansd ⟨C, { A with L := A.L ++ [(a, none)] }, l, G, T, H ++ [a.id], B || decide (a.id ∈ H)⟩ id = TwoS.ansd ⟨C, A, a :: l, G, T, H, B⟩ id := fun id => by
        unfold TwoS.ansd; simp only [List.any_append, List.any_cons, List.any_nil, Option.isSome_none, Bool.and_false, Bool.or_false]
      rcases h with ⟨q, hqm, hqr, hqi⟩ | ⟨h1, h2⟩
      · rcases List.mem_cons.1 hqm with rfl | h'
        · refine .inr ⟨by rw [← hqi]; simp, fun ha => ?_⟩
          rw [hans] at ha
          unfold TwoS.ansd at ha
          rw [List.any_eq_true] at ha
          obtain ⟨k, hk, e⟩ := ha
          simp only [Bool.and_eq_true, decide_eq_true_eq] at e
          exact absurd ⟨by rw [(hI.rqA k hk).1.2.1]; exact hq.2.1.symm, by rw [e.1, hqi]⟩ (Anr.ix_none hi k hk)
        · exact .inl ⟨q, h', hqr, hqi⟩
      · refine .inr ⟨by simp [h1], fun ha => ?_⟩
        rw [hans] at ha
        rcases h2 ha with ⟨q, hqm, hqr, hqi⟩ | h3
        · exact .inl ⟨q, hmv q hqm hqr, hqr, hqi⟩
        · exact .inr h3
  · obtain ⟨hr, hp1, hp2⟩ := hI.gave_rep hg
    have hcl := hI.closed hr hp1 hp2
    have hsub := take_sub C a
    dsimp only at hcl hsub
    obtain ⟨C2, Q, e, ht⟩ : ∃ C2 Q e, C.take a = (C2, Q, e) := ⟨_, _, _, rfl⟩
    rw [ht] at hcl hsub
    dsimp only at hcl hsub
    have key : ∀ (T2 : List Pkt) (B2 : Bool), TwoS.K ⟨C2, A, l, G, T2, H, B2⟩ id := fun T2 B2 => by
      rcases h with ⟨q, hqm, hqr, hqi⟩ | ⟨h1, h2⟩
      · rcases List.mem_cons.1 hqm with rfl | h'
        · rw [hr.1] at hqr; cases hqr
        · exact .inl ⟨q, h', hqr, hqi⟩
      · refine .inr ⟨h1, fun ha => ?_⟩
        rcases h2 ha with ⟨q, hqm, hqr, hqi⟩ | h3
        · rcases List.mem_cons.1 hqm with rfl | h'
          · exact .inr fun x hx => by rw [← hqi]; exact hcl x hx
          · exact .inl ⟨q, h', hqr, hqi⟩
        · exact .inr fun x hx => h3 x (hsub x hx)
    cases e with
    | true => rw [TwoS.comes_told hr.1 ht (Clr.take_id ht)]; exact key _ _
    | false => rw [TwoS.comes_not hr.1 ht]; exact key _ _
theorem TwoS.K.tick {S : TwoS} {id : Int} (h : S.K id) : S.tick.K id := by
  rcases h with ⟨q, hqm, hqr, hqi⟩ | ⟨h1, h2⟩
  · exact .inl ⟨q, by simp only [TwoS.tick, List.mem_append]; exact .inl hqm, hqr, hqi⟩
  · refine .inr ⟨h1, fun ha => ?_⟩
    rcases h2 ha with ⟨q, hqm, hqr, hqi⟩ | h3
    · exact .inl ⟨q, by simp only [TwoS.tick, List.mem_append]; exact .inl hqm, hqr, hqi⟩
    · refine .inr fun x hx => ?_
      simp only [TwoS.tick, Clr.tick, List.mem_map] at hx
      obtain ⟨y, hy, rfl⟩ := hx
      exact h3 y hy
/-- After some ticks of the last ones. -/
structure TwoS.Fin (S : TwoS) (n : Int) (j : Nat) : Prop where
  ag : S.C.again = n
  age : ∀ x ∈ S.C.L, (j : Int) ≤ x.age
  k : ∀ x ∈ S.C.L, S.K x.p.id ∨ ∀ i : Nat, i < j → ¬ (n ∣ x.age - (i : Int))
theorem TwoS.Fin.start {S : TwoS} {n : Int} (hI : S.Inv) (h : S.C.again = n) : S.Fin n 0 := ⟨h, fun x hx => by have := hI.okC.age x hx; simpa using this, fun x _ => .inr fun i hi => by omega⟩
theorem comes_C (S : TwoS) (p : Pkt) : (S.comes p).C.again = S.C.again ∧ (∀ x ∈ (S.comes p).C.L, x ∈ S.C.L) ∧ (S.comes p).gave = S.gave ∧ (S.comes p).told.length + (S.comes p).C.L.length ≤ S.told.length + S.C.L.length := by
  have hs := take_sub S.C p
  have ha : (S.C.take p).1.again = S.C.again := by rcases Clr.take_cases S.C p with e | ⟨i, _, e, _⟩ <;> rw [e]
  have hl : (S.C.take p).2.2 = true → (S.C.take p).1.L.length + 1 ≤ S.C.L.length := by
    rcases Clr.take_cases S.C p with e | ⟨i, hi, e, _⟩ <;> rw [e]
    · intro h; cases h
    · intro _
      have := (Clr.ix_some hi).1
      simp only [List.length_eraseIdx]; rw [if_pos this]; omega
  have hl2 : (S.C.take p).1.L.length ≤ S.C.L.length := by
    rcases Clr.take_cases S.C p with e | ⟨i, hi, e, _⟩ <;> rw [e]
    · exact Nat.le_refl _
    · exact List.length_eraseIdx_le _ _
  unfold TwoS.comes
  split
  · split
    · rename_i h
      have := hl h
      exact ⟨ha, hs, rfl, by simp only [List.length_append, List.length_cons, List.length_nil]; omega⟩
    · exact ⟨ha, hs, rfl, by simp only; omega⟩
  · split
    · exact ⟨rfl, fun x h => h, rfl, Nat.le_refl _⟩
    · split
      · exact ⟨rfl, fun x h => h, rfl, Nat.le_refl _⟩
      · exact ⟨rfl, fun x h => h, rfl, Nat.le_refl _⟩
theorem TwoS.Fin.next {S : TwoS} {n : Int} {j : Nat} (h : S.Fin n j) (hI : S.Inv) (hA : S.A.L.length < 65536) (hn : S.net ≠ []) : (S.step ev0).Fin n j := by
  obtain ⟨C, A, N, G, T, H, B⟩ := S
  cases N with
  | nil => exact absurd rfl hn
  | cons a l =>
    rw [TwoS.next_eq]
    obtain ⟨q1, q2, _, _⟩ := comes_C ⟨C, A, l, G, T, H, B⟩ a
    refine ⟨by rw [q1]; exact h.ag, fun x hx => h.age x (q2 x hx), fun x hx => ?_⟩
    rcases h.k x (q2 x hx) with h1 | h1
    · exact .inl (h1.next hI hA)
    · exact .inr h1
theorem TwoS.Fin.tick {S : TwoS} {n : Int} {j : Nat} (h : S.Fin n j) (hI : S.Inv) : S.tick.Fin n (j + 1) := by
  refine ⟨h.ag, fun x hx => ?_, fun x hx => ?_⟩
  · simp only [TwoS.tick, Clr.tick, List.mem_map] at hx
    obtain ⟨y, hy, rfl⟩ := hx
    have := h.age y hy
    simp only [CallE.up]; omega
  · simp only [TwoS.tick, Clr.tick, List.mem_map] at hx
    obtain ⟨y, hy, rfl⟩ := hx
    by_cases hd : n ∣ y.age + 1
    · left
      refine .inl ⟨y.p, ?_, (hI.rqC y hy).1, rfl⟩
      simp only [TwoS.tick, Clr.tick, List.mem_append, List.mem_map, List.mem_filter]
      refine .inr ⟨y, ⟨hy, ?_⟩, rfl⟩
      unfold Clr.due
      rw [h.ag]
      exact decide_eq_true (Int.dvd_iff_tmod_eq_zero.1 hd)
    · rcases h.k y hy with h1 | h1
      · exact .inl h1.tick
      · right
        intro i hi
        cases i with
        | zero => simpa [CallE.up] using hd
        | succ i =>
          have := h1 i (by omega)
          have e : (CallE.up y).age - ((i + 1 : Nat) : Int) = y.age - (i : Int) := by simp only [CallE.up]; omega
          rw [e]; exact this
theorem TwoS.Fin.all {S : TwoS} {n : Int} {j : Nat} (h : S.Fin n j) (hn : n = j) (h1 : 1 ≤ j) : ∀ x ∈ S.C.L, S.K x.p.id := by
  intro x hx
  rcases h.k x hx with h2 | h2
  · exact h2
  · exfalso
    have ha := h.age x hx
    have hp : 0 < n := by omega
    refine h2 (x.age % n).toNat ?_ ?_
    · have := Int.emod_lt_of_pos x.age hp; have := Int.emod_nonneg x.age (show n ≠ 0 by omega); omega
    · have := Int.emod_nonneg x.age (show n ≠ 0 by omega)
      rw [Int.toNat_of_nonneg this]
      exact Int.dvd_self_sub_emod
/-- What the law says at last. -/
theorem TwoS.Fin.done {S : TwoS} {n : Int} {j : Nat} (h : S.Fin n j) (hn : n = j) (h1 : 1 ≤ j) (hI : S.Inv) (hnet : S.net = []) : ∀ x ∈ S.C.L, x.p.id ∈ S.heard ∧ ∀ r ∈ S.gave, r.id ≠ x.p.id := by
  intro x hx
  rcases h.all hn h1 x hx with ⟨q, hq, _⟩ | ⟨h2, h3⟩
  · rw [hnet] at hq; cases hq
  · refine ⟨h2, fun r hr e => ?_⟩
    obtain ⟨k, hk, ek⟩ := hI.gvA r hr
    have hid := (hI.rpA k hk r ek).2.2
    have ha : S.ansd x.p.id = true := by
      unfold TwoS.ansd; rw [List.any_eq_true]
      exact ⟨k, hk, by simp [ek, ← hid, e]⟩
    rcases h3 ha with ⟨q, hq, _⟩ | h4
    · rw [hnet] at hq; cases hq
    · exact h4 x hx rfl
/-! ### Bounds in the last ticks -/
structure TwoS.Bl (S : TwoS) (w j : Nat) : Prop where
  w : S.wsum S.net ≤ w
  l : S.C.last ≤ 60
  g : S.gave.length ≤ 60
  t : S.told.length + S.C.L.length ≤ 400
  y : S.C.young (60 + j)
theorem TwoS.Bl.sm {S : TwoS} {w j : Nat} (h : S.Bl w j) (hI : S.Inv) (hw : w ≤ 1000) : S.Sm :=
  ⟨by have := wsum_len S S.net; have := h.w; omega, by have := h.g; omega, by have := h.t; omega, by rw [hI.hrd, List.length_map]; have := hI.alen; have := h.l; omega⟩
theorem TwoS.Bl.next {S : TwoS} {w j : Nat} (h : S.Bl (w + 1) j) (hI : S.Inv) (hn : S.net ≠ []) : (S.step ev0).Bl w j := by
  obtain ⟨C, A, N, G, T, H, B⟩ := S
  cases N with
  | nil => exact absurd rfl hn
  | cons a l =>
    rw [TwoS.next_eq]
    have hI' : (⟨C, A, l, G, T, H, B⟩ : TwoS).Inv := { hI with net := fun p hp => hI.net p (List.mem_cons_of_mem _ hp) }
    obtain ⟨q1, q2, q3, q4⟩ := comes_C ⟨C, A, l, G, T, H, B⟩ a
    obtain ⟨p1, p2, p3, p4, p5⟩ := TwoS.comes_eq ⟨C, A, l, G, T, H, B⟩ a hI' (hI.net a (by simp))
    have hw := h.w
    have e : TwoS.wsum ⟨C, A, a :: l, G, T, H, B⟩ (a :: l) = TwoS.wt ⟨C, A, l, G, T, H, B⟩ a + TwoS.wsum ⟨C, A, l, G, T, H, B⟩ l := by
      rw [wsum_congr (S := ⟨C, A, l, G, T, H, B⟩) (S' := ⟨C, A, a :: l, G, T, H, B⟩) rfl]; simp [TwoS.wsum]
    dsimp only at hw p5
    rw [e] at hw
    exact ⟨by omega, by rw [p1]; exact h.l, by rw [q3]; exact h.g, Nat.le_trans q4 h.t, fun x hx => h.y x (q2 x hx)⟩
theorem TwoS.Bl.idle {S : TwoS} {w j : Nat} (h : S.Bl w j) (hI : S.Inv) (hn : S.net = []) : S.tick.wsum S.tick.net ≤ 1000 := by
  have h2 := wsum_le S (tick_req hI) (hI.okC.nodup.sublist (tick_ids S.C))
  have h3 : S.C.tick.2.length ≤ S.C.last.toNat := by
    have := hI.okC.lenle
    simp only [Clr.tick, List.length_map]; exact Nat.le_trans (List.length_filter_le _ _) this
  have h4 : S.m ≤ S.A.L.length := List.countP_le_length
  have h5 := hI.alen
  have h6 := h.l
  show S.tick.wsum (S.net ++ S.C.tick.2) ≤ _
  rw [wsum_congr (S := S) (S' := S.tick) rfl, hn, List.nil_append]
  omega
theorem TwoS.Bl.tick {S : TwoS} {w j : Nat} (h : S.Bl w j) (hw : S.tick.wsum S.tick.net ≤ 1000) : S.tick.Bl 1000 (j + 1) :=
  ⟨hw, h.l, h.g, by have := h.t; simpa [TwoS.tick, Clr.tick] using this, by have := h.y.tick; exact this⟩
theorem empty_of {S : TwoS} {w j : Nat} (h : S.Bl w j) (hw : w = 0) : S.net = [] := by
  have := wsum_len S S.net
  have := h.w
  exact List.length_eq_zero_iff.1 (by omega)
end Go.SL

set_option linter.unusedSimpArgs false
set_option linter.unusedVariables false
set_option maxRecDepth 100000
set_option maxHeartbeats 4000000
namespace Go.SL
open Go
theorem TwoS.step_again (S : TwoS) (e : EvS) : (S.step e).C.again = S.C.again := by
  unfold TwoS.step
  split
  · unfold TwoS.ask
    have : (S.C.ask peerA e.ask).1.again = S.C.again := by
      rcases Clr.ask_cases S.C peerA e.ask with ⟨e1, _⟩ | ⟨e1, _⟩ <;> rw [e1]
    split <;> exact this
  · split
    · split
      · rfl
      · split
        · exact (comes_C _ _).1
        · split
          · exact (comes_C _ _).1
          · rfl
    · split
      · rfl
      · split
        · split
          · rfl
          · unfold TwoS.answer
            split <;> rfl
        · rfl
/-- After the events. -/
structure TwoS.Ev (S : TwoS) (n : Int) (k : Nat) : Prop where
  inv : S.Inv
  bnd : S.Bnd k
  ag : S.C.again = n
  c : ∃ t s, S.Cnt t s ∧ S.C.last.toNat + S.m + t + s ≤ k
theorem TwoS.Ev.new {n : Int} (h : 1 ≤ n) : (TwoS.new n).Ev n 0 := ⟨.new h, .new n, rfl, 0, 0, .new n, by simp [TwoS.new, Clr.new, TwoS.m]⟩
theorem TwoS.Ev.step {S : TwoS} {n : Int} {k : Nat} (h : S.Ev n k) (hk : k ≤ 60) (e : EvS) : (S.step e).Ev n (k + 1) := by
  obtain ⟨t, s, h1, h2⟩ := h.c
  have ha := h.bnd.a
  exact ⟨h.inv.step e (by omega), h.bnd.step h.inv e, by rw [TwoS.step_again]; exact h.ag, h1.step h.inv h2 e⟩
structure TwoS.Out (S : TwoS) (n : Int) (j : Nat) : Prop where
  inv : S.Inv
  fin : S.Fin n j
  w : S.tick.wsum S.tick.net ≤ 1000
  e : 1 ≤ j → S.net = []
  b : S.Bl (S.wsum S.net) j
structure TwoS.Inn (S : TwoS) (n : Int) (j k : Nat) : Prop where
  inv : S.Inv
  fin : S.Fin n (j + 1)
  b : S.Bl (1000 - k) (j + 1)
theorem TwoS.Ev.out {S : TwoS} {n : Int} {k : Nat} (h : S.Ev n k) (hk : k ≤ 60) : S.Out n 0 := by
  obtain ⟨t, s, h1, h2⟩ := h.c
  have hl := h.inv.okC.len
  have hl2 := h.inv.okC.lst
  refine ⟨h.inv, .start h.inv h.ag, ?_, fun h => by omega, ⟨Nat.le_refl _, by omega, by have := h.bnd.g; omega, by have := h.bnd.t; omega, fun x hx => by have := h.bnd.y x hx; omega⟩⟩
  exact (h1.tick h.inv).thousand (by show S.C.last.toNat + S.m + t + s ≤ 60; omega)
theorem TwoS.Out.tick {S : TwoS} {n : Int} {j : Nat} (h : S.Out n j) : S.tick.Inn n j 0 := ⟨h.inv.tick, h.fin.tick h.inv, h.b.tick h.w⟩
theorem TwoS.Inn.alen {S : TwoS} {n : Int} {j k : Nat} (h : S.Inn n j k) : S.A.L.length ≤ 60 := by have := h.inv.alen; have := h.b.l; omega
theorem TwoS.Inn.next {S : TwoS} {n : Int} {j k : Nat} (h : S.Inn n j k) (hk : k < 1000) (hn : S.net ≠ []) : (S.step ev0).Inn n j (k + 1) := by
  have ha := h.alen
  refine ⟨h.inv.step ev0 (by omega), h.fin.next h.inv (by omega) hn, ?_⟩
  have hb := h.b
  rw [show 1000 - k = (1000 - (k + 1)) + 1 by omega] at hb
  exact hb.next h.inv hn
theorem TwoS.Inn.out {S : TwoS} {n : Int} {j k : Nat} (h : S.Inn n j k) (hn : S.net = []) : S.Out n (j + 1) :=
  ⟨h.inv, h.fin, h.b.idle h.inv hn, fun _ => hn, ⟨Nat.le_refl _, h.b.l, h.b.g, h.b.t, h.b.y⟩⟩
theorem TwoS.Inn.empty {S : TwoS} {n : Int} {j k : Nat} (h : S.Inn n j k) (hk : 1000 ≤ k) : S.net = [] := empty_of h.b (by omega)
abbrev ev0E : EvE := ⟨2, 0, ⟨0, ⟨0, 0⟩, ⟨0, ⟨0, 0⟩, ⟨0, 0⟩⟩, ⟨0, ⟨0, 0⟩, ⟨0, 0⟩⟩, ⟨0, 0⟩⟩, ⟨⟨0, false, ⟨0, ⟨0, 0⟩, ⟨0, 0⟩⟩, ⟨0, ⟨0, 0⟩, ⟨0, 0⟩⟩, []⟩, none, 0⟩⟩
theorem ev0E_ev : ev0E.ev = ev0 := rfl
end Go.SL
namespace Go.Proofs.Ytienlpaehgdpaaa
open Go Go.SL
attribute [local irreducible] pc rc SlT Me Mt It pt ro pur ex sep old Meets
attribute [local irreducible] CallsA CallerP KnP KnsA AnswererP RCallerP KbA RAnswererP
theorem RpcComes_fn {a1 : Option Addr} {c1 : Nat} {xs : List EvE} (n : Int) {F : List Assn} [Hs : HS F (.slice a1 xs.length c1) EvE evEC 30 c1 xs] (h0 : 0 ≤ n) (h1 : n < 256) :
    Meets Try.prog 7 [.int .u8 n, .slice a1 xs.length c1] (AnsA (xs.map (·.x)) :: F) (Det (.bool true) (AnsA (xs.map (·.x)) :: F)) := by
  refine Meets.intro b7 k7 (by simp) ?_
  refine J.sl (inferInstance : HS (AnsA (xs.map (·.x)) :: F) (.slice a1 xs.length c1) EvE evEC 30 c1 xs) (fun hC hL _ => ?_)
  have hT0 : 0 ≤ Int.tmod n 6 := Int.tmod_nonneg _ h0
  have hT1 : Int.tmod n 6 < 6 := Int.tmod_lt_of_pos _ (by decide)
  have hN := TwoS.Ev.new (n := 1 + Int.tmod n 6) (by omega)
  refine J.nilS byteC 1 false (by decide) ?_
  focus
   refine zs <| zc rfl <| yD rfl rfl (.of .rf) (l06awake_fn _) <| zc rfl <| zd <| zq <| zu rfl <| zk <| zs <| zy (.cv rfl (Wr.i64 (by omega) (by omega))) <| zj rfl rfl rfl <| zy (.add rfl rfl (Wr.i64 (by omega) (by omega))) ?_
   refine yE rfl rfl (.of .rf) (l06begin_fn _ _ (by omega)) fun x6 _ => zc rfl <| zd <| zq <| zu rfl <| zk <| zs <| zc rfl <| zd <| zq <| zb ?_
  refine J.lp (ι := Nat × TwoS) (fun i => i.1 ≤ xs.length ∧ i.1 ≤ 60 ∧ i.2.Ev (1 + Int.tmod n 6) i.1) (fun i => [(7, i64 (i.1 : Int))]) (fun i => TwoP x6 i.2 :: byO none 0 [] :: AnsA (xs.map (·.x)) :: F) (fun i => xs.length - i.1) (0, TwoS.new (1 + Int.tmod n 6)) ⟨by simp, by simp, hN⟩ (by exact subxR rfl) (.of (.t0 (.t0 (.t0 .rf)))) (fun i hi => ?_)
  clear hN
  obtain ⟨k, S⟩ := i
  obtain ⟨hk, hk6, hE⟩ := hi
  dsimp only at hk hk6 hE ⊢
  by_cases hlt : k < xs.length ∧ k < 60
  · obtain ⟨hlt, hk60⟩ := hlt
    have hn2 : nth (xs.map (·.x)) k = (nth xs k).x := by rw [nth_eq (by simpa using hlt), nth_eq hlt, List.getElem_map]
    have ha := hE.bnd.a
    have hdo := fun F => l06do_P x6 S (nth xs k) F hE.inv.okC (fun x hx => by have := hE.bnd.y x hx; omega) (hE.inv.okA (by omega)) (hE.bnd.sm hE.inv (by omega))
    have hE2 := hE.step hk6 (nth xs k).ev
    generalize S.step (nth xs k).ev = S2 at hdo hE2
    refine J.imp (Imp.trans (Imp.take (c := AnsA (xs.map (·.x))) (by (repeat (first | exact Has.here | assumption | apply Has.there))) (Imp.refl _)) (AnsA.get (i := k) (by simpa using hlt))) ?_
    rw [hn2]
    focus
     refine zs <| zc rfl <| zy (.cltT rfl rfl (by omega)) <| yG rfl <| zy (.cltT rfl rfl (by omega)) <| zy (.pickT rfl rfl) <| zd <| zq <| zt rfl <| zk <| zq <| zb ?_
     refine zo <| zy (.iC rfl rfl (by omega)) <| zy (.LE rfl (by omega)) <| yD rfl rfl (.of (.t2 (.t0 .rf))) (hdo _) <| zd <| zo <| zy (.addN rfl rfl (by omega)) <| zd <| ⟨⟨_, _⟩, ?_, (by omega), (subxR rfl), (.of (.t0 (.t2 (.t1 (.d .rf)))))⟩
    exact ⟨by dsimp only; omega, by dsimp only; omega, hE2⟩
  have hO := hE.out hk6
  clear hE
  focus
   refine zs <| zc rfl <| zj rfl rfl rfl <| zm rfl rfl (fun h2 => .int rfl rfl rfl) <| zy (.pickA rfl rfl rfl) <| zd <| zq <| zi rfl (fun h2 => ?_) (fun h2 => ?_)
   (exfalso; omega)
   refine zx <| zs <| zc rfl <| zd <| zq <| zb ?_
  refine J.lp (ι := Nat × TwoS) (fun i => (i.1 : Int) ≤ 1 + Int.tmod n 6 ∧ i.2.Out (1 + Int.tmod n 6) i.1) (fun i => [(8, i64 (i.1 : Int))]) (fun i => TwoP x6 i.2 :: byO none 0 [] :: AnsA (xs.map (·.x)) :: F) (fun i => 6 - i.1) (0, S) ⟨by simp only; omega, hO⟩ (by exact subxR rfl) (.of (.t0 (.t0 (.t0 .rf)))) (fun i hi => ?_)
  clear hO
  obtain ⟨j, S⟩ := i
  obtain ⟨hj, hO⟩ := hi
  dsimp only at hj hO ⊢
  by_cases hjl : (j : Int) < 1 + Int.tmod n 6
  · have hIn := hO.tick
    obtain ⟨C, A, N, G, T, H, B⟩ := S
    have hs := hO.b.sm hO.inv (by have := hO.w; have h2 : (⟨C, A, N, G, T, H, B⟩ : TwoS).tick.wsum (N ++ C.tick.2) = _ := wsum_app _ _ _; have h3 : (⟨C, A, N, G, T, H, B⟩ : TwoS).tick.net = N ++ C.tick.2 := rfl; rw [h3, h2] at this; have h4 : (⟨C, A, N, G, T, H, B⟩ : TwoS).tick.wsum N = (⟨C, A, N, G, T, H, B⟩ : TwoS).wsum N := wsum_congr rfl N; dsimp only at *; omega)
    obtain ⟨s1, s2, s3, s4⟩ := hs
    have hP := fun p F => rcTick_P p C F hO.inv.okC (fun x hx => by have := hO.b.y x hx; omega)
    have hQ := Clr.tick_ans hO.inv.okC
    have hQl : C.tick.2.length ≤ 256 := by
      simp only [Clr.tick, List.length_map]; exact Nat.le_trans (List.length_filter_le _ _) hO.inv.okC.len
    unfold TwoS.tick at hIn
    obtain ⟨C2, Qs, ht⟩ : ∃ C2 Qs, C.tick = (C2, Qs) := ⟨_, _, rfl⟩
    dsimp only at hIn hP hQ hQl s1 s2 s3 s4
    rw [ht] at hIn hP hQ hQl
    dsimp only at hIn hP hQ hQl
    clear hO
    refine J.openTwo Has.here (fun p q an cn net ag cg gave at' ct told ah ch hn hg ht hn1 hn2 hg1 hg2 ht1 ht2 hh1 hh2 => ?_)
    subst hn hg ht
    rw [List.length_map] at s1
    have hQl2 : (Qs.map p0).length ≤ 256 := by simpa using hQl
    have e1 : (net ++ Qs.map p0).map (·.p) = net.map (·.p) ++ Qs := by
      rw [List.map_append, List.map_map]; congr 1; exact List.map_id Qs
    refine J.up (PksA.nils hQ) ?_
    refine J.imp (Imp.trans (Imp.take (c := PksA net) (by (repeat (first | exact Has.here | assumption | apply Has.there))) (Imp.take (c := PksA (Qs.map p0)) (by (repeat (first | exact Has.here | assumption | apply Has.there))) (Imp.refl _))) PksA.app) ?_
    focus
     refine zs <| zy (.cltT rfl rfl (by omega)) <| zd <| zq <| zt rfl <| zk <| zq <| zb <| zs <| zf 2 rfl rfl <| zl rfl rfl <| zfl rfl rfl rfl ?_
     refine yE rfl rfl (.of (.t2 .rf)) (hP _ _) fun ⟨a53, c53⟩ _ => JT.yA rfl (Ev.L rfl rfl) ?_
     (refine JT.A3 rfl rfl rfl (by decide) (by omega) (fun a54 c54 hc54 => ?_))
     refine zf 2 rfl rfl <| yS rfl rfl rfl rfl rfl (Nat.le_of_ble_eq_true rfl) rfl <| zc rfl <| zd <| zb ?_
    refine J.lp (ι := Nat × TwoS) (fun i => i.1 ≤ 1000 ∧ i.2.Inn (1 + Int.tmod n 6) j i.1) (fun i => [(9, i64 (i.1 : Int))]) (fun i => TwoP x6 i.2 :: byO none 0 [] :: AnsA (xs.map (·.x)) :: F) (fun i => 1000 - i.1) (0, (⟨C2, A, net.map (·.p) ++ Qs, gave.map (·.p), told.map (·.p), H, B⟩ : TwoS)) ⟨by simp, hIn⟩ (by exact subxR rfl) (.of (TwoP.fold .here (.there (.there .here)) (.there (.there (.there .here))) .here (.there (.there .here)) (.there (.there .here)) (.there (.there .here)) (.there .here) (.there .here) (.there .here) (by first | assumption | omega | rfl | decide) (by first | assumption | omega | rfl | decide) (by first | assumption | omega | rfl | decide) (.t1 (.t1 (.d .rf))))) (fun i hi => ?_)
    clear hIn
    obtain ⟨k, S⟩ := i
    obtain ⟨hk, hIn⟩ := hi
    dsimp only at hk hIn ⊢
    by_cases hk1 : k < 1000
    · have ha := hIn.alen
      have hdo := fun F => l06do_P x6 S ev0E F hIn.inv.okC (fun x hx => by have := hIn.b.y x hx; omega) (hIn.inv.okA (by omega)) (hIn.b.sm hIn.inv (by omega))
      rw [ev0E_ev] at hdo
      have hnx := hIn.next hk1
      have hou := hIn.out
      obtain ⟨C, A, N, G, T, H, B⟩ := S
      generalize TwoS.step ⟨C, A, N, G, T, H, B⟩ ev0 = S2 at hdo hnx
      refine J.openTwo Has.here (fun p q an cn net ag cg gave at' ct told ah ch hn hg ht hn1 hn2 hg1 hg2 ht1 ht2 hh1 hh2 => ?_)
      subst hn hg ht
      by_cases hne : 0 < net.length
      · have hI2 := hnx (by intro h; have h := congrArg List.length h; rw [List.length_map] at h; simp at h; simp [h] at hne)
        clear hnx hou
        focus
         refine zs <| zy (.cltT rfl rfl (by omega)) <| yG rfl <| zf 2 rfl rfl <| yG rfl <| zl rfl rfl <| yG rfl <| zc rfl <| yG rfl <| zy (.cgtT rfl rfl (by omega)) <| zy (.pickT rfl rfl) <| zd ?_
         refine zq <| zt rfl <| zk <| zq <| zb <| zo <| zg rfl <| yD rfl rfl (.of (TwoP.fold .here .here .here .here .here .here .here .here .here .here (by first | assumption | omega | rfl | decide) (by first | assumption | omega | rfl | decide) (by first | assumption | omega | rfl | decide) (.t0 .rf))) (hdo _) ?_
         refine zd <| zo <| zy (.addN rfl rfl (by omega)) <| zd <| ⟨⟨_, _⟩, ?_, (by omega), (subxR rfl), (.of (.t0 (.t0 (.t0 .rf))))⟩
         exact ⟨by omega, by assumption⟩
      · have hO2 := hou (by rw [show net = [] from List.length_eq_zero_iff.1 (by omega)]; rfl)
        clear hnx hou hdo
        focus
         refine zs <| zy (.cltT rfl rfl (by omega)) <| yG rfl <| zf 2 rfl rfl <| yG rfl <| zl rfl rfl <| yG rfl <| zc rfl <| yG rfl <| zy (.cgtF rfl rfl (by omega)) <| zy (.pickT rfl rfl) <| zd ?_
         refine zq <| zu rfl <| zx <| zo <| zy (.addN rfl rfl (by omega)) <| zd <| ⟨⟨_, ⟨_, _, _, _, _, _, _⟩⟩, ?_, (by omega), (subxR rfl), (.of (TwoP.fold .here .here .here .here .here .here .here .here .here .here (by first | assumption | omega | rfl | decide) (by first | assumption | omega | rfl | decide) (by first | assumption | omega | rfl | decide) (.t0 (.t0 .rf))))⟩
         exact ⟨by omega, by assumption⟩
    · have hO2 := hIn.out (hIn.empty (by omega))
      focus
       refine zs <| zy (.cltF rfl rfl (by omega)) <| zv rfl rfl <| zv rfl rfl <| zv rfl rfl <| zv rfl rfl <| zy (.pickF rfl rfl) <| zd <| zq <| zu rfl <| zx <| zo ?_
       refine zy (.addN rfl rfl (by omega)) <| zd <| ⟨⟨_, _⟩, ?_, (by omega), (subxR rfl), (.of (.t0 (.t0 (.t0 .rf))))⟩
       exact ⟨by omega, by assumption⟩
  · have hJ : j = (1 + Int.tmod n 6).toNat := by omega
    have hd := hO.fin.done (by omega) (by omega) hO.inv (hO.e (by omega))
    have hne := hO.e (by omega)
    have hOC := hO.inv.okC
    have hbad := hO.inv.bad
    have hol := Clr.opn_ans hOC
    obtain ⟨C, A, N, G, T, H, B⟩ := S
    dsimp only at hd hne hOC hbad hol
    subst hne hbad
    refine J.openTwo Has.here (fun p q an cn net ag cg gave at' ct told ah ch hn hg ht hn1 hn2 hg1 hg2 ht1 ht2 hh1 hh2 => ?_)
    obtain rfl : net = [] := List.map_eq_nil_iff.1 hn
    subst hg ht
    have hdi : ∀ i, i < (C.opn.map p0).length → (nth (C.opn.map p0) i).p.id ∈ H ∧ ∀ k, k < gave.length → (nth gave k).p.id ≠ (nth (C.opn.map p0) i).p.id := fun i hi => by
      have hi2 : i < C.L.length := by simpa [Clr.opn] using hi
      have e : (nth (C.opn.map p0) i).p = (nth C.L i).p := by
        rw [nth_eq hi, nth_eq hi2]; simp [Clr.opn]
      obtain ⟨d1, d2⟩ := hd (nth C.L i) (by rw [nth_eq hi2]; exact List.getElem_mem hi2)
      rw [e]
      exact ⟨d1, fun k hk => d2 _ (mem_map_p hk rfl)⟩
    have hOp := fun F => rcOpen_P p C F hOC
    have hopl : (C.opn.map p0).length ≤ 256 := by simpa [Clr.opn] using hOC.len
    generalize C.opn.map p0 = ops at hOp hdi hopl
    clear hd hO hol
    focus
     refine zs <| zy (.cltF rfl rfl (by omega)) <| zd <| zq <| zu rfl <| zx <| zs <| zfl rfl rfl rfl <| yE rfl rfl (.of (.t1 .rf)) (hOp _) fun ⟨a10, c10⟩ _ => zc rfl <| zd <| zq ?_
     refine zb ?_
    refine J.lp (ι := Nat) (fun i => i ≤ ops.length) (fun i => [(11, i64 (i : Int))]) (fun _ => SlT true pktEC 34 (.slice a10 ops.length c10) c10 ops :: pc x6 87 (twoC p q an ([] : List PktE).length cn ag gave.length cg at' told.length ct ah H.length ch false) :: CallerP p C :: AnswererP q A :: SlT true pktEC 34 (.slice an ([] : List PktE).length cn) cn [] :: SlT true pktEC 34 (.slice ag gave.length cg) cg gave :: SlT true pktEC 34 (.slice at' told.length ct) ct told :: SlT true intE 1 (.slice ah H.length ch) ch H :: AnsA (xs.map (·.x)) :: F) (fun i => ops.length - i) 0 (by omega) (by exact subxR rfl) (.of (.t0 (.t1 (.t0 (.t0 (.t0 (.t0 (.t0 (.t0 (.t4 (.d (.d (.d (.d .rf)))))))))))))) (fun i hi => ?_)
    by_cases hil : i < ops.length
    · obtain ⟨hin, hng⟩ := hdi i hil
      have hI : ∀ F, Meets Try.prog 31 [.slice ah H.length ch, i64 (nth ops i).p.id] (SlT true intE 1 (.slice ah H.length ch) ch H :: F) (Det (.bool true) (SlT true intE 1 (.slice ah H.length ch) ch H :: F)) := fun F => by
        have := l06in_fn (a := ah) (c := ch) (xs := H) (nth ops i).p.id (F := SlT true intE 1 (.slice ah H.length ch) ch H :: F)
        rw [decide_eq_true hin] at this; exact this
      focus
       refine zs <| zc rfl <| zy (.cltT rfl rfl (by omega)) <| zd <| zq <| zt rfl <| zk <| zq <| zb <| zs <| zc rfl <| zd ?_
       refine zq <| zb ?_
      refine J.lp (ι := Nat) (fun k => k ≤ gave.length) (fun k => [(12, i64 (k : Int))]) (fun _ => SlT true pktEC 34 (.slice a10 ops.length c10) c10 ops :: pc x6 87 (twoC p q an ([] : List PktE).length cn ag gave.length cg at' told.length ct ah H.length ch false) :: CallerP p C :: AnswererP q A :: SlT true pktEC 34 (.slice an ([] : List PktE).length cn) cn [] :: SlT true pktEC 34 (.slice ag gave.length cg) cg gave :: SlT true pktEC 34 (.slice at' told.length ct) ct told :: SlT true intE 1 (.slice ah H.length ch) ch H :: AnsA (xs.map (·.x)) :: F) (fun k => gave.length - k) 0 (by omega) (by exact subxR rfl) (.of (.t0 (.t0 (.t0 (.t0 (.t0 (.t0 (.t0 (.t0 (.t0 .rf)))))))))) (fun k2 hk2 => ?_)
      by_cases hkl : k2 < gave.length
      · have hgn := hng k2 hkl
        focus
         refine zs <| zfl rfl rfl rfl <| zc rfl <| zy (.cltT rfl rfl (by omega)) <| zd <| zq <| zt rfl <| zk <| zq <| zb <| zs <| zfl rfl rfl rfl ?_
         refine zy (.iC rfl rfl (by omega)) <| zy (.fe rfl) <| zy (.LE1 rfl (by omega) rfl (by decide)) <| zy (.iC rfl rfl (by omega)) <| zy (.fe rfl) <| zy (.LE1 rfl (by omega) rfl (by decide)) <| zy (.ceqF rfl rfl (by omega)) <| zd <| zu rfl <| zk <| zo <| zy (.addN rfl rfl (by omega)) ?_
         refine zd <| ⟨_, ?_, (by omega), (subxR rfl), (.of (.t0 (.t0 (.t0 (.t0 (.t0 (.t0 (.t0 (.t0 (.t0 .rf))))))))))⟩
         omega
      · focus
         refine zs <| zfl rfl rfl rfl <| zc rfl <| zy (.cltF rfl rfl (by omega)) <| zd <| zq <| zu rfl <| zx <| zs <| zfl rfl rfl rfl <| zy (.iC rfl rfl (by omega)) <| zy (.fe rfl) ?_
         refine zy (.LE1 rfl (by omega) rfl (by decide)) <| yD rfl rfl (.of (.tk (.there (.there (.there (.there (.there (.there (.there .here))))))) .rf)) (hI _) <| zc rfl <| zd <| zu rfl <| zk <| zo <| zy (.addN rfl rfl (by omega)) <| zd <| ⟨_, ?_, (by omega), (subxR rfl), (.of (.t1 (.t1 (.t1 (.t1 (.t1 (.t1 (.t1 (.t0 (.t0 .rf))))))))))⟩
         omega
    · focus
       refine zs <| zc rfl <| zy (.cltF rfl rfl (by omega)) <| zd <| zq <| zu rfl <| zx <| zs <| zfl rfl rfl rfl <| zc rfl <| yG rfl <| zf 2 rfl rfl ?_
       refine yG rfl <| zl rfl rfl <| yG rfl <| zc rfl <| yG rfl <| zy (.ceqT rfl rfl (by (try simp only [List.length_nil, List.length_cons, List.length_append, List.length_take, List.length_drop, List.length_set]); omega)) <| zy (.pickT rfl rfl) <| zd <| zr <| yR (.t rfl .nil) rfl (.of (.tk (.there (.there (.there (.there (.there (.there (.there (.there .here)))))))) (.d (.d (.d (.d (.d (.d (.d (.d .rf))))))))))
end Go.Proofs.Ytienlpaehgdpaaa
