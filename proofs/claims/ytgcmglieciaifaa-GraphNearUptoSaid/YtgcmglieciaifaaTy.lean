/- The types of the program that are rows of numbers, and how they lie in cells. Conditions: none. -/
import Derived.Test.YtgcmglieciaifaaSlQ
set_option linter.unusedSimpArgs false
set_option linter.unusedVariables false
namespace Go.SL
open Go

abbrev u64 (n : Int) : Value := .int .u64 n

structure Owner where
  agent : Int
  op : Int
  deriving DecidableEq, Inhabited
def ownerC (o : Owner) : List Value := [i64 o.agent, i64 o.op]
instance : EqEnc [.i, .i] ownerC := ⟨fun a b => by
  have : decide (a = b) = (decide (a.agent = b.agent) && (decide (a.op = b.op) && true)) := by cases a; cases b; simp
  rw [this]; exact .i (.i .nil)⟩
instance {a b : Owner} : BP (decide (a.agent = b.agent) && (decide (a.op = b.op) && true)) (a = b) (¬ a = b) := by
  have e : (decide (a.agent = b.agent) && (decide (a.op = b.op) && true)) = decide (a = b) := by cases a; cases b; simp
  rw [e]; infer_instance
abbrev ov (o : Owner) : Value := .agg (ownerC o).toArray
theorem Owner.eta (o : Owner) : (⟨o.agent, o.op⟩ : Owner) = o := rfl
theorem ownerC_one : ∀ o : Owner, (ownerC o).length = 2 ∧ ∀ v ∈ ownerC o, isOne v = true := by intro o; simp [ownerC, isOne]

def intE (n : Int) : List Value := [i64 n]
theorem intE_one : ∀ n : Int, (intE n).length = 1 ∧ ∀ v ∈ intE n, isOne v = true := by intro n; simp [intE, isOne]

/-- A pointer to a block of its own, or nil. -/
def pV (o : Option Nat) : Value := .pointer (o.map fun b => ⟨b, 0, none⟩)
def pE (o : Option Nat) : List Value := [pV o]
theorem pE_one : ∀ o : Option Nat, (pE o).length = 1 ∧ ∀ v ∈ pE o, isOne v = true := by intro o; simp [pE, pV, isOne]
end Go.SL

set_option linter.unusedSimpArgs false
set_option linter.unusedVariables false
set_option linter.unusedSectionVars false
namespace Go.SL

section
variable {α : Type} [DecidableEq α] [Inhabited α]

theorem nth_mem {xs : List α} {k : Nat} (h : k < xs.length) : nth xs k ∈ xs := by rw [nth_eq h]; exact List.getElem_mem h

theorem not_mem_of {xs : List α} {o : α} (h : ∀ j, j < xs.length → nth xs j ≠ o) : o ∉ xs := by
  intro hm
  obtain ⟨i, hi, rfl⟩ := List.mem_iff_getElem.1 hm
  exact h i hi (nth_eq hi)

/-- The first place of something; -1: it has none. -/
def ix (xs : List α) (o : α) : Int := if o ∈ xs then (xs.idxOf o : Int) else -1

theorem ix_at {xs : List α} {o : α} {k : Nat} (hk : k < xs.length) (h : ∀ j, j < k → nth xs j ≠ o) (he : nth xs k = o) : ix xs o = k := by
  have hm : o ∈ xs := he ▸ nth_mem hk
  rw [ix, if_pos hm]
  have h1 : xs.idxOf o ≤ k := by
    rcases Nat.lt_or_ge k (xs.idxOf o) with h' | h'
    · exfalso
      have := List.not_of_lt_findIdx (p := (· == o)) (xs := xs) (i := k) h'
      rw [nth_eq hk] at he
      simp [he] at this
    · exact h'
  have h2 : ¬ xs.idxOf o < k := by
    intro h'
    have hlt : xs.idxOf o < xs.length := List.idxOf_lt_length_of_mem hm
    refine h _ h' ?_
    rw [nth_eq hlt]
    exact List.getElem_idxOf hlt
  have : xs.idxOf o = k := by omega
  rw [this]
theorem ix_no {xs : List α} {o : α} (h : ∀ j, j < xs.length → nth xs j ≠ o) : ix xs o = -1 := by rw [ix, if_neg (not_mem_of h)]
theorem ix_ge (xs : List α) (o : α) : (0 ≤ ix xs o) = (o ∈ xs) := by
  unfold ix
  by_cases h : o ∈ xs <;> simp [h]
theorem ix_lt {xs : List α} {o : α} (h : o ∈ xs) : ix xs o = (xs.idxOf o : Int) ∧ xs.idxOf o < xs.length := ⟨by rw [ix, if_pos h], List.idxOf_lt_length_of_mem h⟩

end

theorem eq_of_nth {α : Type} [Inhabited α] {xs ys : List α} (hl : xs.length = ys.length) (h : ∀ j, j < xs.length → nth xs j = nth ys j) : xs = ys := by
  apply List.ext_getElem hl
  intro i h1 h2
  have := h i h1
  rwa [nth_eq h1, nth_eq h2] at this
theorem ne_of_nth {α : Type} [Inhabited α] {xs ys : List α} {j : Nat} (h : nth xs j ≠ nth ys j) : xs ≠ ys := fun e => h (by rw [e])
theorem ne_of_len {α : Type} {xs ys : List α} (h : ¬ xs.length = ys.length) : xs ≠ ys := fun e => h (by rw [e])

theorem all_lt_succ {p : Nat → Prop} {k : Nat} (h : ∀ j, j < k → p j) (hk : p k) : ∀ j, j < k + 1 → p j := by
  intro j hj
  rcases Nat.lt_or_ge j k with h' | h'
  · exact h j h'
  · obtain rfl : j = k := by omega
    exact hk

theorem ix_pos {α : Type} [DecidableEq α] {xs : List α} {o : α} (h : ix xs o = 0) : 0 < xs.length := by
  cases xs with
  | nil => simp [ix] at h
  | cons _ _ => simp
end Go.SL

set_option linter.unusedSimpArgs false
set_option linter.unusedVariables false
namespace Go.SL
open Go

def okO (o : Owner) : Prop := 0 ≤ o.agent ∧ o.agent < 1024 ∧ 1 ≤ o.op ∧ o.op ≤ 1073741824
instance (o : Owner) : Decidable (okO o) := by unfold okO; infer_instance
def ckE (o : Owner) : Int := if okO o then 0 else 70
theorem ckE_0 (o : Owner) : (ckE o = 0) = okO o := by unfold ckE; split <;> simp_all

instance {o : Owner} : BP (decide (ckE o = 0)) (okO o) (¬ okO o) := .mk' (by simp [ckE_0]) .rfl

/-- A lock: whether it is held, by whom, and who waits. -/
structure LS where
  held : Bool
  holder : Owner
  w : List Owner
  deriving Inhabited, DecidableEq

def LS.new : LS := ⟨false, ⟨0, 0⟩, []⟩

def LS.ask (s : LS) (o : Owner) : LS × Bool × Int :=
  if ¬ okO o then (s, false, 70)
  else if s.held = true ∧ s.holder = o then (s, true, 0)
  else if o ∈ s.w then (s, false, 0)
  else if s.held = false then ({ s with held := true, holder := o }, true, 0)
  else if 64 ≤ s.w.length then (s, false, 3)
  else ({ s with w := s.w ++ [o] }, false, 0)

def LS.free (s : LS) (o : Owner) : LS × Owner × Bool × Int :=
  if ¬ okO o then (s, ⟨0, 0⟩, false, 70)
  else if s.held = false ∨ s.holder ≠ o then (s, ⟨0, 0⟩, false, 71)
  else if s.w.length = 0 then ({ s with held := false, holder := ⟨0, 0⟩ }, ⟨0, 0⟩, false, 0)
  else ({ s with holder := nth s.w 0, w := s.w.drop 1 }, nth s.w 0, true, 0)

def LS.leave (s : LS) (o : Owner) : LS × Bool × Int :=
  if ¬ okO o then (s, false, 70)
  else if o ∉ s.w then (s, false, 0)
  else ({ s with w := s.w.take (s.w.idxOf o) ++ s.w.drop (s.w.idxOf o + 1) }, true, 0)

def LS.fin (s : LS) : LS := ⟨false, ⟨0, 0⟩, []⟩

/-- An act of a script: 1 asks, 2 frees, 3 leaves, 4 ends; any other: nothing. -/
structure LOp where
  kind : Int
  o : Owner
  deriving Inhabited
def lopC (x : LOp) : List Value := [i64 x.kind, i64 x.o.agent, i64 x.o.op]
instance : FS lopC 1 2 ownerC LOp.o := ⟨fun _ => rfl⟩
theorem lopC_sub (x : LOp) : lsub (lopC x) 1 2 = ownerC x.o := rfl
def LS.act (s : LS) (x : LOp) : LS :=
  if x.kind = 1 then (s.ask x.o).1 else if x.kind = 2 then (s.free x.o).1 else if x.kind = 3 then (s.leave x.o).1 else if x.kind = 4 then s.fin else s
theorem LS.act_le {s : LS} {x : LOp} (h : s.w.length ≤ 64) : (s.act x).w.length ≤ 64 := by
  unfold LS.act LS.ask LS.free LS.leave LS.fin
  repeat' split
  all_goals ((try simp only [List.length_append, List.length_take, List.length_drop, List.length_cons, List.length_nil]); omega)
def LS.run (xs : List LOp) (k : Nat) : LS := (xs.take k).foldl LS.act LS.new
theorem LS.run_succ {xs : List LOp} {k : Nat} (h : k < xs.length) : LS.run xs (k + 1) = (LS.run xs k).act (nth xs k) := by
  unfold LS.run
  rw [List.take_add_one, List.foldl_append, nth_eq h, List.getElem?_eq_getElem h]; rfl
theorem LS.run_le (xs : List LOp) : ∀ k, (LS.run xs k).w.length ≤ 64
  | 0 => by simp [LS.run, LS.new]
  | k + 1 => by
    rcases Nat.lt_or_ge k xs.length with h | h
    · rw [LS.run_succ h]; exact LS.act_le (LS.run_le xs k)
    · have : LS.run xs (k + 1) = LS.run xs k := by unfold LS.run; rw [List.take_of_length_le h, List.take_of_length_le (by omega)]
      rw [this]; exact LS.run_le xs k

/-! ### Turns -/
/-- The holder, and those that wait, as they asked. -/
def LS.row (s : LS) : List Owner := if s.held = true then s.holder :: s.w else []
structure LS.Inv (s : LS) : Prop where
  fr : s.held = false → s.w = []
  nd : s.row.Nodup
  ok : ∀ x ∈ s.row, okO x
  le : s.w.length ≤ 64
theorem LS.Inv.new : LS.Inv LS.new := ⟨fun _ => rfl, by simp [LS.row, LS.new], by simp [LS.row, LS.new], by simp [LS.new]⟩

theorem ix_cons {α : Type} [DecidableEq α] (x o : α) (xs : List α) : ix (x :: xs) o = if x = o then 0 else if o ∈ xs then (xs.idxOf o : Int) + 1 else -1 := by
  unfold ix
  by_cases h : x = o
  · subst h; simp
  · have h' : o ≠ x := fun e => h e.symm
    by_cases hm : o ∈ xs
    · rw [if_pos (List.mem_cons_of_mem _ hm), if_neg h, if_pos hm, List.idxOf_cons, beq_eq_false_iff_ne.2 h]; simp
    · rw [if_neg (by simp [h', hm]), if_neg h, if_neg hm]

theorem LS.turn_ask {s : LS} (I : s.Inv) (o : Owner) : ∃ s' b e, s.ask o = (s', b, e) ∧ s'.Inv ∧ ((e = 0 ∧ ix s.row o < 0 ∧ s'.row = s.row ++ [o]) ∨ (¬ (e = 0 ∧ ix s.row o < 0) ∧ s'.row = s.row)) := by
  obtain ⟨held, hd, w⟩ := s
  obtain ⟨fr, nd, ok, le⟩ := I
  unfold LS.ask
  simp only at fr le ⊢
  by_cases h1 : okO o
  · rw [if_neg (by simpa using h1)]
    cases held with
    | false =>
      obtain rfl : w = [] := fr rfl
      rw [if_neg (by simp), if_neg (by simp), if_pos rfl]
      exact ⟨_, _, _, rfl, ⟨by simp, by simp [LS.row], by simpa [LS.row] using h1, by simp⟩, .inl ⟨rfl, by simp [ix, LS.row], by simp [LS.row]⟩⟩
    | true =>
      simp only [LS.row, if_true] at nd ok ⊢
      by_cases h2 : hd = o
      · subst h2
        rw [if_pos (by simp)]
        exact ⟨_, _, _, rfl, ⟨by simp, nd, ok, le⟩, .inr ⟨by rw [ix_cons]; simp, rfl⟩⟩
      · rw [if_neg (by simpa using h2)]
        by_cases h3 : o ∈ w
        · rw [if_pos h3]
          exact ⟨_, _, _, rfl, ⟨by simp, nd, ok, le⟩, .inr ⟨by rw [ix_cons, if_neg h2, if_pos h3]; omega, rfl⟩⟩
        · rw [if_neg h3, if_neg (by simp)]
          by_cases h4 : 64 ≤ w.length
          · rw [if_pos h4]
            exact ⟨_, _, _, rfl, ⟨by simp, nd, ok, le⟩, .inr ⟨by simp, rfl⟩⟩
          · rw [if_neg h4]
            refine ⟨_, _, _, rfl, ⟨by simp, ?_, ?_, by simp; omega⟩, .inl ⟨rfl, by rw [ix_cons, if_neg h2, if_neg h3]; omega, by simp⟩⟩
            · simp only [LS.row, if_true]
              rw [← List.cons_append, List.nodup_append]
              refine ⟨nd, by simp, ?_⟩
              intro a ha b hb
              simp only [List.mem_singleton] at hb
              subst hb
              rcases List.mem_cons.1 ha with rfl | ha
              · exact h2
              · rintro rfl; exact h3 ha
            · intro x hx
              simp only [LS.row, if_true] at hx
              rw [← List.cons_append, List.mem_append] at hx
              rcases hx with hx | hx
              · exact ok x hx
              · simp only [List.mem_singleton] at hx; subst hx; exact h1
  · rw [if_pos (by simpa using h1)]
    exact ⟨_, _, _, rfl, ⟨fr, nd, ok, le⟩, .inr ⟨by simp, rfl⟩⟩

theorem LS.turn_free {s : LS} (I : s.Inv) (o : Owner) : ∃ s' p b e, s.free o = (s', p, b, e) ∧ s'.Inv ∧ ((e = 0 ∧ ix s.row o = 0 ∧ s'.row = s.row.drop 1) ∨ (¬ e = 0 ∧ ¬ ix s.row o = 0 ∧ s'.row = s.row)) := by
  obtain ⟨held, hd, w⟩ := s
  have I0 := I
  obtain ⟨fr, nd, ok, le⟩ := I
  unfold LS.free
  simp only at fr le ⊢
  cases held with
  | false =>
    have hr : ¬ ix (LS.row ⟨false, hd, w⟩) o = 0 := by simp [LS.row, ix]
    by_cases h1 : okO o
    · rw [if_neg (by simpa using h1), if_pos (by simp)]
      exact ⟨_, _, _, _, rfl, I0, .inr ⟨by simp, hr, rfl⟩⟩
    · rw [if_pos (by simpa using h1)]
      exact ⟨_, _, _, _, rfl, I0, .inr ⟨by simp, hr, rfl⟩⟩
  | true =>
    simp only [LS.row, if_true] at nd ok ⊢
    by_cases h2 : hd = o
    · subst h2
      have h1 : okO hd := ok hd List.mem_cons_self
      rw [if_neg (by simpa using h1), if_neg (by simp)]
      have hix : ix (hd :: w) hd = 0 := by rw [ix_cons, if_pos rfl]
      cases w with
      | nil =>
        rw [if_pos (by simp)]
        exact ⟨_, _, _, _, rfl, ⟨by simp, by simp [LS.row], by simp [LS.row], by simp⟩, .inl ⟨rfl, hix, by simp⟩⟩
      | cons y r =>
        rw [if_neg (by simp)]
        refine ⟨_, _, _, _, rfl, ⟨by simp, ?_, ?_, by simp at le ⊢; omega⟩, .inl ⟨rfl, hix, ?_⟩⟩
        · simpa [LS.row, nth] using (List.nodup_cons.1 nd).2
        · intro x hx
          exact ok x (by simp [LS.row, nth] at hx ⊢; exact .inr hx)
        · simp [nth]
    · have hix : ¬ ix (hd :: w) o = 0 := by
        rw [ix_cons, if_neg h2]; split <;> omega
      by_cases h1 : okO o
      · rw [if_neg (by simpa using h1), if_pos (.inr h2)]
        exact ⟨_, _, _, _, rfl, I0, .inr ⟨by simp, hix, by simp⟩⟩
      · rw [if_pos (by simpa using h1)]
        exact ⟨_, _, _, _, rfl, I0, .inr ⟨by simp, hix, by simp⟩⟩

theorem LS.turn_leave {s : LS} (I : s.Inv) (o : Owner) : ∃ s' b e, s.leave o = (s', b, e) ∧ s'.Inv ∧
    ((b = true ∧ 0 < ix s.row o ∧ ix s.row o < s.row.length ∧ s'.row = s.row.take (ix s.row o).toNat ++ s.row.drop (ix s.row o + 1).toNat) ∨ (b = false ∧ ¬ 0 < ix s.row o ∧ s'.row = s.row)) := by
  obtain ⟨held, hd, w⟩ := s
  have I0 := I
  obtain ⟨fr, nd, ok, le⟩ := I
  unfold LS.leave
  simp only at fr le ⊢
  cases held with
  | false =>
    obtain rfl : w = [] := fr rfl
    have hr : ¬ 0 < ix (LS.row ⟨false, hd, []⟩) o := by simp [LS.row, ix]
    by_cases h1 : okO o
    · rw [if_neg (by simpa using h1), if_pos (by simp)]
      exact ⟨_, _, _, rfl, I0, .inr ⟨rfl, hr, rfl⟩⟩
    · rw [if_pos (by simpa using h1)]
      exact ⟨_, _, _, rfl, I0, .inr ⟨rfl, hr, rfl⟩⟩
  | true =>
    simp only [LS.row, if_true] at nd ok ⊢
    obtain ⟨nd1, nd2⟩ := List.nodup_cons.1 nd
    by_cases hm : o ∈ w
    · have h1 : okO o := ok o (List.mem_cons_of_mem _ hm)
      have h2 : ¬ hd = o := fun e => nd1 (e ▸ hm)
      have hix : ix (hd :: w) o = (w.idxOf o : Int) + 1 := by rw [ix_cons, if_neg h2, if_pos hm]
      have hlt := List.idxOf_lt_length_of_mem hm
      rw [if_neg (by simpa using h1), if_neg (by simpa using hm), hix]
      have hsub : (w.take (w.idxOf o) ++ w.drop (w.idxOf o + 1)).Sublist w := by
        conv => rhs; rw [← List.take_append_drop (w.idxOf o) w]
        exact List.Sublist.append (List.Sublist.refl _) (by rw [← List.drop_drop]; exact List.drop_sublist _ _)
      refine ⟨_, _, _, rfl, ⟨by simp, ?_, ?_, ?_⟩, .inl ⟨rfl, by omega, by simp; omega, ?_⟩⟩
      · simp only [LS.row, if_true]
        exact List.nodup_cons.2 ⟨fun h => nd1 (hsub.subset h), hsub.nodup nd2⟩
      · intro x hx
        simp only [LS.row, if_true] at hx
        rcases List.mem_cons.1 hx with rfl | hx
        · exact ok _ List.mem_cons_self
        · exact ok x (List.mem_cons_of_mem _ (hsub.subset hx))
      · have := hsub.length_le; simp only at this ⊢; omega
      · rw [show ((w.idxOf o : Int) + 1).toNat = w.idxOf o + 1 by omega, show ((w.idxOf o : Int) + 1 + 1).toNat = w.idxOf o + 1 + 1 by omega]
        simp
    · have hix : ¬ 0 < ix (hd :: w) o := by
        rw [ix_cons, if_neg hm]; split <;> omega
      by_cases h1 : okO o
      · rw [if_neg (by simpa using h1), if_pos (by simpa using hm)]
        exact ⟨_, _, _, rfl, I0, .inr ⟨rfl, hix, by simp⟩⟩
      · rw [if_pos (by simpa using h1)]
        exact ⟨_, _, _, rfl, I0, .inr ⟨rfl, hix, by simp⟩⟩

/-- How the program's lock lies in cells; the reference's. -/
def lockC (s : LS) (a : Option Addr) (c : Nat) : List Value := [.bool true, .bool s.held, i64 s.holder.agent, i64 s.holder.op, .slice a s.w.length c]
def rlockC (s : LS) (a : Option Addr) (c : Nat) : List Value := [.bool s.held, i64 s.holder.agent, i64 s.holder.op, .slice a s.w.length c]

theorem lockC_sub (s : LS) (a : Option Addr) (c : Nat) : lsub (lockC s a c) 2 2 = ownerC s.holder := rfl
theorem lockC_p1 (s : LS) (a : Option Addr) (c : Nat) (b : Bool) : lput (lockC s a c) 1 [.bool b] = lockC { s with held := b } a c := rfl
theorem lockC_p2 (s : LS) (a : Option Addr) (c : Nat) (o : Owner) : lput (lockC s a c) 2 (ownerC o) = lockC { s with holder := o } a c := rfl
theorem lockC_p3 (s : LS) (a : Option Addr) (c : Nat) (x y : Int) : lput (lockC s a c) 2 [i64 x, i64 y] = lockC { s with holder := ⟨x, y⟩ } a c := rfl
theorem lockC_p4 (s : LS) (a : Option Addr) (c : Nat) (a' : Option Addr) (c' : Nat) (w' : List Owner) : lput (lockC s a c) 4 [.slice a' w'.length c'] = lockC { s with w := w' } a' c' := rfl
theorem lockC_p5 (s : LS) (a : Option Addr) (c : Nat) : lput (lockC s a c) 4 [.slice none 0 0] = lockC { s with w := [] } none 0 := rfl
theorem rlockC_sub (s : LS) (a : Option Addr) (c : Nat) : lsub (rlockC s a c) 1 2 = ownerC s.holder := rfl
theorem rlockC_p1 (s : LS) (a : Option Addr) (c : Nat) (b : Bool) : lput (rlockC s a c) 0 [.bool b] = rlockC { s with held := b } a c := rfl
theorem rlockC_p2 (s : LS) (a : Option Addr) (c : Nat) (o : Owner) : lput (rlockC s a c) 1 (ownerC o) = rlockC { s with holder := o } a c := rfl
theorem rlockC_p3 (s : LS) (a : Option Addr) (c : Nat) (x y : Int) : lput (rlockC s a c) 1 [i64 x, i64 y] = rlockC { s with holder := ⟨x, y⟩ } a c := rfl
theorem rlockC_p4 (s : LS) (a : Option Addr) (c : Nat) (a' : Option Addr) (c' : Nat) (w' : List Owner) : lput (rlockC s a c) 3 [.slice a' w'.length c'] = rlockC { s with w := w' } a' c' := rfl
theorem rlockC_p5 (s : LS) (a : Option Addr) (c : Nat) : lput (rlockC s a c) 3 [.slice none 0 0] = rlockC { s with w := [] } none 0 := rfl

/-- A lock of the program at a place; one of the reference. -/
def LockP (b : Nat) (s : LS) : Assn := ex fun x : Nat × Option Addr × Nat => sep [pc b x.1 (lockC s x.2.1 x.2.2), SlT false ownerC 2 (.slice x.2.1 s.w.length x.2.2) x.2.2 s.w]
def RlockP (b : Nat) (s : LS) : Assn := ex fun x : Nat × Option Addr × Nat => sep [pc b x.1 (rlockC s x.2.1 x.2.2), SlT false ownerC 2 (.slice x.2.1 s.w.length x.2.2) x.2.2 s.w]

section
variable {P : Program} {N : Nat} {ρ : Env} {cs r r1 ds : List Assn} {cc : CC} {t : Tr} {K : Env → List Assn → Prop} {Q : Exit → Env → List Assn → Prop} {b T c : Nat} {s : LS} {a : Option Addr}
theorem J.openLock (hh : Has cs (LockP b s) r) (h : ∀ T a c, s.w.length ≤ c → s.w.length ≤ 140737488355328 → J P N cc ρ (pc b T (lockC s a c) :: SlT false ownerC 2 (.slice a s.w.length c) c s.w :: r) Q) : J P N cc ρ cs Q := J.has hh (J.ex fun x => J.sep (J.slF (Has.there Has.here) fun h1 h2 _ => h x.1 x.2.1 x.2.2 h1 h2))
theorem J.openRlock (hh : Has cs (RlockP b s) r) (h : ∀ T a c, s.w.length ≤ c → s.w.length ≤ 140737488355328 → J P N cc ρ (pc b T (rlockC s a c) :: SlT false ownerC 2 (.slice a s.w.length c) c s.w :: r) Q) : J P N cc ρ cs Q := J.has hh (J.ex fun x => J.sep (J.slF (Has.there Has.here) fun h1 h2 _ => h x.1 x.2.1 x.2.2 h1 h2))
theorem JT.openLock {dst : Option Nat} {n : Option Nat} {x : Operand} {off : Nat} (hx : ρ.ev x = some (.pointer (some ⟨b, off, none⟩))) (hh : Has cs (LockP b s) r)
    (h : ∀ T a c, s.w.length ≤ c → s.w.length ≤ 140737488355328 → JT P (.st ⟨dst, .ld n x, none⟩ t) ρ (pc b T (lockC s a c) :: SlT false ownerC 2 (.slice a s.w.length c) c s.w :: r) K) : JT P (.st ⟨dst, .ld n x, none⟩ t) ρ cs K :=
  JT.has hh (JT.ex fun x => JT.sep (JT.fact (fun _ hs => hs.capF (Has.there Has.here)) fun h1 => JT.fact (fun _ hs => hs.lenF (Has.there Has.here)) fun h2 => h x.1 x.2.1 x.2.2 h1 h2))
theorem JT.openRlock {dst : Option Nat} {n : Option Nat} {x : Operand} {off : Nat} (hx : ρ.ev x = some (.pointer (some ⟨b, off, none⟩))) (hh : Has cs (RlockP b s) r)
    (h : ∀ T a c, s.w.length ≤ c → s.w.length ≤ 140737488355328 → JT P (.st ⟨dst, .ld n x, none⟩ t) ρ (pc b T (rlockC s a c) :: SlT false ownerC 2 (.slice a s.w.length c) c s.w :: r) K) : JT P (.st ⟨dst, .ld n x, none⟩ t) ρ cs K :=
  JT.has hh (JT.ex fun x => JT.sep (JT.fact (fun _ hs => hs.capF (Has.there Has.here)) fun h1 => JT.fact (fun _ hs => hs.lenF (Has.there Has.here)) fun h2 => h x.1 x.2.1 x.2.2 h1 h2))
theorem LockP.fold (h1 : Has cs (pc b T (lockC s a c)) r) (h2 : Has r (SlT false ownerC 2 (.slice a s.w.length c) c s.w) r1) (h3 : Imp r1 ds) : Imp cs (LockP b s :: ds) :=
  Imp.trans (Imp.take h1 (Imp.take h2 h3)) (Imp.trans (Imp.sep_in (cs := [_, _])) (Imp.ex_in (A := fun x : Nat × Option Addr × Nat => sep [pc b x.1 (lockC s x.2.1 x.2.2), SlT false ownerC 2 (.slice x.2.1 s.w.length x.2.2) x.2.2 s.w]) (T, a, c)))
theorem RlockP.fold (h1 : Has cs (pc b T (rlockC s a c)) r) (h2 : Has r (SlT false ownerC 2 (.slice a s.w.length c) c s.w) r1) (h3 : Imp r1 ds) : Imp cs (RlockP b s :: ds) :=
  Imp.trans (Imp.take h1 (Imp.take h2 h3)) (Imp.trans (Imp.sep_in (cs := [_, _])) (Imp.ex_in (A := fun x : Nat × Option Addr × Nat => sep [pc b x.1 (rlockC s x.2.1 x.2.2), SlT false ownerC 2 (.slice x.2.1 s.w.length x.2.2) x.2.2 s.w]) (T, a, c)))
end

end Go.SL
