/- Plain facts on lists. Conditions: none. -/
import Derived.Test.YtienlpaehgdpaaaSlN
set_option linter.unusedSimpArgs false
set_option linter.unusedVariables false
set_option linter.unusedSectionVars false
namespace Go.SL

section
variable {α : Type} [DecidableEq α] [Inhabited α]

theorem nth_mem {xs : List α} {k : Nat} (h : k < xs.length) : nth xs k ∈ xs := by rw [nth_eq h]; exact List.getElem_mem h

theorem not_mem_of {xs : List α} {o : α} (h : ∀ j, j < xs.length → nth xs j ≠ o) : o ∉ xs := by
  intro hm
  obtain ⟨i, hi, rfl⟩ := List.mem_iff_getElem.1 hm
  exact h i hi (nth_eq hi)

/-- The first place of something; -1: it has none. -/
def ix (xs : List α) (o : α) : Int := if o ∈ xs then (xs.idxOf o : Int) else -1

theorem ix_at {xs : List α} {o : α} {k : Nat} (hk : k < xs.length) (h : ∀ j, j < k → nth xs j ≠ o) (he : nth xs k = o) : ix xs o = k := by
  have hm : o ∈ xs := he ▸ nth_mem hk
  rw [ix, if_pos hm]
  have h1 : xs.idxOf o ≤ k := by
    rcases Nat.lt_or_ge k (xs.idxOf o) with h' | h'
    · exfalso
      have := List.not_of_lt_findIdx (p := (· == o)) (xs := xs) (i := k) h'
      rw [nth_eq hk] at he
      simp [he] at this
    · exact h'
  have h2 : ¬ xs.idxOf o < k := by
    intro h'
    have hlt : xs.idxOf o < xs.length := List.idxOf_lt_length_of_mem hm
    refine h _ h' ?_
    rw [nth_eq hlt]
    exact List.getElem_idxOf hlt
  have : xs.idxOf o = k := by omega
  rw [this]
theorem ix_no {xs : List α} {o : α} (h : ∀ j, j < xs.length → nth xs j ≠ o) : ix xs o = -1 := by rw [ix, if_neg (not_mem_of h)]
theorem ix_ge (xs : List α) (o : α) : (0 ≤ ix xs o) = (o ∈ xs) := by
  unfold ix
  by_cases h : o ∈ xs <;> simp [h]
theorem ix_lt {xs : List α} {o : α} (h : o ∈ xs) : ix xs o = (xs.idxOf o : Int) ∧ xs.idxOf o < xs.length := ⟨by rw [ix, if_pos h], List.idxOf_lt_length_of_mem h⟩

end

theorem eq_of_nth {α : Type} [Inhabited α] {xs ys : List α} (hl : xs.length = ys.length) (h : ∀ j, j < xs.length → nth xs j = nth ys j) : xs = ys := by
  apply List.ext_getElem hl
  intro i h1 h2
  have := h i h1
  rwa [nth_eq h1, nth_eq h2] at this
theorem ne_of_nth {α : Type} [Inhabited α] {xs ys : List α} {j : Nat} (h : nth xs j ≠ nth ys j) : xs ≠ ys := fun e => h (by rw [e])
theorem ne_of_len {α : Type} {xs ys : List α} (h : ¬ xs.length = ys.length) : xs ≠ ys := fun e => h (by rw [e])

theorem all_lt_succ {p : Nat → Prop} {k : Nat} (h : ∀ j, j < k → p j) (hk : p k) : ∀ j, j < k + 1 → p j := by
  intro j hj
  rcases Nat.lt_or_ge j k with h' | h'
  · exact h j h'
  · obtain rfl : j = k := by omega
    exact hk

theorem ix_pos {α : Type} [DecidableEq α] {xs : List α} {o : α} (h : ix xs o = 0) : 0 < xs.length := by
  cases xs with
  | nil => simp [ix] at h
  | cons _ _ => simp
end Go.SL
