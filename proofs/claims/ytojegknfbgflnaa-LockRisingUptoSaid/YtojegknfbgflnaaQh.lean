/- Where each owner waits only for places above all that it holds, nobody is stuck (plain Lean). Conditions: none. -/
import Derived.Test.YtojegknfbgflnaaQb
set_option linter.unusedSimpArgs false
set_option linter.unusedVariables false
namespace Go.SL
open Go

/-- Two claims that may not stand beside each other. -/
def bad2 (c d : Cl) : Prop := (c.held = true ∧ d.held = true ∧ c.place = d.place ∧ c.o ≠ d.o) ∨ (c.o = d.o ∧ ((c.held = true ∧ d.held = false ∧ d.place ≤ c.place) ∨ (c.held = false ∧ d.held = true ∧ c.place ≤ d.place)))
theorem bad2_symm {c d : Cl} (h : bad2 c d) : bad2 d c := by
  rcases h with ⟨a, b, e, n⟩ | ⟨e, h | h⟩
  · exact .inl ⟨b, a, e.symm, fun x => n x.symm⟩
  · exact .inr ⟨e.symm, .inr ⟨h.2.1, h.1, h.2.2⟩⟩
  · exact .inr ⟨e.symm, .inl ⟨h.2.1, h.1, h.2.2⟩⟩
theorem bad2_self (c : Cl) : ¬ bad2 c c := by
  rintro (⟨_, _, _, n⟩ | ⟨_, h | h⟩)
  · exact n rfl
  · rw [h.1] at h; exact absurd h.2.1 (by decide)
  · rw [h.1] at h; exact absurd h.2.1 (by decide)
structure Fw (l : List Cl) : Prop where
  ok : ∀ c ∈ l, okO c.o
  good : ∀ c ∈ l, ∀ d ∈ l, ¬ bad2 c d
theorem Fw.nil : Fw [] := ⟨by simp, by simp⟩
theorem Fw.snoc {l : List Cl} (h : Fw l) {c : Cl} (ho : okO c.o) (hg : ∀ j, j < l.length → ¬ bad2 c (nth l j)) : Fw (l ++ [c]) := by
  have hg' : ∀ d ∈ l, ¬ bad2 c d := fun d hd => by
    obtain ⟨j, hj, rfl⟩ := List.getElem_of_mem hd
    rw [← nth_eq hj]; exact hg j hj
  refine ⟨fun d hd => ?_, fun d hd e he => ?_⟩
  · rcases List.mem_append.1 hd with h1 | h1
    · exact h.ok d h1
    · simp at h1; subst h1; exact ho
  · rcases List.mem_append.1 hd with h1 | h1 <;> rcases List.mem_append.1 he with h2 | h2
    · exact h.good d h1 e h2
    · simp at h2; subst h2; exact fun hb => hg' d h1 (bad2_symm hb)
    · simp at h1; subst h1; exact hg' e h2
    · simp at h1 h2; subst h1; subst h2; exact bad2_self _

theorem top_of : ∀ {l : List Cl}, l ≠ [] → ∃ c ∈ l, ∀ d ∈ l, d.place ≤ c.place
  | [c], _ => ⟨c, by simp, by simp⟩
  | c :: d :: r, _ => by
    obtain ⟨m, hm, h⟩ := top_of (l := d :: r) (by simp)
    by_cases e : m.place ≤ c.place
    · refine ⟨c, by simp, fun x hx => ?_⟩
      rcases List.mem_cons.1 hx with rfl | hx
      · exact Int.le_refl _
      · exact Int.le_trans (h x hx) e
    · refine ⟨m, List.mem_cons_of_mem _ hm, fun x hx => ?_⟩
      rcases List.mem_cons.1 hx with rfl | hx
      · omega
      · exact h x hx
theorem served_fix (l : List Cl) : pass l (alls l) (served l (alls l)) = served l (alls l) := by
  rcases passes_grow (l := l) (all := alls l) ((alls l).length + 1) with ⟨j, hj, hf⟩ | hc
  · rw [← passes_end hf]; exact hf
  · have := passes_len l (alls l) ((alls l).length + 1); omega
theorem pass_each {l : List Cl} : ∀ {all s : List Owner}, all.foldl (serve1 l) s = s → ∀ o ∈ all, o ∈ s ∨ rdy l s o = false
  | [], s, _, o, ho => by simp at ho
  | a :: r, s, h, o, ho => by
    simp only [List.foldl_cons] at h
    have h1 := serve1_len l s a
    have h2 := foldl_len l r (serve1 l s a)
    rw [h] at h2
    have h3 : serve1 l s a = s := serve1_same (by omega)
    rw [h3] at h
    rcases List.mem_cons.1 ho with rfl | ho
    · unfold serve1 at h3
      by_cases hc : o ∈ s ∨ rdy l s o = false
      · exact hc
      · rw [if_neg hc] at h3; have := congrArg List.length h3; simp at this
    · exact pass_each h o ho
/-- A claim that waits for what one who is not served holds. -/
def blocked (l : List Cl) (s : List Owner) (c : Cl) : Bool := !c.held && l.any fun d => d.held && decide (d.place = c.place) && decide (d.o ≠ c.o) && !decide (d.o ∈ s)
theorem blocked_of {l : List Cl} {s : List Owner} {o : Owner} (h : rdy l s o = false) : ∃ c ∈ l, c.o = o ∧ blocked l s c = true := by
  unfold rdy at h
  rw [List.all_eq_false] at h
  obtain ⟨c, hc, h⟩ := h
  rw [Bool.not_eq_true, Bool.or_eq_false_iff, Bool.not_eq_false', Bool.and_eq_true, decide_eq_true_eq, Bool.not_eq_true', List.all_eq_false] at h
  obtain ⟨⟨h1, h2⟩, d, hd, h3⟩ := h
  refine ⟨c, hc, h1, ?_⟩
  unfold blocked
  rw [h2]
  simp only [Bool.not_false, Bool.true_and, List.any_eq_true]
  refine ⟨d, hd, ?_⟩
  rw [Bool.not_eq_true, Bool.or_eq_false_iff, Bool.not_eq_false', Bool.and_eq_true, Bool.and_eq_true, decide_eq_true_eq, decide_eq_true_eq, decide_eq_false_iff_not] at h3
  simp only [Bool.and_eq_true, decide_eq_true_eq, Bool.not_eq_true', decide_eq_false_iff_not]
  rw [h1]
  grind
theorem stuck_none {l : List Cl} (h : Fw l) : stuckOf l = [] := by
  unfold stuckOf
  rw [List.filter_eq_nil_iff]
  intro o ho hn
  have hn : o ∉ served l (alls l) := by simpa using hn
  have hE := pass_each (served_fix l)
  obtain ⟨c, hc, hco, hb⟩ := blocked_of ((hE o ho).resolve_left hn)
  have hne : l.filter (blocked l (served l (alls l))) ≠ [] := fun e => by
    have : c ∈ l.filter (blocked l (served l (alls l))) := List.mem_filter.2 ⟨hc, hb⟩
    rw [e] at this; simp at this
  obtain ⟨m, hm, hmax⟩ := top_of hne
  obtain ⟨hml, hmb⟩ := List.mem_filter.1 hm
  have hmb' := hmb
  unfold blocked at hmb
  simp only [Bool.and_eq_true, Bool.not_eq_true', List.any_eq_true, decide_eq_true_eq, decide_eq_false_iff_not] at hmb
  obtain ⟨hmh, d, hd, ⟨⟨hdh, hdp⟩, hdo⟩, hds⟩ := hmb
  obtain ⟨c2, hc2, hco2, hb2⟩ := blocked_of ((hE d.o (alls_mem.2 ⟨d, hd, rfl⟩)).resolve_left hds)
  have h1 := hmax c2 (List.mem_filter.2 ⟨hc2, hb2⟩)
  have hh2 : c2.held = false := by
    unfold blocked at hb2; simp only [Bool.and_eq_true, Bool.not_eq_true'] at hb2; exact hb2.1
  exact h.good c2 hc2 d hd (.inr ⟨hco2, .inr ⟨hh2, hdh, by omega⟩⟩)
end Go.SL
