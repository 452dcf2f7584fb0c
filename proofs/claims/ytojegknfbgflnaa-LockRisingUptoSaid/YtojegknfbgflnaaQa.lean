/- Who is stuck (plain Lean). Conditions: none. -/
import Derived.Test.YtojegknfbgflnaaKg
import Derived.Sort.Statements
set_option linter.unusedSimpArgs false
set_option linter.unusedVariables false
namespace Go.SL
open Go

structure Cl where
  o : Owner
  place : Int
  held : Bool
  deriving DecidableEq, Inhabited
def clC (x : Cl) : List Value := [i64 x.o.agent, i64 x.o.op, i64 x.place, .bool x.held]
theorem clC_one : ∀ o : Cl, (clC o).length = 4 ∧ ∀ v ∈ clC o, isOne v = true := by intro o; simp [clC, isOne]

/-! ### Owners in order -/
def ocmp (a b : Owner) : Int := if icmp a.agent b.agent ≠ 0 then icmp a.agent b.agent else icmp a.op b.op
def olt (a b : Owner) : Prop := a.agent < b.agent ∨ a.agent = b.agent ∧ a.op < b.op
instance (a b : Owner) : Decidable (olt a b) := by unfold olt; infer_instance
theorem ocmp_lt (a b : Owner) : (ocmp a b < 0) = olt a b := by unfold ocmp icmp olt; grind
theorem olt_irrefl (a : Owner) : ¬ olt a a := by unfold olt; omega
theorem olt_trans {a b c : Owner} (h : olt a b) (h' : olt b c) : olt a c := by unfold olt at *; omega
theorem olt_total (a b : Owner) : olt a b ∨ a = b ∨ olt b a := by
  obtain ⟨x, y⟩ := a; obtain ⟨x', y'⟩ := b
  simp only [olt, Owner.mk.injEq]; omega
theorem olt_asymm {a b : Owner} (h : olt a b) : ¬ olt b a := fun h' => olt_irrefl a (olt_trans h h')

def rising (l : List Owner) : Prop := l.Pairwise olt
/-- A rising row is known by what it holds. -/
theorem rising_ext : ∀ {l m : List Owner}, rising l → rising m → (∀ x, x ∈ l ↔ x ∈ m) → l = m
  | [], [], _, _, _ => rfl
  | [], b :: m, _, _, h => by have := (h b).2 (by simp); simp at this
  | a :: l, [], _, _, h => by have := (h a).1 (by simp); simp at this
  | a :: l, b :: m, hl, hm, h => by
    rw [rising, List.pairwise_cons] at hl hm
    have hab : a = b := by
      rcases olt_total a b with h1 | h1 | h1
      · exfalso
        rcases List.mem_cons.1 ((h a).1 (by simp)) with h2 | h2
        · rw [h2] at h1; exact olt_irrefl _ h1
        · exact olt_asymm h1 (hm.1 a h2)
      · exact h1
      · exfalso
        rcases List.mem_cons.1 ((h b).2 (by simp)) with h2 | h2
        · rw [h2] at h1; exact olt_irrefl _ h1
        · exact olt_asymm h1 (hl.1 b h2)
    subst hab
    have : l = m := rising_ext hl.2 hm.2 fun x => by
      constructor
      · intro hx
        rcases List.mem_cons.1 ((h x).1 (List.mem_cons_of_mem _ hx)) with h2 | h2
        · rw [h2] at hx; exact absurd (hl.1 a hx) (olt_irrefl a)
        · exact h2
      · intro hx
        rcases List.mem_cons.1 ((h x).2 (List.mem_cons_of_mem _ hx)) with h2 | h2
        · rw [h2] at hx; exact absurd (hm.1 a hx) (olt_irrefl a)
        · exact h2
    rw [this]

/-- An owner into a rising row, once. -/
def oput : List Owner → Owner → List Owner
  | [], o => [o]
  | x :: r, o => if olt x o then x :: oput r o else if x = o then x :: r else o :: x :: r
theorem oput_mem {l : List Owner} {o x : Owner} : x ∈ oput l o ↔ x = o ∨ x ∈ l := by
  induction l with
  | nil => simp [oput]
  | cons y r ih =>
    unfold oput
    split
    · simp only [List.mem_cons, ih]; grind
    · split
      · rename_i h; subst h; simp
      · simp
theorem oput_rising {l : List Owner} {o : Owner} (h : rising l) : rising (oput l o) := by
  induction l with
  | nil => simp [oput, rising]
  | cons y r ih =>
    rw [rising, List.pairwise_cons] at h
    unfold oput
    split
    · rename_i hy
      rw [rising, List.pairwise_cons]
      refine ⟨fun x hx => ?_, ih h.2⟩
      rcases oput_mem.1 hx with rfl | hx
      · exact hy
      · exact h.1 x hx
    · rename_i hy
      split
      · exact List.pairwise_cons.2 h
      · rename_i hne
        rw [rising, List.pairwise_cons]
        have hoy : olt o y := by
          rcases olt_total y o with h1 | h1 | h1
          · exact absurd h1 hy
          · exact absurd h1 hne
          · exact h1
        refine ⟨fun x hx => ?_, List.pairwise_cons.2 h⟩
        rcases List.mem_cons.1 hx with rfl | hx
        · exact hoy
        · exact olt_trans hoy (h.1 x hx)
/-- All owners, each once, in order. -/
def alls (l : List Cl) : List Owner := (l.map (·.o)).foldl oput []
theorem foldl_oput {xs acc : List Owner} (h : rising acc) : rising (xs.foldl oput acc) ∧ ∀ x, x ∈ xs.foldl oput acc ↔ x ∈ xs ∨ x ∈ acc := by
  induction xs generalizing acc with
  | nil => simp [h]
  | cons y r ih =>
    obtain ⟨h1, h2⟩ := ih (oput_rising (o := y) h)
    refine ⟨h1, fun x => ?_⟩
    simp only [List.foldl_cons, h2, oput_mem, List.mem_cons]; grind
theorem alls_rising (l : List Cl) : rising (alls l) := (foldl_oput (by simp [rising])).1
theorem alls_mem {l : List Cl} {x : Owner} : x ∈ alls l ↔ ∃ c ∈ l, c.o = x := by
  unfold alls; rw [(foldl_oput (by simp [rising])).2]; simp
theorem rising_nodup {l : List Owner} (h : rising l) : l.Nodup := by
  refine List.Pairwise.imp ?_ h
  intro a b hab e; subst e; exact olt_irrefl _ hab

/-- A row without what stands behind its like. -/
def dedup : List Owner → List Owner
  | [] => []
  | [x] => [x]
  | x :: y :: r => if x = y then dedup (y :: r) else x :: dedup (y :: r)

/-! ### Who is served -/
def rdy (l : List Cl) (s : List Owner) (o : Owner) : Bool := l.all fun c => !(decide (c.o = o) && !c.held) || l.all fun d => !(d.held && decide (d.place = c.place) && decide (d.o ≠ o)) || decide (d.o ∈ s)
def serve1 (l : List Cl) (s : List Owner) (o : Owner) : List Owner := if o ∈ s ∨ rdy l s o = false then s else s ++ [o]
def pass (l : List Cl) (all s : List Owner) : List Owner := all.foldl (serve1 l) s
theorem serve1_len (l : List Cl) (s : List Owner) (o : Owner) : s.length ≤ (serve1 l s o).length := by unfold serve1; split <;> simp
theorem serve1_same {l : List Cl} {s : List Owner} {o : Owner} (h : (serve1 l s o).length = s.length) : serve1 l s o = s := by
  unfold serve1 at h ⊢; split
  · rfl
  · rename_i hc; rw [if_neg hc] at h; simp at h
theorem foldl_len (l : List Cl) : ∀ (all s : List Owner), s.length ≤ (all.foldl (serve1 l) s).length
  | [], s => Nat.le_refl _
  | o :: r, s => Nat.le_trans (serve1_len l s o) (foldl_len l r _)
theorem foldl_same {l : List Cl} : ∀ {all s : List Owner}, (all.foldl (serve1 l) s).length = s.length → all.foldl (serve1 l) s = s
  | [], s, _ => rfl
  | o :: r, s, h => by
    simp only [List.foldl_cons] at h ⊢
    have h1 := serve1_len l s o
    have h2 := foldl_len l r (serve1 l s o)
    have h3 : serve1 l s o = s := serve1_same (by omega)
    rw [h3] at h ⊢
    exact foldl_same h
theorem serve1_ok {l : List Cl} {all s : List Owner} {o : Owner} (ho : o ∈ all) (h : s.Nodup ∧ ∀ x ∈ s, x ∈ all) : (serve1 l s o).Nodup ∧ ∀ x ∈ serve1 l s o, x ∈ all := by
  unfold serve1
  split
  · exact h
  · rename_i hc
    have hn : o ∉ s := fun hm => hc (.inl hm)
    refine ⟨by rw [List.nodup_append]; refine ⟨h.1, by simp, fun a ha b hb => ?_⟩; simp at hb; subst hb; intro e; subst e; exact hn ha, fun x hx => ?_⟩
    rcases List.mem_append.1 hx with hx | hx
    · exact h.2 x hx
    · simp at hx; subst hx; exact ho
theorem foldl_ok {l : List Cl} {all : List Owner} : ∀ {xs s : List Owner}, (∀ x ∈ xs, x ∈ all) → (s.Nodup ∧ ∀ x ∈ s, x ∈ all) → (xs.foldl (serve1 l) s).Nodup ∧ ∀ x ∈ xs.foldl (serve1 l) s, x ∈ all
  | [], s, _, h => h
  | o :: r, s, hx, h => foldl_ok (xs := r) (fun x hx2 => hx x (List.mem_cons_of_mem _ hx2)) (serve1_ok (hx o List.mem_cons_self) h)
def passes (l : List Cl) (all : List Owner) : Nat → List Owner
  | 0 => []
  | k + 1 => pass l all (passes l all k)
theorem passes_ok (l : List Cl) (all : List Owner) (k : Nat) : (passes l all k).Nodup ∧ ∀ x ∈ passes l all k, x ∈ all := by
  induction k with
  | zero => simp [passes]
  | succ k ih => exact foldl_ok (fun x hx => hx) ih
theorem nodup_sub_len {s all : List Owner} (h : s.Nodup) (hs : ∀ x ∈ s, x ∈ all) : s.length ≤ all.length := by
  induction s generalizing all with
  | nil => simp
  | cons a s ih =>
    rw [List.nodup_cons] at h
    have ha := hs a (by simp)
    have := ih (all := all.erase a) h.2 fun x hx => by
      have hne : x ≠ a := fun e => by subst e; exact h.1 hx
      exact (List.mem_erase_of_ne hne).2 (hs x (by simp [hx]))
    rw [List.length_erase_of_mem ha] at this
    have hp : 0 < all.length := List.length_pos_of_mem ha
    simp only [List.length_cons]; omega
theorem passes_len (l : List Cl) (all : List Owner) (k : Nat) : (passes l all k).length ≤ all.length := nodup_sub_len (passes_ok l all k).1 (passes_ok l all k).2
theorem passes_fix {l : List Cl} {all : List Owner} {k : Nat} (h : pass l all (passes l all k) = passes l all k) : ∀ m, k ≤ m → passes l all m = passes l all k := by
  intro m hm
  induction m with
  | zero => have : k = 0 := by omega
            subst this; rfl
  | succ m ih =>
    rcases Nat.lt_or_ge m k with hlt | hge
    · have : m + 1 = k := by omega
      rw [this]
    · rw [passes, ih hge, h]
theorem passes_grow {l : List Cl} {all : List Owner} : ∀ k, (∃ j, j < k ∧ pass l all (passes l all j) = passes l all j) ∨ k ≤ (passes l all k).length
  | 0 => .inr (Nat.zero_le _)
  | k + 1 => by
    rcases passes_grow (l := l) (all := all) k with ⟨j, hj, h⟩ | h
    · exact .inl ⟨j, by omega, h⟩
    · have h1 : (passes l all k).length ≤ (passes l all (k + 1)).length := foldl_len l all (passes l all k)
      rcases Nat.eq_or_lt_of_le h1 with h2 | h2
      · exact .inl ⟨k, by omega, foldl_same h2.symm⟩
      · exact .inr (by omega)
/-- All that are to be served. -/
def served (l : List Cl) (all : List Owner) : List Owner := passes l all (all.length + 1)
theorem passes_end {l : List Cl} {all : List Owner} {k : Nat} (h : pass l all (passes l all k) = passes l all k) : passes l all k = served l all := by
  rcases Nat.lt_or_ge (all.length + 1) k with hlt | hge
  · rcases passes_grow (l := l) (all := all) (all.length + 1) with ⟨j, hj, hf⟩ | hc
    · rw [served, passes_fix hf _ (Nat.le_of_lt hj), passes_fix hf k (by omega)]
    · have := passes_len l all (all.length + 1); omega
  · exact (passes_fix h _ hge).symm
def stuckOf (l : List Cl) : List Owner := (alls l).filter fun o => decide (o ∉ served l (alls l))
end Go.SL
