/- Layer 8: all records, in order (plain Lean). Conditions: none. -/
import Derived.Test.YtmeajliiloaegaaGreatVa
import Derived.Test.YtmeajliiloaegaaGreatKg
import Derived.Sort.Statements
set_option linter.unusedSimpArgs false
set_option linter.unusedVariables false
namespace Go.SL
open Go

/-- A record as it lies in a row of them. -/
structure RecE where
  s : RecS
  a : Option Addr
  c : Nat
  ok : vecG s.w
def recEC (x : RecE) : List Value := rsC x.s x.a x.c
instance : Inhabited RecE := ⟨⟨RecS.zero, none, 0, by decide⟩⟩
theorem recEC_one : ∀ o : RecE, (recEC o).length = 16 ∧ ∀ v ∈ recEC o, isOne v = true := by intro o; simp [recEC, rsC, isOne]
abbrev waitsO (x : RecE) : Assn := SlT false ownerC 2 (.slice x.a x.s.waits.length x.c) x.c x.s.waits
/-- What waits for the records of a row. -/
def WaitsA (xs : List RecE) : Assn := sep (xs.map waitsO)
theorem sep_perm {l m : List Assn} (h : l.Perm m) : ∀ {r : List Assn}, Imp (l ++ r) (m ++ r) := by
  induction h with
  | nil => exact Imp.refl _
  | cons x _ ih => exact Imp.cons ih
  | swap x y l => exact Imp.swap
  | trans _ _ ih1 ih2 => exact Imp.trans ih1 ih2
theorem WaitsA.perm {xs ys : List RecE} (h : xs.Perm ys) {r : List Assn} : Imp (WaitsA xs :: r) (WaitsA ys :: r) :=
  Imp.trans Imp.sep_out (Imp.trans (sep_perm (h.map _)) Imp.sep_in)
theorem WaitsA.nil {r : List Assn} : Imp r (WaitsA [] :: r) := Imp.sep_in (cs := [])
theorem WaitsA.snoc {xs : List RecE} {x : RecE} {r : List Assn} : Imp (waitsO x :: WaitsA xs :: r) (WaitsA (xs ++ [x]) :: r) := by
  have := sep_push (c := waitsO x) (A := xs.map waitsO) (B := []) (r := r)
  unfold WaitsA; rw [List.map_append]; simpa using this
theorem sep_pers {l : List Assn} (h : ∀ c ∈ l, c.pers) : (sep l).pers := by
  induction l with
  | nil => intro S H _; trivial
  | cons c l ih =>
    rintro S H ⟨H1, H2, h1, h2, hd, hc, hr⟩
    have a1 := h c (by simp) S H1 hc
    have a2 := ih (fun c hc => h c (by simp [hc])) S H2 hr
    exact ⟨fun _ => none, fun _ => none, Hp.le_refl _, Hp.le_refl _, fun b => Or.inl rfl, a1, a2⟩
theorem WaitsA.pers (xs : List RecE) : (WaitsA xs).pers := sep_pers fun c hc => by
  obtain ⟨x, _, rfl⟩ := List.mem_map.1 hc
  exact SlT_pers _ _ _ _ _
/-- One of them, read. -/
theorem WaitsA.get {xs : List RecE} {i : Nat} (h : i < xs.length) {r : List Assn} : Imp (WaitsA xs :: r) (waitsO (nth xs i) :: WaitsA xs :: r) := by
  have h1 : Has (WaitsA xs :: r) (WaitsA xs) (WaitsA xs :: r) := Has.dup (WaitsA.pers xs) Has.here
  refine Imp.trans h1 ?_
  obtain ⟨A, B, e, _, _⟩ := eraseIdx_split (List.getElem?_eq_getElem h)
  rw [← nth_eq h] at e
  have h2 : Imp (WaitsA xs :: WaitsA xs :: r) (waitsO (nth xs i) :: sep (A.map waitsO ++ B.map waitsO) :: WaitsA xs :: r) := by
    conv => lhs; arg 1; rw [WaitsA, e, List.map_append, List.map_cons]
    exact sep_pull
  exact Imp.trans h2 (Imp.cons Imp.drop)

/-- A record that is told: of an end no record that is as at first. -/
def LK.sel (l : LK) (x : Vec × RecA) : Bool := !decide l.isEnd || !decide (x.2.state x.1 = l.first.state x.1)
def LK.allS (l : LK) : List RecS := (l.m.filter l.sel).map fun x => x.2.state x.1
theorem nodup_lt2 : ∀ {n : Nat} {d : List Nat}, d.Nodup → (∀ i ∈ d, i < n) → d.length ≤ n
  | 0, d, _, h => by
    rcases d with _ | ⟨x, r⟩
    · simp
    · have := h x (by simp); omega
  | n + 1, d, hd, h => by
    have h1 := nodup_lt2 (n := n) (d := d.erase n) (hd.erase n) (fun i hi => by
      have := h i (List.mem_of_mem_erase hi)
      have : i ≠ n := fun e => by subst e; exact absurd hi (by simp [hd.mem_erase_iff])
      omega)
    have := List.length_erase (l := d) (a := n)
    split at this <;> omega
/-- The places of a row, gone through in whatever order. -/
theorem visit_perm {α : Type} [Inhabited α] {m : List α} {d : List Nat} (hn : d.Nodup) (hl : ∀ i ∈ d, i < m.length) (ha : ∀ i, i < m.length → i ∈ d) : (d.map (nth m)).Perm m := by
  have h1 : d.Perm (List.range m.length) := by
    rw [List.perm_ext_iff_of_nodup hn List.nodup_range]
    intro i; rw [List.mem_range]; exact ⟨hl i, ha i⟩
  have h2 := h1.map (nth m)
  have e : (List.range m.length).map (nth m) = m := by
    apply List.ext_getElem?
    intro i
    rw [List.getElem?_map]
    rcases Nat.lt_or_ge i m.length with h | h
    · rw [List.getElem?_range h, List.getElem?_eq_getElem h, Option.map_some, nth_eq h]
    · rw [List.getElem?_eq_none (by simpa using h), List.getElem?_eq_none h]; rfl
  rwa [e] at h2
end Go.SL
