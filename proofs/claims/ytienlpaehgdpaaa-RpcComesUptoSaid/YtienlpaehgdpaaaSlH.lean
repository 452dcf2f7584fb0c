/- The walk's own words, part H: what is known of a heap, as a list of parts that lie apart. Conditions: none. -/
import Derived.Test.YtienlpaehgdpaaaSlG
set_option linter.unusedSimpArgs false
set_option linter.unusedVariables false
set_option linter.unusedSectionVars false
namespace Go.SL
open Go

abbrev Hp := Nat → Option Obj

def Hp.le (A B : Hp) : Prop := ∀ b o, A b = some o → B b = some o
def Hp.disj (A B : Hp) : Prop := ∀ b, A b = none ∨ B b = none

theorem Hp.le_refl (A : Hp) : A.le A := fun _ _ h => h
theorem Hp.le_trans {A B C : Hp} (h : A.le B) (h' : B.le C) : A.le C := fun b o e => h' b o (h b o e)
theorem Hp.disj_mono {A A' B B' : Hp} (h : A'.disj B') (ha : A.le A') (hb : B.le B') : A.disj B := by
  intro b
  rcases h b with e | e
  · cases hA : A b with
    | none => exact .inl rfl
    | some o => rw [ha b o hA] at e; cases e
  · cases hB : B b with
    | none => exact .inr rfl
    | some o => rw [hb b o hB] at e; cases e
theorem Hp.disj_symm {A B : Hp} (h : A.disj B) : B.disj A := fun b => (h b).symm

/-- A part: what it says of memory that is shared and never written ('S'), and of memory that is its own ('H'). -/
structure Assn where
  holds : Hp → Hp → Prop
  mono : ∀ {S S' H H' : Hp}, S.le S' → H.le H' → holds S H → holds S' H'

def star : List Assn → Hp → Hp → Prop
  | [], _, _ => True
  | c :: cs, S, H => ∃ H1 H2 : Hp, H1.le H ∧ H2.le H ∧ H1.disj H2 ∧ c.holds S H1 ∧ star cs S H2

theorem star_mono : ∀ {cs : List Assn} {S S' H H' : Hp}, S.le S' → H.le H' → star cs S H → star cs S' H'
  | [], _, _, _, _, _, _, _ => trivial
  | c :: cs, S, S', H, H', hS, hH, ⟨H1, H2, h1, h2, hd, hc, hr⟩ =>
    ⟨H1, H2, Hp.le_trans h1 hH, Hp.le_trans h2 hH, hd, c.mono hS (Hp.le_refl _) hc, star_mono hS (Hp.le_refl _) hr⟩

def Sat (h : Heap) (cs : List Assn) : Prop := ∃ S H : Hp, S.le (fun b => h[b]?) ∧ H.le (fun b => h[b]?) ∧ S.disj H ∧ star cs S H

/-- One list of parts says all that another says. -/
def Imp (cs ds : List Assn) : Prop := ∀ S H, star cs S H → star ds S H

theorem Imp.refl (cs : List Assn) : Imp cs cs := fun _ _ h => h
theorem Imp.trans {a b c : List Assn} (h : Imp a b) (h' : Imp b c) : Imp a c := fun S H x => h' S H (h S H x)
theorem Imp.cons {c : Assn} {a b : List Assn} (h : Imp a b) : Imp (c :: a) (c :: b) := fun S H ⟨H1, H2, h1, h2, hd, hc, hr⟩ => ⟨H1, H2, h1, h2, hd, hc, h S H2 hr⟩
theorem Imp.drop {c : Assn} {a : List Assn} : Imp (c :: a) a := fun S H ⟨H1, H2, h1, h2, hd, hc, hr⟩ => star_mono (Hp.le_refl _) h2 hr
theorem Imp.nil (a : List Assn) : Imp a [] := fun _ _ _ => trivial

theorem Imp.swap {c d : Assn} {a : List Assn} : Imp (c :: d :: a) (d :: c :: a) := by
  rintro S H ⟨H1, H2, h1, h2, hd, hc, H3, H4, h3, h4, hd', hd2, hr⟩
  refine ⟨H3, fun b => (H1 b).or (H4 b), (Hp.le_trans h3 h2), ?_, ?_, hd2, H1, H4, ?_, ?_, ?_, hc, hr⟩
  · intro b o e
    cases h : H1 b with
    | some x => simp [h] at e; subst e; exact h1 b x h
    | none => simp [h] at e; exact h2 b o (h4 b o e)
  · intro b
    cases e3 : H3 b with
    | none => exact .inl rfl
    | some o =>
      right
      have e2 := h3 b o e3
      have e1 : H1 b = none := by rcases hd b with e | e; exact e; rw [e2] at e; cases e
      have e4 : H4 b = none := by rcases hd' b with e | e; (rw [e3] at e; cases e); exact e
      simp [e1, e4]
  · intro b o e; simp [e]
  · intro b o e
    have e2 := h4 b o e
    have e1 : H1 b = none := by rcases hd b with e' | e'; exact e'; rw [e2] at e'; cases e'
    simp [e1, e]
  · intro b
    cases e4 : H4 b with
    | none => exact .inr rfl
    | some o =>
      left
      have e2 := h4 b o e4
      rcases hd b with e' | e'; exact e'; rw [e2] at e'; cases e'

theorem Sat.imp {h : Heap} {cs ds : List Assn} (hs : Sat h cs) (hi : Imp cs ds) : Sat h ds := by
  obtain ⟨S, H, a, b, c, d⟩ := hs; exact ⟨S, H, a, b, c, hi _ _ d⟩

/-- A part is among them; the rest. -/
def Has (cs : List Assn) (c : Assn) (rest : List Assn) : Prop := Imp cs (c :: rest)

theorem Has.here {c : Assn} {r : List Assn} : Has (c :: r) c r := Imp.refl _
theorem Has.there {c d : Assn} {r r' : List Assn} (h : Has r c r') : Has (d :: r) c (d :: r') := (Imp.cons h).trans Imp.swap

/-- A part that speaks of shared memory alone. -/
def Assn.pers (c : Assn) : Prop := ∀ S H, c.holds S H → c.holds S (fun _ => none)

theorem Has.dup {c : Assn} {cs r : List Assn} (hp : c.pers) (h : Has cs c r) : Has cs c (c :: r) := by
  intro S H hs
  obtain ⟨H1, H2, h1, h2, hd, hc, hr⟩ := h S H hs
  refine ⟨fun _ => none, H, fun b o e => (by cases e), Hp.le_refl _, fun b => .inl rfl, hp _ _ hc, H1, H2, h1, h2, hd, hc, hr⟩

/-! ### Parts -/

def pt (b : Nat) (o : Obj) : Assn := ⟨fun _ H => H b = some o, fun _ hH h => hH _ _ h⟩
def ro (b : Nat) (o : Obj) : Assn := ⟨fun S _ => S b = some o, fun hS _ h => hS _ _ h⟩
def pur (p : Prop) : Assn := ⟨fun _ _ => p, fun _ _ h => h⟩
def ex {α : Type} (A : α → Assn) : Assn := ⟨fun S H => ∃ x, (A x).holds S H, fun hS hH ⟨x, h⟩ => ⟨x, (A x).mono hS hH h⟩⟩
def sep (cs : List Assn) : Assn := ⟨fun S H => star cs S H, fun hS hH h => star_mono hS hH h⟩

theorem ro_pers (b : Nat) (o : Obj) : (ro b o).pers := fun _ _ h => h
theorem pur_pers (p : Prop) : (pur p).pers := fun _ _ h => h
theorem ex_pers {α : Type} {A : α → Assn} (h : ∀ x, (A x).pers) : (ex A).pers := fun S H ⟨x, hx⟩ => ⟨x, h x S H hx⟩

theorem Imp.sep_out {cs r : List Assn} : Imp (sep cs :: r) (cs ++ r) := by
  induction cs generalizing r with
  | nil => exact Imp.drop
  | cons c cs ih =>
    rintro S H ⟨H1, H2, h1, h2, hd, ⟨H3, H4, h3, h4, hd', hc, hr⟩, hr2⟩
    have : star (sep cs :: r) S (fun b => (H4 b).or (H2 b)) := by
      refine ⟨H4, H2, fun b o e => (by simp [e]), fun b o e => ?_, Hp.disj_mono hd h4 (Hp.le_refl _), hr, hr2⟩
      have e4 : H4 b = none := by
        cases e4 : H4 b with
        | none => rfl
        | some x =>
          rcases hd b with e' | e'
          · rw [h4 b x e4] at e'; cases e'
          · rw [e] at e'; cases e'
      simp [e4, e]
    refine ⟨H3, _, (Hp.le_trans h3 h1), ?_, ?_, hc, ih S _ this⟩
    · intro b o e
      cases e4 : H4 b with
      | some x => simp [e4] at e; subst e; exact h1 _ _ (h4 _ _ e4)
      | none => simp [e4] at e; exact h2 _ _ e
    · intro b
      cases e3 : H3 b with
      | none => exact .inl rfl
      | some x =>
        right
        have e4 : H4 b = none := by rcases hd' b with e | e; (rw [e3] at e; cases e); exact e
        have e2 : H2 b = none := by rcases hd b with e | e; (rw [h3 _ _ e3] at e; cases e); exact e
        simp [e4, e2]

theorem Imp.sep_in {cs r : List Assn} : Imp (cs ++ r) (sep cs :: r) := by
  induction cs generalizing r with
  | nil => intro S H h; exact ⟨fun _ => none, H, fun b o e => (by cases e), Hp.le_refl _, fun b => .inl rfl, trivial, h⟩
  | cons c cs ih =>
    rintro S H ⟨H1, H2, h1, h2, hd, hc, hr⟩
    obtain ⟨H3, H4, h3, h4, hd', hc', hr'⟩ := ih S H2 hr
    refine ⟨fun b => (H1 b).or (H3 b), H4, ?_, (Hp.le_trans h4 h2), ?_, ⟨H1, H3, fun b o e => (by simp [e]), ?_, ?_, hc, hc'⟩, hr'⟩
    · intro b o e
      cases e1 : H1 b with
      | some x => simp [e1] at e; subst e; exact h1 _ _ e1
      | none => simp [e1] at e; exact h2 _ _ (h3 _ _ e)
    · intro b
      cases e4 : H4 b with
      | none => exact .inr rfl
      | some x =>
        left
        have e1 : H1 b = none := by rcases hd b with e | e; exact e; rw [h4 _ _ e4] at e; cases e
        have e3 : H3 b = none := by rcases hd' b with e | e; exact e; rw [e4] at e; cases e
        simp [e1, e3]
    · intro b o e
      have e1 : H1 b = none := by rcases hd b with e' | e'; exact e'; rw [h3 _ _ e] at e'; cases e'
      simp [e1, e]
    · exact Hp.disj_mono hd (Hp.le_refl _) h3

theorem Imp.pur_out {p : Prop} {r : List Assn} {S H : Hp} (h : star (pur p :: r) S H) : p := by obtain ⟨_, _, _, _, _, hp, _⟩ := h; exact hp
theorem Imp.pur_in {p : Prop} (hp : p) {r : List Assn} : Imp r (pur p :: r) := fun S H h => ⟨fun _ => none, H, fun b o e => (by cases e), Hp.le_refl _, fun b => .inl rfl, hp, h⟩
theorem Imp.ex_in {α : Type} {A : α → Assn} (x : α) {r : List Assn} : Imp (A x :: r) (ex A :: r) := fun S H ⟨H1, H2, h1, h2, hd, hc, hr⟩ => ⟨H1, H2, h1, h2, hd, ⟨x, hc⟩, hr⟩

/-! ### What becomes of them -/

theorem Sat.push {h : Heap} {cs : List Assn} (hs : Sat h cs) (o : Obj) : Sat (h.push o) (pt h.size o :: cs) := by
  obtain ⟨S, H, hS, hH, hd, hr⟩ := hs
  have hn : h[h.size]? = none := by simp
  have hHn : H h.size = none := by
    cases e : H h.size with
    | none => rfl
    | some x => have := hH _ _ e; simp at this
  have hSn : S h.size = none := by
    cases e : S h.size with
    | none => rfl
    | some x => have := hS _ _ e; simp at this
  refine ⟨S, fun b => if b = h.size then some o else H b, fun b x e => get_push_lt (hS b x e), fun b x e => ?_, fun b => ?_, fun b => if b = h.size then some o else none, H, fun b x e => ?_, fun b x e => ?_, fun b => ?_, by simp [pt], hr⟩
  · simp only [] at e
    split at e
    · rename_i hb; subst hb; cases e; simp
    · exact get_push_lt (hH b x e)
  · by_cases hb : b = h.size
    · subst hb; exact .inl hSn
    · simp [hb]; exact hd b
  · simp only [] at e
    split at e
    · rename_i hb; cases e; simp [hb]
    · cases e
  · have : b ≠ h.size := fun hb => by subst hb; rw [hHn] at e; cases e
    simp [this, e]
  · by_cases hb : b = h.size
    · subst hb; exact .inr hHn
    · simp [hb]

theorem Sat.get {h : Heap} {b : Nat} {o : Obj} {cs : List Assn} (hs : Sat h (pt b o :: cs)) : h[b]? = some o := by
  obtain ⟨S, H, hS, hH, hd, H1, H2, h1, h2, hd', hc, hr⟩ := hs
  exact hH _ _ (h1 _ _ hc)

theorem Sat.getRo {h : Heap} {b : Nat} {o : Obj} {cs : List Assn} (hs : Sat h (ro b o :: cs)) : h[b]? = some o := by
  obtain ⟨S, H, hS, hH, hd, H1, H2, h1, h2, hd', hc, hr⟩ := hs
  exact hS _ _ hc

theorem Sat.set {h h' : Heap} {b : Nat} {o o' : Obj} {cs : List Assn} (hs : Sat h (pt b o :: cs)) (h1 : h'[b]? = some o') (h2 : ∀ k, k ≠ b → h'[k]? = h[k]?) : Sat h' (pt b o' :: cs) := by
  obtain ⟨S, H, hS, hH, hd, H1, H2, l1, l2, hd', hc, hr⟩ := hs
  have hHb : H b = some o := l1 _ _ hc
  have hSb : S b = none := by rcases hd b with e | e; exact e; rw [hHb] at e; cases e
  have hH2b : H2 b = none := by rcases hd' b with e | e; (rw [show H1 b = some o from hc] at e; cases e); exact e
  refine ⟨S, fun k => if k = b then some o' else H k, fun k x e => ?_, fun k x e => ?_, fun k => ?_, fun k => if k = b then some o' else none, H2, fun k x e => ?_, fun k x e => ?_, fun k => ?_, by simp [pt], hr⟩
  · have hk : k ≠ b := fun hk => by subst hk; rw [hSb] at e; cases e
    simp only []; rw [h2 k hk]; exact hS k x e
  · simp only [] at e
    split at e
    · rename_i hk; subst hk; cases e; exact h1
    · rename_i hk; simp only []; rw [h2 k hk]; exact hH k x e
  · by_cases hk : k = b
    · subst hk; exact .inl hSb
    · simp [hk]; exact hd k
  · simp only [] at e
    split at e
    · rename_i hk; cases e; simp [hk]
    · cases e
  · have hk : k ≠ b := fun hk => by subst hk; rw [hH2b] at e; cases e
    simp [hk]; exact l2 k x e
  · by_cases hk : k = b
    · subst hk; exact .inr hH2b
    · simp [hk]

/-- A block that is never written again. -/
theorem Sat.freeze {h : Heap} {b : Nat} {o : Obj} {cs : List Assn} (hs : Sat h (pt b o :: cs)) : Sat h (ro b o :: cs) := by
  obtain ⟨S, H, hS, hH, hd, H1, H2, l1, l2, hd', hc, hr⟩ := hs
  have hHb : H b = some o := l1 _ _ hc
  have hH2b : H2 b = none := by rcases hd' b with e | e; (rw [show H1 b = some o from hc] at e; cases e); exact e
  refine ⟨fun k => if k = b then some o else S k, fun k => if k = b then none else H k, fun k x e => ?_, fun k x e => ?_, fun k => ?_, fun _ => none, H2, fun k x e => (by cases e), fun k x e => ?_, fun k => .inl rfl, by simp [ro], star_mono ?_ (Hp.le_refl _) hr⟩
  · simp only [] at e
    split at e
    · rename_i hk; subst hk; cases e; exact hH _ _ hHb
    · exact hS k x e
  · simp only [] at e
    split at e
    · cases e
    · exact hH k x e
  · by_cases hk : k = b
    · simp [hk]
    · simp [hk]; exact hd k
  · have hk : k ≠ b := fun hk => by subst hk; rw [hH2b] at e; cases e
    simp [hk]; exact l2 k x e
  · intro k x e
    have hk : k ≠ b := fun hk => by
      subst hk
      rcases hd k with e' | e'
      · rw [e] at e'; cases e'
      · rw [hHb] at e'; cases e'
    simp [hk, e]

/-- All that lies in memory at the start, never written. -/
def old (h0 : Heap) : Assn := ⟨fun S _ => ∀ b o, h0[b]? = some o → S b = some o, fun hS _ h b o e => hS _ _ (h b o e)⟩
theorem old_pers (h0 : Heap) : (old h0).pers := fun _ _ h => h
theorem Sat.start (h : Heap) : Sat h [old h] := ⟨fun b => h[b]?, fun _ => none, Hp.le_refl _, fun b o e => (by cases e), fun b => .inr rfl, fun _ => none, fun _ => none, Hp.le_refl _, Hp.le_refl _, fun b => .inl rfl, fun b o e => e, trivial⟩
theorem Sat.getOld {h h0 : Heap} {cs : List Assn} (hs : Sat h (old h0 :: cs)) {b : Nat} {o : Obj} (hb : h0[b]? = some o) : h[b]? = some o := by
  obtain ⟨S, H, hS, hH, hd, H1, H2, h1, h2, hd', hc, hr⟩ := hs
  exact hS _ _ (hc b o hb)
theorem old_ro {h0 : Heap} {b : Nat} {o : Obj} (hb : h0[b]? = some o) {cs : List Assn} : Imp (old h0 :: cs) (ro b o :: old h0 :: cs) := by
  rintro S H ⟨H1, H2, h1, h2, hd, hc, hr⟩
  exact ⟨fun _ => none, H, fun b o e => (by cases e), Hp.le_refl _, fun b => .inl rfl, hc b o hb, H1, H2, h1, h2, hd, hc, hr⟩

end Go.SL
