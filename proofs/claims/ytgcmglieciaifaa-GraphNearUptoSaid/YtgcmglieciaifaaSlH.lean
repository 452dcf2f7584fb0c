/- The walk's own words, part H: what is known of a heap, as a list of parts that lie apart. Conditions: none. -/
import Derived.Test.YtgcmglieciaifaaSlD
set_option linter.unusedSimpArgs false
set_option linter.unusedVariables false
set_option linter.unusedSectionVars false
namespace Go.SL
open Go

abbrev Hp := Nat → Option Obj

def Hp.le (A B : Hp) : Prop := ∀ b o, A b = some o → B b = some o
def Hp.disj (A B : Hp) : Prop := ∀ b, A b = none ∨ B b = none

theorem Hp.le_refl (A : Hp) : A.le A := fun _ _ h => h
theorem Hp.le_trans {A B C : Hp} (h : A.le B) (h' : B.le C) : A.le C := fun b o e => h' b o (h b o e)
theorem Hp.disj_mono {A A' B B' : Hp} (h : A'.disj B') (ha : A.le A') (hb : B.le B') : A.disj B := by
  intro b
  rcases h b with e | e
  · cases hA : A b with
    | none => exact .inl rfl
    | some o => rw [ha b o hA] at e; cases e
  · cases hB : B b with
    | none => exact .inr rfl
    | some o => rw [hb b o hB] at e; cases e
theorem Hp.disj_symm {A B : Hp} (h : A.disj B) : B.disj A := fun b => (h b).symm

/-- A part: what it says of memory that is shared and never written ('S'), and of memory that is its own ('H'). -/
structure Assn where
  holds : Hp → Hp → Prop
  mono : ∀ {S S' H H' : Hp}, S.le S' → H.le H' → holds S H → holds S' H'

def star : List Assn → Hp → Hp → Prop
  | [], _, _ => True
  | c :: cs, S, H => ∃ H1 H2 : Hp, H1.le H ∧ H2.le H ∧ H1.disj H2 ∧ c.holds S H1 ∧ star cs S H2

theorem star_mono : ∀ {cs : List Assn} {S S' H H' : Hp}, S.le S' → H.le H' → star cs S H → star cs S' H'
  | [], _, _, _, _, _, _, _ => trivial
  | c :: cs, S, S', H, H', hS, hH, ⟨H1, H2, h1, h2, hd, hc, hr⟩ =>
    ⟨H1, H2, Hp.le_trans h1 hH, Hp.le_trans h2 hH, hd, c.mono hS (Hp.le_refl _) hc, star_mono hS (Hp.le_refl _) hr⟩

/-- Memory, but for the blocks of deferred calls. -/
def vis : Obj → Bool
  | .deferred _ => false
  | _ => true
def hv (h : Heap) : Hp := fun b => match h[b]? with
  | some o => bif vis o then some o else none
  | none => none
theorem hv_iff {h : Heap} {b : Nat} {o : Obj} : hv h b = some o ↔ h[b]? = some o ∧ vis o = true := by
  unfold hv
  cases e : h[b]? with
  | none => simp
  | some x =>
    simp only [Option.some.injEq]
    cases ev : vis x with
    | false =>
      simp only [cond_false]
      constructor
      · intro h; cases h
      · rintro ⟨rfl, h2⟩; rw [ev] at h2; cases h2
    | true =>
      simp only [cond_true, Option.some.injEq]
      constructor
      · rintro rfl; exact ⟨rfl, ev⟩
      · exact fun e => e.1
theorem hv_le (h : Heap) : (hv h).le (fun b => h[b]?) := fun b o e => (hv_iff.1 e).1
def Sat (h : Heap) (cs : List Assn) : Prop := ∃ S H : Hp, S.le (hv h) ∧ H.le (hv h) ∧ S.disj H ∧ star cs S H

/-- One list of parts says all that another says. -/
def Imp (cs ds : List Assn) : Prop := ∀ S H, star cs S H → star ds S H

theorem Imp.refl (cs : List Assn) : Imp cs cs := fun _ _ h => h
theorem Imp.trans {a b c : List Assn} (h : Imp a b) (h' : Imp b c) : Imp a c := fun S H x => h' S H (h S H x)
theorem Imp.cons {c : Assn} {a b : List Assn} (h : Imp a b) : Imp (c :: a) (c :: b) := fun S H ⟨H1, H2, h1, h2, hd, hc, hr⟩ => ⟨H1, H2, h1, h2, hd, hc, h S H2 hr⟩
theorem Imp.drop {c : Assn} {a : List Assn} : Imp (c :: a) a := fun S H ⟨H1, H2, h1, h2, hd, hc, hr⟩ => star_mono (Hp.le_refl _) h2 hr
theorem Imp.nil (a : List Assn) : Imp a [] := fun _ _ _ => trivial

theorem Imp.swap {c d : Assn} {a : List Assn} : Imp (c :: d :: a) (d :: c :: a) := by
  rintro S H ⟨H1, H2, h1, h2, hd, hc, H3, H4, h3, h4, hd', hd2, hr⟩
  refine ⟨H3, fun b => (H1 b).or (H4 b), (Hp.le_trans h3 h2), ?_, ?_, hd2, H1, H4, ?_, ?_, ?_, hc, hr⟩
  · intro b o e
    cases h : H1 b with
    | some x => simp [h] at e; subst e; exact h1 b x h
    | none => simp [h] at e; exact h2 b o (h4 b o e)
  · intro b
    cases e3 : H3 b with
    | none => exact .inl rfl
    | some o =>
      right
      have e2 := h3 b o e3
      have e1 : H1 b = none := by rcases hd b with e | e; exact e; rw [e2] at e; cases e
      have e4 : H4 b = none := by rcases hd' b with e | e; (rw [e3] at e; cases e); exact e
      simp [e1, e4]
  · intro b o e; simp [e]
  · intro b o e
    have e2 := h4 b o e
    have e1 : H1 b = none := by rcases hd b with e' | e'; exact e'; rw [e2] at e'; cases e'
    simp [e1, e]
  · intro b
    cases e4 : H4 b with
    | none => exact .inr rfl
    | some o =>
      left
      have e2 := h4 b o e4
      rcases hd b with e' | e'; exact e'; rw [e2] at e'; cases e'

theorem Sat.imp {h : Heap} {cs ds : List Assn} (hs : Sat h cs) (hi : Imp cs ds) : Sat h ds := by
  obtain ⟨S, H, a, b, c, d⟩ := hs; exact ⟨S, H, a, b, c, hi _ _ d⟩

/-- A part is among them; the rest. -/
def Has (cs : List Assn) (c : Assn) (rest : List Assn) : Prop := Imp cs (c :: rest)

theorem Has.here {c : Assn} {r : List Assn} : Has (c :: r) c r := Imp.refl _
theorem Has.there {c d : Assn} {r r' : List Assn} (h : Has r c r') : Has (d :: r) c (d :: r') := (Imp.cons h).trans Imp.swap

/-- A part that speaks of shared memory alone. -/
def Assn.pers (c : Assn) : Prop := ∀ S H, c.holds S H → c.holds S (fun _ => none)

theorem Has.dup {c : Assn} {cs r : List Assn} (hp : c.pers) (h : Has cs c r) : Has cs c (c :: r) := by
  intro S H hs
  obtain ⟨H1, H2, h1, h2, hd, hc, hr⟩ := h S H hs
  refine ⟨fun _ => none, H, fun b o e => (by cases e), Hp.le_refl _, fun b => .inl rfl, hp _ _ hc, H1, H2, h1, h2, hd, hc, hr⟩

/-! ### Parts -/

def pt (b : Nat) (o : Obj) : Assn := ⟨fun _ H => H b = some o, fun _ hH h => hH _ _ h⟩
def ro (b : Nat) (o : Obj) : Assn := ⟨fun S _ => S b = some o, fun hS _ h => hS _ _ h⟩
def pur (p : Prop) : Assn := ⟨fun _ _ => p, fun _ _ h => h⟩
def ex {α : Type} (A : α → Assn) : Assn := ⟨fun S H => ∃ x, (A x).holds S H, fun hS hH ⟨x, h⟩ => ⟨x, (A x).mono hS hH h⟩⟩
def sep (cs : List Assn) : Assn := ⟨fun S H => star cs S H, fun hS hH h => star_mono hS hH h⟩

theorem ro_pers (b : Nat) (o : Obj) : (ro b o).pers := fun _ _ h => h
theorem pur_pers (p : Prop) : (pur p).pers := fun _ _ h => h
theorem ex_pers {α : Type} {A : α → Assn} (h : ∀ x, (A x).pers) : (ex A).pers := fun S H ⟨x, hx⟩ => ⟨x, h x S H hx⟩

theorem Imp.sep_out {cs r : List Assn} : Imp (sep cs :: r) (cs ++ r) := by
  induction cs generalizing r with
  | nil => exact Imp.drop
  | cons c cs ih =>
    rintro S H ⟨H1, H2, h1, h2, hd, ⟨H3, H4, h3, h4, hd', hc, hr⟩, hr2⟩
    have : star (sep cs :: r) S (fun b => (H4 b).or (H2 b)) := by
      refine ⟨H4, H2, fun b o e => (by simp [e]), fun b o e => ?_, Hp.disj_mono hd h4 (Hp.le_refl _), hr, hr2⟩
      have e4 : H4 b = none := by
        cases e4 : H4 b with
        | none => rfl
        | some x =>
          rcases hd b with e' | e'
          · rw [h4 b x e4] at e'; cases e'
          · rw [e] at e'; cases e'
      simp [e4, e]
    refine ⟨H3, _, (Hp.le_trans h3 h1), ?_, ?_, hc, ih S _ this⟩
    · intro b o e
      cases e4 : H4 b with
      | some x => simp [e4] at e; subst e; exact h1 _ _ (h4 _ _ e4)
      | none => simp [e4] at e; exact h2 _ _ e
    · intro b
      cases e3 : H3 b with
      | none => exact .inl rfl
      | some x =>
        right
        have e4 : H4 b = none := by rcases hd' b with e | e; (rw [e3] at e; cases e); exact e
        have e2 : H2 b = none := by rcases hd b with e | e; (rw [h3 _ _ e3] at e; cases e); exact e
        simp [e4, e2]

theorem Imp.sep_in {cs r : List Assn} : Imp (cs ++ r) (sep cs :: r) := by
  induction cs generalizing r with
  | nil => intro S H h; exact ⟨fun _ => none, H, fun b o e => (by cases e), Hp.le_refl _, fun b => .inl rfl, trivial, h⟩
  | cons c cs ih =>
    rintro S H ⟨H1, H2, h1, h2, hd, hc, hr⟩
    obtain ⟨H3, H4, h3, h4, hd', hc', hr'⟩ := ih S H2 hr
    refine ⟨fun b => (H1 b).or (H3 b), H4, ?_, (Hp.le_trans h4 h2), ?_, ⟨H1, H3, fun b o e => (by simp [e]), ?_, ?_, hc, hc'⟩, hr'⟩
    · intro b o e
      cases e1 : H1 b with
      | some x => simp [e1] at e; subst e; exact h1 _ _ e1
      | none => simp [e1] at e; exact h2 _ _ (h3 _ _ e)
    · intro b
      cases e4 : H4 b with
      | none => exact .inr rfl
      | some x =>
        left
        have e1 : H1 b = none := by rcases hd b with e | e; exact e; rw [h4 _ _ e4] at e; cases e
        have e3 : H3 b = none := by rcases hd' b with e | e; exact e; rw [e4] at e; cases e
        simp [e1, e3]
    · intro b o e
      have e1 : H1 b = none := by rcases hd b with e' | e'; exact e'; rw [h3 _ _ e] at e'; cases e'
      simp [e1, e]
    · exact Hp.disj_mono hd (Hp.le_refl _) h3

theorem Imp.pur_out {p : Prop} {r : List Assn} {S H : Hp} (h : star (pur p :: r) S H) : p := by obtain ⟨_, _, _, _, _, hp, _⟩ := h; exact hp
theorem Imp.pur_in {p : Prop} (hp : p) {r : List Assn} : Imp r (pur p :: r) := fun S H h => ⟨fun _ => none, H, fun b o e => (by cases e), Hp.le_refl _, fun b => .inl rfl, hp, h⟩
theorem Imp.ex_in {α : Type} {A : α → Assn} (x : α) {r : List Assn} : Imp (A x :: r) (ex A :: r) := fun S H ⟨H1, H2, h1, h2, hd, hc, hr⟩ => ⟨H1, H2, h1, h2, hd, ⟨x, hc⟩, hr⟩

/-! ### What becomes of them -/

theorem hv_push {h : Heap} {o x : Obj} {b : Nat} (hb : hv h b = some x) : hv (h.push o) b = some x := hv_iff.2 ⟨get_push_lt (hv_iff.1 hb).1, (hv_iff.1 hb).2⟩
theorem hv_eq {h h' : Heap} {k : Nat} {x : Obj} (e : h'[k]? = h[k]?) (hb : hv h k = some x) : hv h' k = some x := by rw [hv_iff, e]; exact hv_iff.1 hb
theorem Sat.push {h : Heap} {cs : List Assn} (hs : Sat h cs) (o : Obj) (ho : vis o = true := by rfl) : Sat (h.push o) (pt h.size o :: cs) := by
  obtain ⟨S, H, hS, hH, hd, hr⟩ := hs
  have hn : h[h.size]? = none := by simp
  have hHn : H h.size = none := by
    cases e : H h.size with
    | none => rfl
    | some x => have := (hv_iff.1 (hH _ _ e)).1; simp at this
  have hSn : S h.size = none := by
    cases e : S h.size with
    | none => rfl
    | some x => have := (hv_iff.1 (hS _ _ e)).1; simp at this
  refine ⟨S, fun b => if b = h.size then some o else H b, fun b x e => hv_push (hS b x e), fun b x e => ?_, fun b => ?_, fun b => if b = h.size then some o else none, H, fun b x e => ?_, fun b x e => ?_, fun b => ?_, by simp [pt], hr⟩
  · simp only [] at e
    split at e
    · rename_i hb; subst hb; cases e; exact hv_iff.2 ⟨by simp, ho⟩
    · exact hv_push (hH b x e)
  · by_cases hb : b = h.size
    · subst hb; exact .inl hSn
    · simp [hb]; exact hd b
  · simp only [] at e
    split at e
    · rename_i hb; cases e; simp [hb]
    · cases e
  · have : b ≠ h.size := fun hb => by subst hb; rw [hHn] at e; cases e
    simp [this, e]
  · by_cases hb : b = h.size
    · subst hb; exact .inr hHn
    · simp [hb]

theorem Sat.get {h : Heap} {b : Nat} {o : Obj} {cs : List Assn} (hs : Sat h (pt b o :: cs)) : h[b]? = some o := by
  obtain ⟨S, H, hS, hH, hd, H1, H2, h1, h2, hd', hc, hr⟩ := hs
  exact (hv_iff.1 (hH _ _ (h1 _ _ hc))).1

theorem Sat.getRo {h : Heap} {b : Nat} {o : Obj} {cs : List Assn} (hs : Sat h (ro b o :: cs)) : h[b]? = some o := by
  obtain ⟨S, H, hS, hH, hd, H1, H2, h1, h2, hd', hc, hr⟩ := hs
  exact (hv_iff.1 (hS _ _ hc)).1

theorem Sat.set {h h' : Heap} {b : Nat} {o o' : Obj} {cs : List Assn} (hs : Sat h (pt b o :: cs)) (h1 : h'[b]? = some o') (h2 : ∀ k, k ≠ b → h'[k]? = h[k]?) (ho : vis o' = true := by rfl) : Sat h' (pt b o' :: cs) := by
  obtain ⟨S, H, hS, hH, hd, H1, H2, l1, l2, hd', hc, hr⟩ := hs
  have hHb : H b = some o := l1 _ _ hc
  have hSb : S b = none := by rcases hd b with e | e; exact e; rw [hHb] at e; cases e
  have hH2b : H2 b = none := by rcases hd' b with e | e; (rw [show H1 b = some o from hc] at e; cases e); exact e
  refine ⟨S, fun k => if k = b then some o' else H k, fun k x e => ?_, fun k x e => ?_, fun k => ?_, fun k => if k = b then some o' else none, H2, fun k x e => ?_, fun k x e => ?_, fun k => ?_, by simp [pt], hr⟩
  · have hk : k ≠ b := fun hk => by subst hk; rw [hSb] at e; cases e
    exact hv_eq (h2 k hk) (hS k x e)
  · simp only [] at e
    split at e
    · rename_i hk; subst hk; cases e; exact hv_iff.2 ⟨h1, ho⟩
    · rename_i hk; exact hv_eq (h2 k hk) (hH k x e)
  · by_cases hk : k = b
    · subst hk; exact .inl hSb
    · simp [hk]; exact hd k
  · simp only [] at e
    split at e
    · rename_i hk; cases e; simp [hk]
    · cases e
  · have hk : k ≠ b := fun hk => by subst hk; rw [hH2b] at e; cases e
    simp [hk]; exact l2 k x e
  · by_cases hk : k = b
    · subst hk; exact .inr hH2b
    · simp [hk]

/-- A block that is never written again. -/
theorem Sat.freeze {h : Heap} {b : Nat} {o : Obj} {cs : List Assn} (hs : Sat h (pt b o :: cs)) : Sat h (ro b o :: cs) := by
  obtain ⟨S, H, hS, hH, hd, H1, H2, l1, l2, hd', hc, hr⟩ := hs
  have hHb : H b = some o := l1 _ _ hc
  have hH2b : H2 b = none := by rcases hd' b with e | e; (rw [show H1 b = some o from hc] at e; cases e); exact e
  refine ⟨fun k => if k = b then some o else S k, fun k => if k = b then none else H k, fun k x e => ?_, fun k x e => ?_, fun k => ?_, fun _ => none, H2, fun k x e => (by cases e), fun k x e => ?_, fun k => .inl rfl, by simp [ro], star_mono ?_ (Hp.le_refl _) hr⟩
  · simp only [] at e
    split at e
    · rename_i hk; subst hk; cases e; exact hH _ _ hHb
    · exact hS k x e
  · simp only [] at e
    split at e
    · cases e
    · exact hH k x e
  · by_cases hk : k = b
    · simp [hk]
    · simp [hk]; exact hd k
  · have hk : k ≠ b := fun hk => by subst hk; rw [hH2b] at e; cases e
    simp [hk]; exact l2 k x e
  · intro k x e
    have hk : k ≠ b := fun hk => by
      subst hk
      rcases hd k with e' | e'
      · rw [e] at e'; cases e'
      · rw [hHb] at e'; cases e'
    simp [hk, e]

/-- All that lies in memory at the start, never written. -/
def old (h0 : Heap) : Assn := ⟨fun S _ => ∀ b o, hv h0 b = some o → S b = some o, fun hS _ h b o e => hS _ _ (h b o e)⟩
theorem old_pers (h0 : Heap) : (old h0).pers := fun _ _ h => h
theorem Sat.start (h : Heap) : Sat h [old h] := ⟨hv h, fun _ => none, Hp.le_refl _, fun b o e => (by cases e), fun b => .inr rfl, fun _ => none, fun _ => none, Hp.le_refl _, Hp.le_refl _, fun b => .inl rfl, fun b o e => e, trivial⟩
theorem Sat.getOld {h h0 : Heap} {cs : List Assn} (hs : Sat h (old h0 :: cs)) {b : Nat} {o : Obj} (hb : h0[b]? = some o) (ho : vis o = true := by rfl) : h[b]? = some o := by
  obtain ⟨S, H, hS, hH, hd, H1, H2, h1, h2, hd', hc, hr⟩ := hs
  exact (hv_iff.1 (hS _ _ (hc b o (hv_iff.2 ⟨hb, ho⟩)))).1
theorem old_ro {h0 : Heap} {b : Nat} {o : Obj} (hb : h0[b]? = some o) (ho : vis o = true := by rfl) {cs : List Assn} : Imp (old h0 :: cs) (ro b o :: old h0 :: cs) := by
  rintro S H ⟨H1, H2, h1, h2, hd, hc, hr⟩
  exact ⟨fun _ => none, H, fun b o e => (by cases e), Hp.le_refl _, fun b => .inl rfl, hc b o (hv_iff.2 ⟨hb, ho⟩), H1, H2, h1, h2, hd, hc, hr⟩

/-- A block for deferred calls is nobody's: what is known is known whatever becomes of it. -/
theorem Sat.hid {h h' : Heap} {D : Nat} {ds : Option (List Deferred)} {cs : List Assn} (hs : Sat h cs) (h1 : h[D]? = some (.deferred ds)) (h2 : ∀ k, k ≠ D → h'[k]? = h[k]?) : Sat h' cs := by
  obtain ⟨S, H, hS, hH, hd, hr⟩ := hs
  have key : ∀ b x, hv h b = some x → hv h' b = some x := fun b x e => hv_eq (h2 b (fun e' => by
    subst e'
    obtain ⟨e1, e2⟩ := hv_iff.1 e
    rw [h1] at e1; cases e1; cases e2)) e
  exact ⟨S, H, fun b x e => key b x (hS b x e), fun b x e => key b x (hH b x e), hd, hr⟩
theorem Sat.pushD {h : Heap} {cs : List Assn} (hs : Sat h cs) (o : Obj) : Sat (h.push o) cs := by
  obtain ⟨S, H, hS, hH, hd, hr⟩ := hs
  exact ⟨S, H, fun b x e => hv_push (hS b x e), fun b x e => hv_push (hH b x e), hd, hr⟩

end Go.SL

set_option linter.unusedSimpArgs false
set_option linter.unusedVariables false
set_option linter.unusedSectionVars false
namespace Go.SL
open Go

inductive CC where
  | skip
  | ops (t : Tr)
  | seq (a b : CC)
  | cond (c : Operand) (a b : CC)
  | block (id : Nat) (a : CC)
  | loop (a : CC)
  | exit (id : Nat)
  | ret
  | rangeF (g : Operand) (ps : List Nat) (x y : CC)

/-- No loop over a function in it. -/
def noR : CC → Bool
  | .rangeF .. => false
  | .seq a b => noR a && noR b
  | .cond _ a b => noR a && noR b
  | .block _ a => noR a
  | .loop a => noR a
  | _ => true

def cleanOps (P : Program) (N : Nat) (ops : Array Oper) : List Oper → Option (List COp)
  | [] => some []
  | o :: r => match cleanOp P N ops o, cleanOps P N ops r with
    | some c, some l => some (c :: l)
    | _, _ => none

def cleanC (P : Program) (N : Nat) : Code → Option CC
  | .skip => some .skip
  | .label _ => some .skip
  | .region _ ops draw => match cleanOps P N ops ops.toList with
    | none => none
    | some cs =>
      if draw then
        if P.follows .mixedOrders && drawOk ops cs.toArray (Region.before ops) then (canon ops cs.toArray (Region.before ops) (ops.size + 1) 0).map .ops else none
      else some (.ops (listT cs))
  | .seq a b => match cleanC P N a, cleanC P N b with
    | some x, some y => some (.seq x y)
    | _, _ => none
  | .cond c a b => match cleanC P N a, cleanC P N b with
    | some x, some y => some (.cond c x y)
    | _, _ => none
  | .block id a => (cleanC P N a).map (.block id)
  | .loop a => (cleanC P N a).map .loop
  | .exit id => some (.exit id)
  | .ret => some .ret
  | .rangeFunc g ps a b => match cleanC P N a, cleanC P N b with
    | some x, some y => if noR x && noR y && ps.toList.all (fun p => Nat.blt p N) then some (.rangeF g ps.toList x y) else none
    | _, _ => none
  | _ => none

theorem cleanOps_spec {P : Program} {N : Nat} {ops : Array Oper} : ∀ {l : List Oper} {cs : List COp}, cleanOps P N ops l = some cs → l.map (cleanOp P N ops) = cs.map some
  | [], cs, h => by simp [cleanOps] at h; subst h; rfl
  | o :: r, cs, h => by
    simp only [cleanOps] at h
    split at h
    · rename_i c l h1 h2
      cases h
      simp [h1, cleanOps_spec h2]
    · simp at h

section
variable {P : Program} {N : Nat}

theorem region_wp {ro : Option Nat} {n : Nat} {id : Nat} {ops : Array Oper} {d : Bool} {t : Tr} {ρ : Env} {a : Act} {w : World} {K : Env → Heap → Prop} {Q : Exit → Act → World → Prop}
    (hc : cleanC P N (.region id ops d) = some (.ops t)) (ha : Agrees a ρ N) (hr : runT P t ρ w.heap K) (hQ : ∀ ρ a1 w', Keeps w w' → K ρ w'.heap → Agrees a1 ρ N → a1.defers = a.defers → Q .normal a1 w') :
    (Code.region id ops d).wpIn (Fw ro) n P Q a w := by
  simp only [cleanC] at hc
  split at hc
  · simp at hc
  · rename_i cs hcs
    have hmap := cleanOps_spec hcs
    have hget : ∀ (i : Nat) (o : Oper), ops[i]? = some o → ∃ c : COp, cs.toArray[i]? = some c ∧ cleanOp P N ops o = some c := by
      intro i o ho
      have h1 : (ops.toList.map (cleanOp P N ops))[i]? = (cs.map some)[i]? := by rw [hmap]
      simp only [List.getElem?_map, Array.getElem?_toList, ho, Option.map_some] at h1
      cases h2 : cs[i]? with
      | none => simp [h2] at h1
      | some c => simp [h2] at h1; exact ⟨c, by simp [h2], h1⟩
    cases d with
    | false =>
      simp only [Bool.false_eq_true, if_false, Option.some.injEq, CC.ops.injEq] at hc
      subst hc
      refine wpIn_region (wpOps_list (w0 := w) (K := K) hQ (List.range ops.size) cs a ρ w ?_ (Keeps.refl w) ha rfl hr)
      rw [← hmap]
      apply List.ext_getElem?
      intro i
      simp only [List.getElem?_map, List.getElem?_range', List.getElem?_range]
      by_cases hi : i < ops.size
      · simp [hi]
      · simp [hi]
    | true =>
      simp only [if_true] at hc
      split at hc
      · rename_i hok
        simp only [Bool.and_eq_true] at hok
        obtain ⟨hm, hok⟩ := hok
        simp only [Option.map_eq_some_iff, CC.ops.injEq, exists_eq_right] at hc
        have F := drawFacts hget hok
        refine wpIn_region_any hm ?_
        simp only [canon] at hc
        split at hc
        · rename_i T1 hT1
          have I : Inv P N ops cs.toArray (Array.replicate ops.size false) a w.heap 0 ρ a a.defers := by
            refine ⟨by simp, ha, rfl, ha.size, fun t _ => rfl, fun i hi => ?_, fun i hi => by simp at hi, fun i o hi => by simp at hi, fun i o hi => ?_, fun i hi => by simp at hi⟩
            · simp only [Array.getD_eq_getD_getElem?, Array.getElem?_replicate] at hi
              split at hi <;> simp at hi
            · simp only [Array.getD_eq_getD_getElem?, Array.getElem?_replicate] at hi
              split at hi <;> simp at hi
          obtain ⟨h1, h2, h3⟩ := satL_spec (cs := cs.toArray) F.on (b := Region.before ops) (List.range ops.size) 0 List.pairwise_lt_range
          obtain ⟨ρ', x', I3, hr3⟩ := advance F (List.range ops.size) 0 ρ a t (fun j hj => by simpa using hj) I hc hr
          refine draw_main F (w0 := w) (K := K) hQ ops.size _ a { w with drawn := w.drawn + 1 } ops.size _ ρ' x' T1 ⟨rfl, rfl, rfl, Nat.le_succ _, fun _ _ h => h⟩ ?_ I3 (fun j hj hq hr => h3 j (by simpa using hj) hq hr) hT1 hr3
          have : cnt ops (Array.replicate ops.size false) = 0 := by
            unfold cnt
            rw [List.length_eq_zero_iff, List.filter_eq_nil_iff]
            intro i hi
            simp only [Array.getD_eq_getD_getElem?, Array.getElem?_replicate]
            split <;> simp
          omega
        · simp at hc
      · simp at hc

/-! ### What a body does, said of frames and heaps -/

/-- A frame: what each slot holds. -/
abbrev Fr := Nat → Value
def Fr.ev (φ : Fr) : Operand → Value
  | .tmp t => φ t
  | .const v => v
  | .global g => .pointer (some ⟨g, 0, none⟩)
  | .func f => .func (.func f) #[] #[]
def Agr (φ : Fr) (ρ : Env) : Prop := ∀ t v, ρ.lk t = some v → φ t = v
def Tot (M : Nat) (ρ : Env) : Prop := ∀ t, t < M → ∃ v, ρ.lk t = some v

def seqH (K : Fr → Heap → Prop) (Q : Exit → Fr → Heap → Prop) : Exit → Fr → Heap → Prop
  | .normal, φ, h => K φ h
  | e, φ, h => Q e φ h
def blockH (id : Nat) (Q : Exit → Fr → Heap → Prop) : Exit → Fr → Heap → Prop
  | .exit i, φ, h => if i = id then Q .normal φ h else Q (.exit i) φ h
  | e, φ, h => Q e φ h

/-- A region: whatever is known of the frame, if it is enough. -/
def opsH (P : Program) (t : Tr) (K : Fr → Heap → Prop) (φ : Fr) (h : Heap) : Prop :=
  ∃ M, ∀ ρ, Agr φ ρ → Tot M ρ → runT P t ρ h fun ρ' h' => ∀ φ', Agr φ' ρ' → K φ' h'

def upd (φ : Fr) (p : Nat) (v : Value) : Fr := fun t => if t = p then v else φ t
def upds (φ : Fr) : List Nat → List Value → Fr
  | p :: ps, v :: vs => upds (upd φ p v) ps vs
  | _, _ => φ
/-- A loop's record, by how far it is. -/
def Loop.rdy (r : Loop) : Loop := { r with state := .ready, pending := none }
def Loop.bsy (r : Loop) : Loop := { r with state := .busy, pending := none }
def Loop.end_ (r : Loop) (c : Code) : Loop := { r with state := .done, pending := some c }
def exitOf : Code → Option Exit
  | .ret => some .ret
  | .exit id => some (.exit id)
  | _ => none
/-- A round's end. -/
def roundH (l : Nat) (r : Loop) (K : Value → Heap → Prop) : Exit → Heap → Prop
  | .normal, h => h[l]? = some (.loop (Loop.bsy r)) ∧ K (.bool true) (h.setIfInBounds l (.loop (Loop.rdy r)))
  | .ret, h => h[l]? = some (.loop (Loop.bsy r)) ∧ K (.bool false) (h.setIfInBounds l (.loop (Loop.end_ r .ret)))
  | .exit id, h => h[l]? = some (.loop (Loop.bsy r)) ∧ K (.bool false) (h.setIfInBounds l (.loop (Loop.end_ r (.exit id))))
  | _, _ => False
/-- Behind the function that was ranged over. -/
def rangeH (l : Nat) (r : Loop) (Q : Exit → Heap → Prop) (h : Heap) : Prop :=
  (h[l]? = some (.loop (Loop.rdy r)) ∧ Q .normal (h.setIfInBounds l (.loop { Loop.rdy r with state := .exhausted }))) ∨
  ∃ c e, exitOf c = some e ∧ h[l]? = some (.loop (Loop.end_ r c)) ∧ Q e (h.setIfInBounds l (.loop { Loop.end_ r c with state := .exhausted }))
def YieldH (P : Program) (l : Nat) (vs : List Value) (h : Heap) (K : Value → Heap → Prop) : Prop := ∀ w : World, w.heap = h → YieldW P l vs w fun v w' => K v w'.heap

def wpC (P : Program) : CC → (Exit → Fr → Heap → Prop) → Fr → Heap → Prop
  | .skip, Q, φ, h => Q .normal φ h
  | .ops t, Q, φ, h => opsH P t (Q .normal) φ h
  | .seq a b, Q, φ, h => wpC P a (seqH (wpC P b Q) Q) φ h
  | .cond o a b, Q, φ, h => ∃ x, φ.ev o = .bool x ∧ (x = true → wpC P a Q φ h) ∧ (x = false → wpC P b Q φ h)
  | .block id a, Q, φ, h => wpC P a (blockH id Q) φ h
  | .loop a, Q, φ, h => ∃ I : Nat → Fr → Heap → Prop, (∃ n, I n φ h) ∧ ∀ n φ h, I n φ h → wpC P a (seqH (fun φ h => ∃ m, m < n ∧ I m φ h) Q) φ h
  | .exit id, Q, φ, h => Q (.exit id) φ h
  | .ret, Q, φ, h => Q .ret φ h
  | .rangeF g ps x y, Q, φ, h => ∃ fid lb, φ.ev g = .func (.func fid) #[] lb ∧ ∀ (r : Loop) (l : Nat) (h1 : Heap), l = h.size + 1 → h1 = (h.push (.deferred (some []))).push (.loop (Loop.rdy r)) →
      (∀ (vs : List Value) (h2 : Heap) (K : Value → Heap → Prop), vs.length = ps.length → h2[l]? = some (.loop (Loop.rdy r)) →
        wpC P x (fun e φ' h3 => e = .normal ∧ h3[l]? = some (.loop (Loop.rdy r)) ∧ wpC P y (fun e _ h4 => roundH l r K e h4) φ' (h3.setIfInBounds l (.loop (Loop.bsy r)))) (upds φ ps vs) h2 → YieldH P l vs h2 K) →
      CallsH P fid (#[.func (.yield l) #[] #[]] ++ lb) h1 fun _ h4 => rangeH l r (fun e h5 => Q e φ h5) h4

def full (φ : Fr) : Nat → Env
  | 0 => []
  | n + 1 => (n, φ n) :: full φ n
theorem full_lk (φ : Fr) : ∀ (n t : Nat), (full φ n).lk t = if t < n then some (φ t) else none
  | 0, t => by simp [full, Env.lk]
  | n + 1, t => by
    rw [full, lk_cons, full_lk φ n t]
    by_cases h : n = t
    · subst h; simp
    · rw [if_neg h]; by_cases h' : t < n
      · rw [if_pos h', if_pos (by omega)]
      · rw [if_neg h', if_neg (by omega)]
theorem full_agr (φ : Fr) (n : Nat) : Agr φ (full φ n) := fun t v h => by
  rw [full_lk] at h; split at h
  · injection h
  · cases h
theorem full_tot (φ : Fr) (n : Nat) : Tot n (full φ n) := fun t h => ⟨φ t, by rw [full_lk, if_pos h]⟩
def frame (a : Act) : Fr := fun t => a.tmps.getD t undef
theorem evF {φ : Fr} {ρ : Env} (h : Agr φ ρ) {o : Operand} {v : Value} (e : ρ.ev o = some v) : φ.ev o = v := by
  cases o with
  | tmp t => exact h t v e
  | _ => simp only [Env.ev, Option.some.injEq] at e; exact e

theorem cleanC_skip {c : Code} (h : cleanC P N c = some .skip) : c = .skip ∨ ∃ l, c = .label l := by
  cases c <;> simp only [cleanC] at h
  case skip => exact .inl rfl
  case label l => exact .inr ⟨l, rfl⟩
  case region id ops d =>
    split at h
    · simp at h
    · split at h
      · split at h
        · simp at h
        · simp at h
      · simp at h
  case seq a b => split at h <;> simp at h
  case cond a b c => split at h <;> simp at h
  case rangeFunc => split at h <;> simp at h
  all_goals simp at h

theorem cleanC_ops {c : Code} {t : Tr} (h : cleanC P N c = some (.ops t)) : ∃ id ops d, c = .region id ops d := by
  cases c <;> simp only [cleanC] at h
  case region id ops d => exact ⟨_, _, _, rfl⟩
  case seq a b => split at h <;> simp at h
  case cond a b c => split at h <;> simp at h
  case rangeFunc => split at h <;> simp at h
  all_goals simp at h

theorem cleanC_seq {c : Code} {x y : CC} (h : cleanC P N c = some (.seq x y)) : ∃ a b, c = .seq a b ∧ cleanC P N a = some x ∧ cleanC P N b = some y := by
  cases c <;> simp only [cleanC] at h
  case region id ops d =>
    split at h
    · simp at h
    · split at h
      · split at h
        · simp at h
        · simp at h
      · simp at h
  case seq a b =>
    split at h
    · rename_i u v hu hv; cases h; exact ⟨a, b, rfl, hu, hv⟩
    · simp at h
  case cond a b c => split at h <;> simp at h
  case rangeFunc => split at h <;> simp at h
  all_goals simp at h

theorem cleanC_cond {c : Code} {o : Operand} {x y : CC} (h : cleanC P N c = some (.cond o x y)) : ∃ a b, c = .cond o a b ∧ cleanC P N a = some x ∧ cleanC P N b = some y := by
  cases c <;> simp only [cleanC] at h
  case region id ops d =>
    split at h
    · simp at h
    · split at h
      · split at h
        · simp at h
        · simp at h
      · simp at h
  case seq a b => split at h <;> simp at h
  case cond o' a b =>
    split at h
    · rename_i u v hu hv; cases h; exact ⟨a, b, rfl, hu, hv⟩
    · simp at h
  case rangeFunc => split at h <;> simp at h
  all_goals simp at h

theorem cleanC_block {c : Code} {id : Nat} {x : CC} (h : cleanC P N c = some (.block id x)) : ∃ a, c = .block id a ∧ cleanC P N a = some x := by
  cases c <;> simp only [cleanC] at h
  case region id ops d =>
    split at h
    · simp at h
    · split at h
      · split at h
        · simp at h
        · simp at h
      · simp at h
  case seq a b => split at h <;> simp at h
  case cond a b c => split at h <;> simp at h
  case block id' a => simp only [Option.map_eq_some_iff, CC.block.injEq] at h; obtain ⟨u, hu, rfl, rfl⟩ := h; exact ⟨a, rfl, hu⟩
  case rangeFunc => split at h <;> simp at h
  all_goals simp at h

theorem cleanC_loop {c : Code} {x : CC} (h : cleanC P N c = some (.loop x)) : ∃ a, c = .loop a ∧ cleanC P N a = some x := by
  cases c <;> simp only [cleanC] at h
  case region id ops d =>
    split at h
    · simp at h
    · split at h
      · split at h
        · simp at h
        · simp at h
      · simp at h
  case seq a b => split at h <;> simp at h
  case cond a b c => split at h <;> simp at h
  case loop a => simp at h; exact ⟨a, rfl, h⟩
  case rangeFunc => split at h <;> simp at h
  all_goals simp at h

theorem cleanC_exit {c : Code} {id : Nat} (h : cleanC P N c = some (.exit id)) : c = .exit id := by
  cases c <;> simp only [cleanC] at h
  case region id ops d =>
    split at h
    · simp at h
    · split at h
      · split at h
        · simp at h
        · simp at h
      · simp at h
  case seq a b => split at h <;> simp at h
  case cond a b c => split at h <;> simp at h
  case exit i => simp at h; rw [h]
  case rangeFunc => split at h <;> simp at h
  all_goals simp at h

theorem cleanC_ret {c : Code} (h : cleanC P N c = some .ret) : c = .ret := by
  cases c <;> simp only [cleanC] at h
  case region id ops d =>
    split at h
    · simp at h
    · split at h
      · split at h
        · simp at h
        · simp at h
      · simp at h
  case seq a b => split at h <;> simp at h
  case cond a b c => split at h <;> simp at h
  case ret => rfl
  case rangeFunc => split at h <;> simp at h
  all_goals simp at h


theorem cleanC_rangeF {c : Code} {g : Operand} {ps : List Nat} {x y : CC} (h : cleanC P N c = some (.rangeF g ps x y)) : ∃ a b, c = .rangeFunc g ps.toArray a b ∧ cleanC P N a = some x ∧ cleanC P N b = some y ∧ noR x = true ∧ noR y = true ∧ ∀ p ∈ ps, p < N := by
  cases c <;> simp only [cleanC] at h
  case region id ops d =>
    split at h
    · simp at h
    · split at h
      · split at h
        · simp at h
        · simp at h
      · simp at h
  case seq a b => split at h <;> simp at h
  case cond a b c => split at h <;> simp at h
  case rangeFunc g' ps' a b =>
    split at h
    · rename_i u v hu hv
      split at h
      · rename_i hc
        cases h
        simp only [Bool.and_eq_true, List.all_eq_true] at hc
        exact ⟨a, b, rfl, hu, hv, hc.1.1, hc.1.2, fun p hp => by simpa [Nat.blt_eq] using hc.2 p hp⟩
      · simp at h
    · simp at h
  all_goals simp at h

/-- The marks among an activation's deferred calls: their blocks are empty, and were none of w0's. -/
structure Marks (w0 : World) (ds : List Deferred) (w : World) : Prop where
  at_ : ∀ d ∈ ds, ∃ D, d.target = .collected D ∧ w.heap[D]? = some (.deferred (some [])) ∧ ∀ x, w0.heap[D]? ≠ some (.deferred x)
  ne : ds.Pairwise fun d e => d.target ≠ e.target
theorem Marks.keeps {w0 w w' : World} {ds : List Deferred} (h : Marks w0 ds w) (hk : Keeps w w') : Marks w0 ds w' :=
  ⟨fun d hd => by obtain ⟨D, h1, h2, h3⟩ := h.at_ d hd; exact ⟨D, h1, hk.dfr _ _ h2, h3⟩, h.ne⟩
theorem Marks.nil {w0 w : World} : Marks w0 [] w := ⟨fun _ h => (nomatch h), List.Pairwise.nil⟩

theorem eval_frame (a : Act) (o : Operand) : a.eval o = (frame a).ev o := by cases o <;> rfl

theorem frame_upds {ps : List Nat} : ∀ {vs : List Value} {tmps : Array Value} {ds : List Deferred}, vs.length = ps.length → (∀ p ∈ ps, p < tmps.size) →
    frame { tmps := (ps.zip vs).foldl (fun t (p, v) => t.setIfInBounds p v) tmps, defers := ds } = upds (frame { tmps := tmps, defers := ds }) ps vs ∧ ((ps.zip vs).foldl (fun t (p, v) => t.setIfInBounds p v) tmps).size = tmps.size := by
  induction ps with
  | nil => intro vs tmps ds h _; cases vs <;> simp_all [upds]
  | cons p ps ih =>
    intro vs tmps ds h hp
    cases vs with
    | nil => simp at h
    | cons v vs =>
      have h1 := ih (vs := vs) (tmps := tmps.setIfInBounds p v) (ds := ds) (by simpa using h) (fun q hq => by simpa using hp q (List.mem_cons_of_mem _ hq))
      simp only [List.zip_cons_cons, List.foldl_cons, upds]
      refine ⟨h1.1.trans ?_, by rw [h1.2]; simp⟩
      congr 1
      funext t
      unfold frame upd
      simp only [Array.getD_eq_getD_getElem?]
      have := hp p List.mem_cons_self
      by_cases e : t = p
      · subst e; rw [if_pos rfl]; simp [this]
      · rw [if_neg e, Array.getElem?_setIfInBounds_ne (Ne.symm e)]
theorem keeps_loop {w : World} {l : Nat} {r : Loop} (h : w.heap[l]? = some (.loop r)) (r' : Loop) : Keeps w (w.putObj l (.loop r')) := Keeps.obj h ⟨by simp, by simp⟩ (by simp) _ (Nat.le_refl _)
theorem keeps_alloc (w : World) (o : Obj) : Keeps w (w.alloc o) := ⟨rfl, rfl, rfl, Nat.le_refl _, fun _ _ h => push_old h⟩

theorem wpIn_loopN {F : Fence} {n : Nat} {P : Program} {c : Code} {Q : Exit → Act → World → Prop} {a : Act} {w : World} (I : Nat → Act → World → Prop) (n0 : Nat) (h0 : I n0 a w)
    (round : ∀ m a w, I m a w → c.wpIn F n P (Exit.then (fun a' w' => ∃ m', m' < m ∧ I m' a' w') Q) a w) : (Code.loop c).wpIn F n P Q a w := by
  intro b k cs hro hb hr
  have key : ∀ j a w, I j a w →
      ∃ e a' w', Q e a' w' ∧ ArrivesIn (Machine.fenced P F) P (lone (b.atR a (.code c :: .inLoop c :: k)) cs w) b k cs e a' w' := by
    intro j
    induction j using Nat.strongRecOn with
    | _ j ih =>
      intro a w hI
      obtain ⟨e, a1, w1, hq, harr⟩ := round j a w hI b (.inLoop c :: k) cs hro hb hr
      cases e with
      | normal =>
        obtain ⟨m', hlt, hI1⟩ := hq
        obtain ⟨e2, a2, w2, hq2, harr2⟩ := ih m' hlt a1 w1 hI1
        exact ⟨e2, a2, w2, hq2, .of_steps (StepsIn.trans harr (.one (fenced_calm hb hr rfl) stepR_inLoop)) harr2⟩
      | exit id => exact ⟨_, a1, w1, hq, .pass (x := .inLoop c) rfl (fun _ _ => .inl (by simp)) harr⟩
      | goto l => exact ⟨_, a1, w1, hq, .pass (x := .inLoop c) rfl (fun _ _ => .inl (by simp)) harr⟩
      | ret => exact ⟨_, a1, w1, hq, .pass (x := .inLoop c) rfl (fun _ _ => .inl (by simp)) harr⟩
      | panic ch => exact ⟨_, a1, w1, hq, .pass (x := .inLoop c) rfl (fun _ _ => .inl (by simp)) harr⟩
      | outgrown => exact ⟨_, a1, w1, hq, .pass (x := .inLoop c) rfl (fun _ _ => .inl (by simp)) harr⟩
  obtain ⟨e, a', w', hq, harr⟩ := key n0 a w h0
  exact ⟨e, a', w', hq, .of_steps (.one (fenced_calm hb hr rfl) stepR_loop) harr⟩

set_option maxHeartbeats 4000000 in
theorem wpC_wp {n : Nat} : ∀ (cc : CC) {ro : Option Nat} {c : Code} {Q : Exit → Fr → Heap → Prop} {a : Act} {w0 w : World}, cleanC P N c = some cc → (ro ≠ none → noR cc = true) → Keeps w0 w → Marks w0 a.defers w → a.tmps.size = N → wpC P cc Q (frame a) w.heap →
    c.wpIn (Fw ro) n P (fun e a' w' => Keeps w w' ∧ Marks w0 a'.defers w' ∧ a'.tmps.size = N ∧ Q e (frame a') w'.heap) a w
  | .skip, ro, c, Q, a, w0, w, hc, hn, hk0, hd, hz, h => by
    rcases cleanC_skip hc with rfl | ⟨l, rfl⟩
    · exact wpIn_skip ⟨.refl w, hd, hz, h⟩
    · exact wpIn_label ⟨.refl w, hd, hz, h⟩
  | .ops t, ro, c, Q, a, w0, w, hc, hn, hk0, hd, hz, h => by
    obtain ⟨id, ops, d, rfl⟩ := cleanC_ops hc
    obtain ⟨M, h⟩ := h
    exact region_wp hc (ρ := full (frame a) M) ⟨hz, full_agr _ _⟩ (h _ (full_agr _ _) (full_tot _ _)) fun ρ a w hk hq ha' hds => ⟨hk, by rw [hds]; exact hd.keeps hk, ha'.size, hq _ ha'.lk⟩
  | .seq x y, ro, c, Q, a, w0, w, hc, hn, hk0, hd, hz, h => by
    obtain ⟨c1, c2, rfl, h1, h2⟩ := cleanC_seq hc
    have hn1 : ro ≠ none → noR x = true := fun e => by have := hn e; simp only [noR, Bool.and_eq_true] at this; exact this.1
    have hn2 : ro ≠ none → noR y = true := fun e => by have := hn e; simp only [noR, Bool.and_eq_true] at this; exact this.2
    refine wpIn_seq (wpIn_mono (wpC_wp x h1 hn1 hk0 hd hz h) ?_)
    rintro e a' w' ⟨hk, hd', hz', hq⟩
    cases e with
    | normal => exact wpIn_mono (wpC_wp y h2 hn2 (hk0.trans hk) hd' hz' hq) fun e a'' w'' ⟨hk2, r⟩ => ⟨hk.trans hk2, r⟩
    | _ => exact ⟨hk, hd', hz', hq⟩
  | .cond o x y, ro, c, Q, a, w0, w, hc, hn, hk0, hd, hz, h => by
    obtain ⟨c1, c2, rfl, hc1, hc2⟩ := cleanC_cond hc
    have hn1 : ro ≠ none → noR x = true := fun e => by have := hn e; simp only [noR, Bool.and_eq_true] at this; exact this.1
    have hn2 : ro ≠ none → noR y = true := fun e => by have := hn e; simp only [noR, Bool.and_eq_true] at this; exact this.2
    obtain ⟨b, hb, h1, h2⟩ := h
    exact wpIn_cond_split (by rw [eval_frame]; exact hb) (fun e => wpC_wp x hc1 hn1 hk0 hd hz (h1 e)) (fun e => wpC_wp y hc2 hn2 hk0 hd hz (h2 e))
  | .block id x, ro, c, Q, a, w0, w, hc, hn, hk0, hd, hz, h => by
    obtain ⟨c1, rfl, hc1⟩ := cleanC_block hc
    refine wpIn_block (wpIn_mono (wpC_wp x hc1 (fun e => hn e) hk0 hd hz h) ?_)
    rintro e a' w' ⟨hk, hd', hz', hq⟩
    cases e with
    | exit i =>
      simp only [Exit.inBlock]
      simp only [blockH] at hq
      split at hq
      · rename_i hi; rw [if_pos hi]; exact ⟨hk, hd', hz', hq⟩
      · rename_i hi; rw [if_neg hi]; exact ⟨hk, hd', hz', hq⟩
    | _ => exact ⟨hk, hd', hz', hq⟩
  | .loop x, ro, c, Q, a, w0, w, hc, hn, hk0, hd, hz, h => by
    obtain ⟨c1, rfl, hc1⟩ := cleanC_loop hc
    obtain ⟨I, ⟨n0, hn0⟩, round⟩ := h
    refine wpIn_loopN (fun m a' w' => I m (frame a') w'.heap ∧ Keeps w w' ∧ Marks w0 a'.defers w' ∧ a'.tmps.size = N) n0 ⟨hn0, .refl w, hd, hz⟩ fun m a' w' hi => ?_
    obtain ⟨hI, hk, hd', hz'⟩ := hi
    refine wpIn_mono (wpC_wp x hc1 (fun e => hn e) (hk0.trans hk) hd' hz' (round m _ _ hI)) ?_
    rintro e a2 w2 ⟨hk2, hd2, hz2, hq⟩
    cases e with
    | normal =>
      obtain ⟨m', hlt, hm⟩ := hq
      exact ⟨m', hlt, hm, hk.trans hk2, hd2, hz2⟩
    | _ => exact ⟨hk.trans hk2, hd2, hz2, hq⟩
  | .rangeF g ps x y, ro, c, Q, a, w0, w, hc, hn, hk0, hd, hz, h => by
    obtain ⟨c1, c2, rfl, hc1, hc2, hx, hy, hps⟩ := cleanC_rangeF hc
    cases ro with
    | some l => exact absurd (hn (by simp)) (by simp [noR])
    | none =>
    obtain ⟨fid, lb, hg, hH⟩ := h
    have hg' : a.eval g = .func (.func fid) #[] lb := by rw [eval_frame]; exact hg
    refine wpIn_rangeFunc fun fn _ => ?_
    obtain ⟨r, hr⟩ : ∃ r : Loop, r = { state := .ready, pending := none, fn := fn, tmps := a.tmps, params := ps.toArray, assign := c1, body := c2, defers := w.heap.size } := ⟨_, rfl⟩
    have hrr : Loop.rdy r = r := by rw [hr]; rfl
    obtain ⟨W1, hW1⟩ : ∃ W1, (w.alloc (.deferred (some []))).alloc (.loop r) = W1 := ⟨_, rfl⟩
    have hW1h : W1.heap = (w.heap.push (.deferred (some []))).push (.loop (Loop.rdy r)) := by rw [← hW1, hrr]; rfl
    have hcall := hH r (w.heap.size + 1) W1.heap rfl hW1h ?rounds
    case rounds =>
      intro vs h2 K hlen hl hwp w2 hw2
      subst hw2
      have hps' : r.params = ps.toArray := by rw [hr]
      have hsz : ((r.params.zip vs.toArray).foldl (fun tmps (t, a) => tmps.setIfInBounds t a) r.tmps) = (ps.zip vs).foldl (fun t (p, v) => t.setIfInBounds p v) a.tmps := by
        rw [hr]; simp [← Array.foldl_toList]
      have hfr := frame_upds (ps := ps) (vs := vs) (tmps := a.tmps) (ds := []) hlen (fun p hp => by rw [hz]; exact hps p hp)
      have hfa : frame { tmps := a.tmps, defers := [] } = frame a := rfl
      rw [hfa] at hfr
      refine ⟨_, _, _, _, run_yield (r := Loop.rdy r) hl (by rw [hrr, hps']; simpa using hlen), ?_⟩
      rw [hrr] at hl hwp ⊢
      rw [hsz]
      have ha1 : r.assign = c1 := by rw [hr]
      have hb1 : r.body = c2 := by rw [hr]
      rw [ha1, hb1]
      refine roundIn_of_wpIn (F := Fence.wide) trivial ?_
      refine wpIn_mono (wpC_wp (ro := some (w.heap.size + 1)) x (a := { tmps := (ps.zip vs).foldl (fun t (p, v) => t.setIfInBounds p v) a.tmps, defers := [] }) (w0 := w2) hc1 (fun _ => hx) (.refl w2) .nil (by rw [← hz]; exact hfr.2) (by rw [hfr.1]; exact hwp)) ?_
      rintro e a1 w3 ⟨hk3, hd3, hz3, rfl, hl3, hbody⟩
      refine ⟨_, run_beginRound hl3 (by rw [hr]), ?_⟩
      have hbs : ({ r with state := .busy } : Loop) = Loop.bsy r := by rw [hr]; rfl
      rw [hbs]
      have hkb := keeps_loop hl3 (Loop.bsy r)
      refine wpIn_mono (wpC_wp (ro := some (w.heap.size + 1)) y (w0 := w2) hc2 (fun _ => hy) (hk3.trans hkb) (hd3.keeps hkb) hz3 hbody) ?_
      rintro e a4 w4 ⟨hk4, hd4, hz4, hq⟩
      have hk24 := (hk3.trans hkb).trans hk4
      cases e with
      | normal =>
        obtain ⟨hl4, hK⟩ := hq
        refine ⟨_, _, run_endRound none hl4, .bool true, rfl, hk24.trans (keeps_loop hl4 _), ?_⟩
        have e2 : ({ Loop.bsy r with state := .ready, pending := none } : Loop) = r := by rw [hr]; rfl
        simp only [Option.isNone_none, if_true]
        rw [e2]; rw [hrr] at hK; exact hK
      | ret =>
        obtain ⟨hl4, hK⟩ := hq
        exact ⟨_, _, run_endRound (some .ret) hl4, .bool false, rfl, hk24.trans (keeps_loop hl4 _), hK⟩
      | exit id =>
        obtain ⟨hl4, hK⟩ := hq
        exact ⟨_, _, run_endRound (some (.exit id)) hl4, .bool false, rfl, hk24.trans (keeps_loop hl4 _), hK⟩
      | _ => exact hq.elim
    obtain ⟨hok, hcalls⟩ := hcall
    have hKW : Keeps w W1 := by rw [← hW1]; exact (keeps_alloc _ _).trans (keeps_alloc _ _)
    have hD1 : W1.heap[w.heap.size]? = some (.deferred (some [])) := by
      rw [hW1h]; exact push_old (by simp)
    refine ⟨w.heap.size + 1, [{ target := .collected w.heap.size, args := #[] }], W1, { target := .fn (.func fid) lb, args := #[.func (.yield (w.heap.size + 1)) #[] #[]] }, W1, fid, #[.func (.yield (w.heap.size + 1)) #[] #[]] ++ lb, W1, ?_, ?_, fun _ _ => trivial, ?_, ?_, ?_⟩
    · rw [← hW1, hr]; exact run_enterLoop_outer _ _ _ _ _
    · simp only [resolve, hg']
      simp [go_sem]
    · simp only [invoke, run_callFunc hok]
    · intro h; exact absurd (show false = true from h) (by decide)
    · have hcw := hcalls W1 rfl
      refine calls_Fw (ro := none) (n := n - 1) ?_
      refine Calls.mono hcw ?_
      rintro e w' ⟨v, rfl, hkw, hpost⟩
      have hD' := hkw.dfr _ _ hD1
      have hmk : ∀ w5, Keeps w' w5 → Marks w0 ([{ target := .collected w.heap.size, args := #[] }] ++ a.defers) w5 := by
        intro w5 h5
        have hold := (hd.keeps ((hKW.trans hkw).trans h5))
        refine ⟨fun d hd' => ?_, ?_⟩
        · rcases List.mem_append.1 hd' with hm | hm
          · simp only [List.mem_singleton] at hm
            subst hm
            refine ⟨_, rfl, h5.dfr _ _ hD', fun x hx => ?_⟩
            have := hk0.dfr _ _ hx
            simp at this
          · exact hold.at_ d hm
        · simp only [List.cons_append, List.nil_append, List.pairwise_cons]
          refine ⟨fun d hm he => ?_, hd.ne⟩
          obtain ⟨D, e1, e2, _⟩ := hd.at_ d hm
          rw [e1] at he
          injection he with he
          subst he
          simp at e2
      rcases hpost with ⟨hl, hQ⟩ | ⟨c, e, hce, hl, hQ⟩
      · refine ⟨none, _, run_endLoop hl (by simp [Loop.rdy]), ?_⟩
        have hk2 := keeps_loop hl { Loop.rdy r with state := .exhausted }
        exact ⟨(hKW.trans hkw).trans hk2, hmk _ hk2, hz, hQ⟩
      · refine ⟨some c, _, run_endLoop hl (by simp [Loop.end_]), ?_⟩
        have hk2 := keeps_loop hl { Loop.end_ r c with state := .exhausted }
        cases c <;> simp only [exitOf, Option.some.injEq, reduceCtorEq] at hce
        · subst hce
          exact wpIn_exit ⟨(hKW.trans hkw).trans hk2, hmk _ hk2, hz, hQ⟩
        · subst hce
          exact wpIn_ret ⟨(hKW.trans hkw).trans hk2, hmk _ hk2, hz, hQ⟩
  | .exit id, ro, c, Q, a, w0, w, hc, hn, hk0, hd, hz, h => by
    rw [cleanC_exit hc]
    exact wpIn_exit ⟨.refl w, hd, hz, h⟩
  | .ret, ro, c, Q, a, w0, w, hc, hn, hk0, hd, hz, h => by
    rw [cleanC_ret hc]
    exact wpIn_ret ⟨.refl w, hd, hz, h⟩

end

/-- Less is known of the frame. -/
def Env.sub (ρ' ρ : Env) : Prop := ∀ t v, ρ'.lk t = some v → ρ.lk t = some v
theorem Env.sub.rfl {ρ : Env} : ρ.sub ρ := fun _ _ h => h
theorem Env.sub.tr {a b c : Env} (h : a.sub b) (h' : b.sub c) : a.sub c := fun t v x => h' t v (h t v x)
theorem Env.sub.cons {a b : Env} (h : a.sub b) (d : Nat) (v : Value) : Env.sub ((d, v) :: a) ((d, v) :: b) := fun t u x => by
  rw [lk_cons] at x ⊢; split
  · rename_i e; rw [if_pos e] at x; exact x
  · rename_i e; rw [if_neg e] at x; exact h t u x
theorem Env.sub.put {a b : Env} (h : a.sub b) (d : Option Nat) (v : Value) : Env.sub (a.put d v) (b.put d v) := by
  cases d with
  | none => exact h
  | some d => exact h.cons d v

theorem ev_sub {ρ ρ0 : Env} (hs : ρ.sub ρ0) {o : Operand} {v : Value} (e : ρ.ev o = some v) : ρ0.ev o = some v := by
  cases o with
  | tmp t => exact hs t v e
  | _ => exact e

/-! ### Operands put for operands -/

def Src.mp (f : Operand → Operand) : Src → Src
  | .z v => .z v
  | .c x j n => .c (f x) j n
def Kd.mp (f : Operand → Operand) : Kd → Kd
  | .mv x => .mv (f x)
  | .pick c a b => .pick (f c) (f a) (f b)
  | .new T cells => .new T cells
  | .box T x => .box T (f x)
  | .agg src => .agg (src.map (Src.mp f))
  | .bsl T src len => .bsl T (src.map (Src.mp f)) len
  | .ld n a => .ld n (f a)
  | .st n a x => .st n (f a) (f x)
  | .nilc x => .nilc (f x)
  | .bin op t x y => .bin op t x y
  | .bini op x y => .bini op (f x) (f y)
  | .eqs neg fl x y => .eqs neg fl (f x) (f y)
  | .un op x => .un op (f x)
  | .cv k x => .cv k (f x)
  | .fa off x => .fa off (f x)
  | .fld ag n off x => .fld ag n off (f x)
  | .ia sz x i => .ia sz (f x) (f i)
  | .iaa len sz x i => .iaa len sz (f x) (f i)
  | .sl sz x lo hi mx => .sl sz (f x) (lo.map f) (hi.map f) (mx.map f)
  | .ln x => .ln (f x)
  | .lns x => .lns (f x)
  | .lnm x => .lnm (f x)
  | .ap T sz bytes zero x y => .ap T sz bytes zero (f x) (f y)
  | .ext x i => .ext (f x) i
  | .call g args => .call (f g) (args.map f)
  | .cmp sc neg x y => .cmp sc neg (f x) (f y)
  | .cap x => .cap (f x)
  | .lkp ok kt zero x i => .lkp ok kt zero (f x) (f i)
  | .idx x i => .idx (f x) (f i)
  | .mm mx x y => .mm mx (f x) (f y)
  | .sls x lo hi => .sls (f x) (lo.map f) (hi.map f)
  | .ent x => .ent (f x)
  | .mkm => .mkm
  | .mup kt m k v => .mup kt (f m) (f k) (f v)
  | .mpe kt zero m k => .mpe kt zero (f m) (f k)
  | .ens m s v => .ens (f m) (f s) (f v)
  | .del kt m k => .del kt (f m) (f k)
  | .rng x => .rng (f x)
  | .nxt x => .nxt (f x)
  | .mks T sz bytes zero l c => .mks T sz bytes zero (f l) (f c)
  | .cpy sz x y => .cpy sz (f x) (f y)
  | .clr zero x => .clr zero (f x)
  | .mki t x => .mki t (f x)
  | .mkf g captured => .mkf g (captured.map f)
  | .raw o => .raw o

theorem Cells.mp {ρ ρ0 : Env} {f : Operand → Operand} : ∀ {src : List Src} {cs : List Value}, (∀ o ∈ src.flatMap Src.ops, ∀ v, ρ.ev (f o) = some v → ρ0.ev o = some v) → Cells ρ (src.map (Src.mp f)) cs → Cells ρ0 src cs
  | [], cs, hf, h => by cases h; exact .nil
  | .z v :: r, cs, hf, h => by cases h with | z h => exact .z (Cells.mp (fun o ho => hf o (by simp only [List.flatMap_cons, List.mem_append]; exact .inr ho)) h)
  | .c x j n :: r, cs, hf, h => by cases h with | c hx hn hu h => exact .c (hf _ (by simp [Src.ops]) _ hx) hn hu (Cells.mp (fun o ho => hf o (by simp only [List.flatMap_cons, List.mem_append]; exact .inr ho)) h)

section
variable {ρ ρ0 : Env} {f : Operand → Operand}
theorem evs_mp : ∀ {xs : List Operand} {vs : List Value}, (∀ o ∈ xs, ∀ v, ρ.ev (f o) = some v → ρ0.ev o = some v) → ρ.evs (xs.map f) = some vs → ρ0.evs xs = some vs
  | [], vs, hf, h => h
  | x :: r, vs, hf, h => by
    simp only [List.map_cons, Env.evs] at h ⊢
    split at h
    · rename_i v vs' h1 h2
      rw [hf _ (by simp) _ h1, evs_mp (fun o ho => hf o (by simp [ho])) h2]; exact h
    · cases h
theorem sliceLo_mp {x : Option Operand} {d r : Nat} (hf : ∀ o ∈ x.toList, ∀ v, ρ.ev (f o) = some v → ρ0.ev o = some v) (h : sliceLo (x.map f) ρ d = some r) : sliceLo x ρ0 d = some r := by
  cases x with
  | none => exact h
  | some o =>
    simp only [Option.map_some, sliceLo] at h ⊢
    split at h
    · rename_i k n h1; rw [hf _ (by simp) _ h1]; exact h
    · cases h
theorem CallsH.mono {P : Program} {f : FuncId} {args : Array Value} {h : Heap} {R R' : Value → Heap → Prop} (hm : ∀ v h, R v h → R' v h) (H : CallsH P f args h R) : CallsH P f args h R' :=
  ⟨H.1, fun w hw => (H.2 w hw).mono fun _ _ ⟨v, h1, h2, h3⟩ => ⟨v, h1, h2, hm _ _ h3⟩⟩
theorem YieldW.mono {P : Program} {l : Nat} {vs : List Value} {w : World} {R R' : Value → World → Prop} (hm : ∀ v w, R v w → R' v w) (H : YieldW P l vs w R) : YieldW P l vs w R' := by
  obtain ⟨fn, tmps, as, bd, h1, h2⟩ := H
  exact ⟨fn, tmps, as, bd, h1, h2.mono fun _ _ ⟨v, h1, h2, h3⟩ => ⟨v, h1, h2, hm _ _ h3⟩⟩
theorem CallV.mono {P : Program} {t : Fn} {cap : Array Value} {vs : List Value} {h : Heap} {R R' : Value → Heap → Prop} (hm : ∀ v h, R v h → R' v h) (H : CallV P t cap vs h R) : CallV P t cap vs h R' := by
  cases t with
  | func f => exact CallsH.mono hm H
  | yield l => exact ⟨H.1, fun w hw => (H.2 w hw).mono fun v w' => hm v w'.heap⟩
  | _ => exact H
theorem rangeH_mono {l : Nat} {r : Loop} {Q Q' : Exit → Heap → Prop} {h : Heap} (hq : ∀ e h, Q e h → Q' e h) (H : rangeH l r Q h) : rangeH l r Q' h := by
  rcases H with ⟨h1, h2⟩ | ⟨c, e, h1, h2, h3⟩
  · exact .inl ⟨h1, hq _ _ h2⟩
  · exact .inr ⟨c, e, h1, h2, hq _ _ h3⟩

theorem Kd.lift {P : Program} {k : Kd} {h : Heap} {K K' : Value → Heap → Prop} (hf : ∀ o ∈ k.operands, ∀ v, ρ.ev (f o) = some v → ρ0.ev o = some v) (hb : ∀ op t x y, k = .bin op t x y → f x = x ∧ f y = y) (hr : ∀ o, k = .raw o → ρ.sub ρ0) (hm : ∀ v h, K v h → K' v h) (H : (k.mp f).sem P ρ h K) : k.sem P ρ0 h K' := by
  cases k
  case mv x => obtain ⟨v, a, b⟩ := H; exact ⟨v, hf _ (by simp [Kd.operands]) _ a, hm _ _ b⟩
  case pick c a b =>
    obtain ⟨t, v, h1, h2, h3⟩ := H
    refine ⟨t, v, hf _ (by simp [Kd.operands]) _ h1, ?_, hm _ _ h3⟩
    cases t
    · exact hf _ (by simp [Kd.operands]) _ h2
    · exact hf _ (by simp [Kd.operands]) _ h2
  case new => exact hm _ _ H
  case box => obtain ⟨v, a, b⟩ := H; exact ⟨v, hf _ (by simp [Kd.operands]) _ a, hm _ _ b⟩
  case agg => obtain ⟨v, a, b⟩ := H; exact ⟨v, Cells.mp hf a, hm _ _ b⟩
  case bsl => obtain ⟨v, a, b⟩ := H; exact ⟨v, Cells.mp hf a, hm _ _ b⟩
  case ld n a =>
    cases n with
    | none => obtain ⟨ad, v, h1, h2, h3⟩ := H; exact ⟨ad, v, hf _ (by simp [Kd.operands]) _ h1, h2, hm _ _ h3⟩
    | some n => obtain ⟨ad, v, h1, h2, h3⟩ := H; exact ⟨ad, v, hf _ (by simp [Kd.operands]) _ h1, h2, hm _ _ h3⟩
  case st => obtain ⟨ad, v, h', h1, h2, h3, h4, h5⟩ := H; exact ⟨ad, v, h', hf _ (by simp [Kd.operands]) _ h1, hf _ (by simp [Kd.operands]) _ h2, h3, h4, hm _ _ h5⟩
  case nilc => obtain ⟨v, a, b, c⟩ := H; exact ⟨v, hf _ (by simp [Kd.operands]) _ a, b, hm _ _ c⟩
  case bin => obtain ⟨u, v, r, h1, h2, h3, h4⟩ := H; exact ⟨u, v, r, hf _ (by simp [Kd.operands]) _ (by rw [(hb _ _ _ _ rfl).1]; exact h1), hf _ (by simp [Kd.operands]) _ (by rw [(hb _ _ _ _ rfl).2]; exact h2), h3, hm _ _ h4⟩
  case bini => obtain ⟨k, n, k', m, r, h1, h2, h3, h4, h5⟩ := H; exact ⟨k, n, k', m, r, hf _ (by simp [Kd.operands]) _ h1, hf _ (by simp [Kd.operands]) _ h2, h3, h4, hm _ _ h5⟩
  case eqs => obtain ⟨u, v, b, h1, h2, h3, h4⟩ := H; exact ⟨u, v, b, hf _ (by simp [Kd.operands]) _ h1, hf _ (by simp [Kd.operands]) _ h2, h3, hm _ _ h4⟩
  case un => obtain ⟨u, r, h1, h2, h3⟩ := H; exact ⟨u, r, hf _ (by simp [Kd.operands]) _ h1, h2, hm _ _ h3⟩
  case cv => obtain ⟨k', n, h1, h2⟩ := H; exact ⟨k', n, hf _ (by simp [Kd.operands]) _ h1, hm _ _ h2⟩
  case fa => obtain ⟨ad, h1, h2⟩ := H; exact ⟨ad, hf _ (by simp [Kd.operands]) _ h1, hm _ _ h2⟩
  case fld => obtain ⟨cs, v, h1, h2, h3⟩ := H; exact ⟨cs, v, hf _ (by simp [Kd.operands]) _ h1, h2, hm _ _ h3⟩
  case ia => obtain ⟨ad, len, cap, k, n, h1, h2, h3, h4, h5⟩ := H; exact ⟨ad, len, cap, k, n, hf _ (by simp [Kd.operands]) _ h1, hf _ (by simp [Kd.operands]) _ h2, h3, h4, hm _ _ h5⟩
  case iaa => obtain ⟨ad, k, n, h1, h2, h3, h4, h5⟩ := H; exact ⟨ad, k, n, hf _ (by simp [Kd.operands]) _ h1, hf _ (by simp [Kd.operands]) _ h2, h3, h4, hm _ _ h5⟩
  case sl sz x lo hi mx =>
    obtain ⟨a, len, cap, l, u, m, h1, h2, h3, h4, h5, h6, h7, h8, h9⟩ := H
    exact ⟨a, len, cap, l, u, m, hf _ (by simp [Kd.operands]) _ h1, sliceLo_mp (fun o ho => hf o (by simp only [Kd.operands, List.mem_cons, List.mem_append]; simp [ho])) h2, h3, by simpa using h4, sliceLo_mp (fun o ho => hf o (by simp only [Kd.operands, List.mem_cons, List.mem_append]; simp [ho])) h5, by simpa using h6, sliceLo_mp (fun o ho => hf o (by simp only [Kd.operands, List.mem_cons, List.mem_append]; simp [ho])) h7, by simpa using h8, hm _ _ h9⟩
  case ln => obtain ⟨a, n, c, h1, h2⟩ := H; exact ⟨a, n, c, hf _ (by simp [Kd.operands]) _ h1, hm _ _ h2⟩
  case lns => obtain ⟨a, h1, h2⟩ := H; exact ⟨a, hf _ (by simp [Kd.operands]) _ h1, hm _ _ h2⟩
  case lnm =>
    obtain ⟨r, h1, h2⟩ := H
    refine ⟨r, hf _ (by simp [Kd.operands]) _ h1, ?_⟩
    cases r with
    | none => exact hm _ _ h2
    | some r => obtain ⟨es, c, h3, h4⟩ := h2; exact ⟨es, c, h3, hm _ _ h4⟩
  case ap =>
    obtain ⟨a, n, c, v, m, h1, h2, h3, h4, h5, h6⟩ := H
    refine ⟨a, n, c, v, m, hf _ (by simp [Kd.operands]) _ h1, hf _ (by simp [Kd.operands]) _ h2, h3, h4, h5, ?_⟩
    split
    · rename_i hc; rw [if_pos hc] at h6; obtain ⟨vs, h', e1, e2, e3⟩ := h6; exact ⟨vs, h', e1, e2, hm _ _ e3⟩
    · rename_i hc; rw [if_neg hc] at h6; obtain ⟨us, vs, e1, e2, e3⟩ := h6; exact ⟨us, vs, e1, e2, fun c' hc' => hm _ _ (e3 c' hc')⟩
  case cmp => obtain ⟨u, v, b, h1, h2, h3, h4⟩ := H; exact ⟨u, v, b, hf _ (by simp [Kd.operands]) _ h1, hf _ (by simp [Kd.operands]) _ h2, h3, hm _ _ h4⟩
  case cap => obtain ⟨a, n, c, h1, h2⟩ := H; exact ⟨a, n, c, hf _ (by simp [Kd.operands]) _ h1, hm _ _ h2⟩
  case lkp => obtain ⟨m, key, es, r, h1, h2, h3, h4, h5⟩ := H; exact ⟨m, key, es, r, hf _ (by simp [Kd.operands]) _ h1, hf _ (by simp [Kd.operands]) _ h2, h3, h4, hm _ _ h5⟩
  case idx => obtain ⟨s, k, n, b, h1, h2, h3, h4, h5⟩ := H; exact ⟨s, k, n, b, hf _ (by simp [Kd.operands]) _ h1, hf _ (by simp [Kd.operands]) _ h2, h3, h4, hm _ _ h5⟩
  case mm => obtain ⟨k, n, k', m, h1, h2, h3⟩ := H; exact ⟨k, n, k', m, hf _ (by simp [Kd.operands]) _ h1, hf _ (by simp [Kd.operands]) _ h2, hm _ _ h3⟩
  case sls => obtain ⟨s, l, u, h1, h2, h3, h4, h5, h6⟩ := H; exact ⟨s, l, u, hf _ (by simp [Kd.operands]) _ h1, sliceLo_mp (fun o ho => hf o (by simp only [Kd.operands, List.mem_cons, List.mem_append]; simp [ho])) h2, by simpa using h3, sliceLo_mp (fun o ho => hf o (by simp only [Kd.operands, List.mem_cons, List.mem_append]; simp [ho])) h4, by simpa using h5, hm _ _ h6⟩
  case ent => obtain ⟨r, m, si, se, la, es, c, st, e, h1, h2⟩ := H; exact ⟨r, m, si, se, la, es, c, st, e, hf _ (by simp [Kd.operands]) _ h1, h2.1, h2.2.1, h2.2.2.1, h2.2.2.2.1, h2.2.2.2.2.1, hm _ _ h2.2.2.2.2.2⟩
  case mkm => exact hm _ _ H
  case mup => obtain ⟨b, es, c, key, val, r, h1, h2, h3, h4, h5, h6⟩ := H; exact ⟨b, es, c, key, val, r, hf _ (by simp [Kd.operands]) _ h1, hf _ (by simp [Kd.operands]) _ h2, hf _ (by simp [Kd.operands]) _ h3, h4, h5, hm _ _ h6⟩
  case mpe => obtain ⟨b, es, c, key, r, h1, h2, h4, h5, h6⟩ := H; exact ⟨b, es, c, key, r, hf _ (by simp [Kd.operands]) _ h1, hf _ (by simp [Kd.operands]) _ h2, h4, h5, hm _ _ h6⟩
  case ens => obtain ⟨b, es, c, kk, born, val, i, h1, h2, h3, h4, h5, h6⟩ := H; exact ⟨b, es, c, kk, born, val, i, hf _ (by simp [Kd.operands]) _ h1, hf _ (by simp [Kd.operands]) _ h2, hf _ (by simp [Kd.operands]) _ h3, h4, h5, hm _ _ h6⟩
  case del => obtain ⟨b, es, c, key, r, h1, h2, h4, h5, h6⟩ := H; exact ⟨b, es, c, key, r, hf _ (by simp [Kd.operands]) _ h1, hf _ (by simp [Kd.operands]) _ h2, h4, h5, hm _ _ h6⟩
  case rng => obtain ⟨b, es, c, h1, h2, h3⟩ := H; exact ⟨b, es, c, hf _ (by simp [Kd.operands]) _ h1, h2, hm _ _ h3⟩
  case nxt =>
    obtain ⟨r, m, si, se, la, es, c, h1, h2, h3, h4, h5, h6⟩ := H
    exact ⟨r, m, si, se, la, es, c, hf _ (by simp [Kd.operands]) _ h1, h2, h3, h4, fun e he hc => hm _ _ (h5 e he hc), fun h => hm _ _ (h6 h)⟩
  case mks => obtain ⟨n, m, h1, h2, h3, h4, h5, h6⟩ := H; exact ⟨n, m, hf _ (by simp [Kd.operands]) _ h1, hf _ (by simp [Kd.operands]) _ h2, h3, h4, h5, hm _ _ h6⟩
  case cpy => obtain ⟨a, n, c, v, m, vs, h', h1, h2, h3, h4, h5, h6⟩ := H; exact ⟨a, n, c, v, m, vs, h', hf _ (by simp [Kd.operands]) _ h1, hf _ (by simp [Kd.operands]) _ h2, h3, h4, h5, hm _ _ h6⟩
  case clr => obtain ⟨a, n, c, h', h1, h2, h3⟩ := H; exact ⟨a, n, c, h', hf _ (by simp [Kd.operands]) _ h1, h2, hm _ _ h3⟩
  case ext => obtain ⟨vs, v, h1, h2, h3⟩ := H; exact ⟨vs, v, hf _ (by simp [Kd.operands]) _ h1, h2, hm _ _ h3⟩
  case call => obtain ⟨fid, cap, vs, h1, h2, h3⟩ := H; exact ⟨fid, cap, vs, hf _ (by simp [Kd.operands]) _ h1, evs_mp (fun o ho => hf o (by simp [Kd.operands, ho])) h2, h3.mono hm⟩
  case mki => obtain ⟨v, a, b⟩ := H; exact ⟨v, hf _ (by simp [Kd.operands]) _ a, hm _ _ b⟩
  case mkf => obtain ⟨v, a, b⟩ := H; exact ⟨v, evs_mp hf a, hm _ _ b⟩
  case raw o =>
    intro a w N ha hw
    obtain ⟨v, w', h1, h2, h3⟩ := H a w N (ha.weaken (hr _ rfl)) hw
    exact ⟨v, w', h1, h2, hm _ _ h3⟩

theorem Kd.mp_id (k : Kd) : k.mp (fun o => o) = k := by
  have hS : (Src.mp fun o : Operand => o) = id := by funext s; cases s <;> rfl
  cases k <;> simp [Kd.mp, hS]
theorem Kd.mono {P : Program} {k : Kd} {ρ ρ0 : Env} {h : Heap} {K K' : Value → Heap → Prop} (hs : ρ.sub ρ0) (hm : ∀ v h, K v h → K' v h) (H : k.sem P ρ h K) : k.sem P ρ0 h K' :=
  Kd.lift (f := fun o => o) (fun o _ v e => ev_sub hs e) (fun _ _ _ _ _ => ⟨rfl, rfl⟩) (fun _ _ => hs) hm (by rw [Kd.mp_id]; exact H)

theorem semG_mono {P : Program} {c : COp} {h : Heap} {K K' : Value → Heap → Prop} (hs : ρ.sub ρ0) (hm : ∀ v h, K v h → K' v h) (H : semG P c ρ h K) : semG P c ρ0 h K' := by
  obtain ⟨d, k, g⟩ := c
  cases g with
  | none => exact Kd.mono hs hm H
  | some tb =>
    obtain ⟨t, b⟩ := tb
    obtain ⟨gv, hg, h1, h2⟩ := H
    exact ⟨gv, hs _ _ hg, fun e => Kd.mono hs hm (h1 e), fun e => hm _ _ (h2 e)⟩
theorem againG_mono {P : Program} {c : COp} {h : Heap} (hs : ρ.sub ρ0) (H : againG P c ρ h) : againG P c ρ0 h :=
  semG_mono hs (fun v h' ⟨e, hd⟩ => ⟨e, fun d hd' => hs _ _ (hd d hd')⟩) H
end

/-- Of a frame of which more is known the region tells as much. -/
theorem runT_sub {P : Program} : ∀ {t : Tr} {ρ ρ0 : Env} {h : Heap} {K K' : Env → Heap → Prop}, ρ.sub ρ0 → (∀ ρ ρ' h, ρ.sub ρ' → K ρ h → K' ρ' h) → runT P t ρ h K → runT P t ρ0 h K'
  | .done, _, _, _, _, _, hs, hm, h => hm _ _ _ hs h
  | .st c t, _, _, _, _, _, hs, hm, h => semG_mono hs (fun v h' H => runT_sub (hs.put c.dst v) hm H) h
  | .ag c t, _, _, _, _, _, hs, hm, h => ⟨againG_mono hs h.1, runT_sub hs hm h.2⟩
  | .both t u, _, _, _, _, _, hs, hm, h => ⟨runT_sub hs hm h.1, runT_sub hs hm h.2⟩
theorem seqH_mono {K K' : Fr → Heap → Prop} {Q Q' : Exit → Fr → Heap → Prop} (hk : ∀ ρ h, K ρ h → K' ρ h) (hq : ∀ e ρ h, Q e ρ h → Q' e ρ h) : ∀ e ρ h, seqH K Q e ρ h → seqH K' Q' e ρ h
  | .normal, ρ, h, x => hk ρ h x
  | .exit _, _, _, x => hq _ _ _ x
  | .ret, _, _, x => hq _ _ _ x
  | .goto _, _, _, x => hq _ _ _ x
  | .panic _, _, _, x => hq _ _ _ x
  | .outgrown, _, _, x => hq _ _ _ x
theorem blockH_mono {id : Nat} {Q Q' : Exit → Fr → Heap → Prop} (hq : ∀ e ρ h, Q e ρ h → Q' e ρ h) : ∀ e ρ h, blockH id Q e ρ h → blockH id Q' e ρ h
  | .exit i, ρ, h, x => by
    simp only [blockH] at x ⊢
    split
    · rename_i e; rw [if_pos e] at x; exact hq _ _ _ x
    · rename_i e; rw [if_neg e] at x; exact hq _ _ _ x
  | .normal, _, _, x => hq _ _ _ x
  | .ret, _, _, x => hq _ _ _ x
  | .goto _, _, _, x => hq _ _ _ x
  | .panic _, _, _, x => hq _ _ _ x
  | .outgrown, _, _, x => hq _ _ _ x
theorem runT_mono' {P : Program} : ∀ {t : Tr} {ρ : Env} {h : Heap} {K K' : Env → Heap → Prop}, (∀ ρ h, K ρ h → K' ρ h) → runT P t ρ h K → runT P t ρ h K'
  | .done, _, _, _, _, hm, h => hm _ _ h
  | .st c t, _, _, _, _, hm, h => semG_mono Env.sub.rfl (fun v h' H => runT_mono' hm H) h
  | .ag c t, _, _, _, _, hm, h => ⟨h.1, runT_mono' hm h.2⟩
  | .both t u, _, _, _, _, hm, h => ⟨runT_mono' hm h.1, runT_mono' hm h.2⟩
theorem wpC_mono {P : Program} : ∀ {cc : CC} {Q Q' : Exit → Fr → Heap → Prop} {ρ : Fr} {h : Heap}, (∀ e ρ h, Q e ρ h → Q' e ρ h) → wpC P cc Q ρ h → wpC P cc Q' ρ h
  | .skip, _, _, _, _, hq, H => hq _ _ _ H
  | .ops t, _, _, _, _, hq, ⟨M, H⟩ => ⟨M, fun ρ h1 h2 => runT_mono' (fun _ _ x φ' hφ => hq _ _ _ (x φ' hφ)) (H ρ h1 h2)⟩
  | .seq a b, _, _, _, _, hq, H => wpC_mono (cc := a) (seqH_mono (fun _ _ x => wpC_mono (cc := b) hq x) hq) H
  | .cond o a b, _, _, _, _, hq, ⟨x, h0, h1, h2⟩ => ⟨x, h0, fun e => wpC_mono hq (h1 e), fun e => wpC_mono hq (h2 e)⟩
  | .block id a, _, _, _, _, hq, H => wpC_mono (cc := a) (blockH_mono hq) H
  | .loop a, _, _, _, _, hq, ⟨I, h0, h1⟩ => ⟨I, h0, fun n ρ h hi => wpC_mono (seqH_mono (fun _ _ x => x) hq) (h1 n ρ h hi)⟩
  | .exit id, _, _, _, _, hq, H => hq _ _ _ H
  | .ret, _, _, _, _, hq, H => hq _ _ _ H
  | .rangeF g ps x y, _, _, _, _, hq, ⟨fid, lb, h1, h2⟩ => ⟨fid, lb, h1, fun r l h1 e1 e2 hr => (h2 r l h1 e1 e2 hr).mono fun _ _ => rangeH_mono fun e h => hq e _ h⟩

/-! ### The rules, over what is known -/

section
variable {P : Program} {N : Nat}

/-- From whatever frame and heap fit, the body comes to an end that fits. (N: not looked at.) -/
structure J (P : Program) (N : Nat) (cc : CC) (ρ : Env) (cs : List Assn) (Q : Exit → Env → List Assn → Prop) : Prop where
  run : ∀ φ, Agr φ ρ → ∀ h, Sat h cs → wpC P cc (fun e φ' h' => ∃ ρ' cs', Agr φ' ρ' ∧ Sat h' cs' ∧ Q e ρ' cs') φ h

/-- The same of a region's operations. -/
structure JT (P : Program) (t : Tr) (ρ : Env) (cs : List Assn) (K : Env → List Assn → Prop) : Prop where
  run : ∀ h, Sat h cs → runT P t ρ h fun ρ' h' => ∃ ρ2 cs', ρ2.sub ρ' ∧ Sat h' cs' ∧ K ρ2 cs'

variable {ρ : Env} {cs : List Assn} {Q : Exit → Env → List Assn → Prop}

theorem J.skip (h : Q .normal ρ cs) : J P N .skip ρ cs Q := ⟨fun _ hs _ hc => ⟨ρ, cs, hs, hc, h⟩⟩
theorem J.exit {id : Nat} (h : Q (.exit id) ρ cs) : J P N (.exit id) ρ cs Q := ⟨fun _ hs _ hc => ⟨ρ, cs, hs, hc, h⟩⟩
theorem J.ret (h : Q .ret ρ cs) : J P N .ret ρ cs Q := ⟨fun _ hs _ hc => ⟨ρ, cs, hs, hc, h⟩⟩

theorem JT.sub {t : Tr} {ρ0 : Env} {K : Env → List Assn → Prop} (hs : ρ.sub ρ0) (h : JT P t ρ cs K) : JT P t ρ0 cs K :=
  ⟨fun w hc => runT_sub hs (fun _ _ _ hs' ⟨ρ2, cs', h1, h2, h3⟩ => ⟨ρ2, cs', h1.tr hs', h2, h3⟩) (h.run w hc)⟩

theorem Agr.sub {φ : Fr} {ρ ρ' : Env} (h : Agr φ ρ) (hs : ρ'.sub ρ) : Agr φ ρ' := fun t v e => h t v (hs t v e)
/-- The keys of what is known. -/
def keyMax : Env → Nat
  | [] => 0
  | (d, _) :: r => max (d + 1) (keyMax r)
theorem keyMax_lt : ∀ {ρ : Env} {t : Nat} {v : Value}, ρ.lk t = some v → t < keyMax ρ
  | [], _, _, h => by simp [Env.lk] at h
  | (d, u) :: r, t, v, h => by
    rw [lk_cons] at h
    simp only [keyMax]
    split at h
    · omega
    · have := keyMax_lt h; omega
theorem sub_of {φ : Fr} {ρ ρ0 : Env} (h : Agr φ ρ) (h0 : Agr φ ρ0) (ht : Tot (keyMax ρ) ρ0) : ρ.sub ρ0 := fun t v e => by
  obtain ⟨u, hu⟩ := ht t (keyMax_lt e)
  rw [hu, ← h t v e, ← h0 t u hu]

theorem J.ops {t : Tr} (h : JT P t ρ cs fun ρ' cs' => Q .normal ρ' cs') : J P N (.ops t) ρ cs Q :=
  ⟨fun φ hs w hc => ⟨keyMax ρ, fun ρ0 h0 ht => runT_mono' (fun _ _ ⟨ρ2, cs', h1, h2, h3⟩ φ' hφ => ⟨ρ2, cs', hφ.sub h1, h2, h3⟩) ((h.sub (sub_of hs h0 ht)).run w hc)⟩⟩

def seqQ (K : Env → List Assn → Prop) (Q : Exit → Env → List Assn → Prop) : Exit → Env → List Assn → Prop
  | .normal, ρ, cs => K ρ cs
  | e, ρ, cs => Q e ρ cs

theorem J.seq {x y : CC} (h : J P N x ρ cs (seqQ (fun ρ' cs' => J P N y ρ' cs' Q) Q)) : J P N (.seq x y) ρ cs Q := ⟨fun φ hs w hc => by
  refine wpC_mono (cc := x) ?_ (h.run φ hs w hc)
  rintro e φ' h' ⟨ρ2, cs', h1, h2, h3⟩
  cases e with
  | normal =>
    have h3 : J P N y ρ2 cs' Q := h3
    exact h3.run φ' h1 h' h2
  | _ => exact ⟨ρ2, cs', h1, h2, h3⟩⟩

theorem J.cond {o : Operand} {x y : CC} {b : Bool} (hb : ρ.ev o = some (.bool b)) (h1 : b = true → J P N x ρ cs Q) (h2 : b = false → J P N y ρ cs Q) : J P N (.cond o x y) ρ cs Q :=
  ⟨fun φ hs w hc => ⟨b, evF hs hb, fun e => (h1 e).run φ hs w hc, fun e => (h2 e).run φ hs w hc⟩⟩

def blockQ (id : Nat) (Q : Exit → Env → List Assn → Prop) : Exit → Env → List Assn → Prop
  | .exit i, ρ, cs => if i = id then Q .normal ρ cs else Q (.exit i) ρ cs
  | e, ρ, cs => Q e ρ cs

theorem J.block {id : Nat} {x : CC} (h : J P N x ρ cs (blockQ id Q)) : J P N (.block id x) ρ cs Q := ⟨fun φ hs w hc => by
  refine wpC_mono (cc := x) ?_ (h.run φ hs w hc)
  rintro e φ' h' ⟨ρ2, cs', h1, h2, h3⟩
  cases e with
  | exit i =>
    simp only [blockQ, blockH] at h3 ⊢
    split
    · rename_i hi; rw [if_pos hi] at h3; exact ⟨ρ2, cs', h1, h2, h3⟩
    · rename_i hi; rw [if_neg hi] at h3; exact ⟨ρ2, cs', h1, h2, h3⟩
  | _ => exact ⟨ρ2, cs', h1, h2, h3⟩⟩

/-- What is known of memory says what else is known of it. -/
def Up (cs ds : List Assn) : Prop := ∀ h, Sat h cs → Sat h ds

theorem J.weak {cc : CC} {ρ' : Env} {cs' : List Assn} (h : J P N cc ρ' cs' Q) (hρ : ρ'.sub ρ) (hc : Up cs cs') : J P N cc ρ cs Q :=
  ⟨fun φ hs w hw => h.run φ (hs.sub hρ) w (hc _ hw)⟩

theorem J.mono {cc : CC} {Q' : Exit → Env → List Assn → Prop} (h : J P N cc ρ cs Q') (hq : ∀ e ρ cs, Q' e ρ cs → Q e ρ cs) : J P N cc ρ cs Q :=
  ⟨fun φ hs w hc => wpC_mono (fun _ _ _ ⟨ρ2, cs', h1, h2, h3⟩ => ⟨ρ2, cs', h1, h2, hq _ _ _ h3⟩) (h.run φ hs w hc)⟩

/-- A loop: what holds at its head ('E i', 'C i', for i with 'G i'), and what goes down. -/
theorem J.loop {ι : Type} (G : ι → Prop) (E : ι → Env) (C : ι → List Assn) (μ : ι → Nat) {x : CC} (i0 : ι) (hG : G i0) (hE : (E i0).sub ρ) (hC : Up cs (C i0))
    (round : ∀ i, G i → J P N x (E i) (C i) (seqQ (fun ρ' cs' => ∃ j, G j ∧ μ j < μ i ∧ (E j).sub ρ' ∧ Up cs' (C j)) Q)) : J P N (.loop x) ρ cs Q := ⟨fun φ hs w hc => by
  refine ⟨fun n φ h => ∃ i, G i ∧ μ i = n ∧ Agr φ (E i) ∧ Sat h (C i), ⟨μ i0, i0, hG, rfl, hs.sub hE, hC _ hc⟩, ?_⟩
  rintro n φ1 h1 ⟨i, hi, rfl, hs1, hc1⟩
  refine wpC_mono ?_ ((round i hi).run φ1 hs1 h1 hc1)
  rintro e φ' h' ⟨ρ2, cs', k1, k2, k3⟩
  cases e with
  | normal =>
    obtain ⟨j, hj, hlt, hE', hC'⟩ := k3
    exact ⟨μ j, hlt, j, hj, rfl, k1.sub hE', hC' _ k2⟩
  | _ => exact ⟨ρ2, cs', k1, k2, k3⟩⟩

end
end Go.SL
