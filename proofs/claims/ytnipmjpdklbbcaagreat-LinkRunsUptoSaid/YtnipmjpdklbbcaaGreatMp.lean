/- Layer 8: the reference's row of records against the table (plain Lean). Conditions: none. -/
import Derived.Test.YtnipmjpdklbbcaaGreatMc
set_option linter.unusedSimpArgs false
set_option linter.unusedVariables false
namespace Go.SL
open Go

/-- The place of a list's record in the row, or where it would stand; is it there? -/
def rat (w : Vec) : List RecS → Nat × Bool
  | [] => (0, false)
  | r :: m => if r.w = w then (0, true) else if vecOk w ∧ vcmp w r.w < 0 then (0, false) else ((rat w m).1 + 1, (rat w m).2)
def rgo (w : Vec) (r : RecS) : Prop := r.w ≠ w ∧ ¬ (vecOk w ∧ vcmp w r.w < 0)
theorem rat_go {w : Vec} : ∀ {k : Nat} {m : List RecS}, k ≤ m.length → (∀ j, j < k → rgo w (nth m j)) → rat w m = ((rat w (m.drop k)).1 + k, (rat w (m.drop k)).2)
  | 0, m, _, _ => by simp
  | k + 1, [], h, _ => by simp at h
  | k + 1, r :: m, h, hg => by
    have h0 := hg 0 (by omega)
    have ih := rat_go (k := k) (m := m) (by simpa using h) (fun j hj => by have := hg (j + 1) (by omega); simpa [nth] using this)
    have h0' : r.w ≠ w ∧ ¬ (vecOk w ∧ vcmp w r.w < 0) := h0
    rw [rat, if_neg h0'.1, if_neg h0'.2, ih]
    simp [Nat.add_assoc]
theorem drop_nth {α : Type} [Inhabited α] {m : List α} {k : Nat} (h : k < m.length) : m.drop k = nth m k :: m.drop (k + 1) := by rw [nth_eq h, List.drop_eq_getElem_cons h]
theorem rat_hit {w : Vec} {k : Nat} {m : List RecS} (h : k < m.length) (hg : ∀ j, j < k → rgo w (nth m j)) (e : (nth m k).w = w) : rat w m = (k, true) := by
  rw [rat_go (by omega) hg, drop_nth h, rat, if_pos e]; simp
theorem rat_stop {w : Vec} {k : Nat} {m : List RecS} (h : k < m.length) (hg : ∀ j, j < k → rgo w (nth m j)) (e : (nth m k).w ≠ w) (e2 : vecOk w ∧ vcmp w (nth m k).w < 0) : rat w m = (k, false) := by
  rw [rat_go (by omega) hg, drop_nth h, rat, if_neg e, if_pos e2]; simp
theorem rat_end {w : Vec} {m : List RecS} (hg : ∀ j, j < m.length → rgo w (nth m j)) : rat w m = (m.length, false) := by
  rw [rat_go (Nat.le_refl _) hg, List.drop_length, rat]; simp

def rsrt (m : List RecS) : Prop := m.Pairwise (fun x y => vlt x.w y.w) ∧ ∀ x ∈ m, vecG x.w
theorem vlt_ne {v w : Vec} (h : vlt v w) : v ≠ w := fun e => by rw [e] at h; exact lexLt_irrefl _ h
theorem vlt_trans {u v w : Vec} (h1 : vlt u v) (h2 : vlt v w) : vlt u w := lexLt_trans h1 h2
theorem rat_split {w : Vec} (hb : 0 ≤ w.bits) : ∀ {m : List RecS}, rsrt m → (∃ A r B, m = A ++ r :: B ∧ r.w = w ∧ rat w m = (A.length, true)) ∨
    ((rat w m).2 = false ∧ (∀ x ∈ m, x.w ≠ w) ∧ (vecOk w → ∃ A B, m = A ++ B ∧ (rat w m).1 = A.length ∧ (∀ x ∈ A, vlt x.w w) ∧ ∀ x ∈ B, vlt w x.w))
  | [], _ => .inr ⟨rfl, by simp, fun _ => ⟨[], [], rfl, rfl, by simp, by simp⟩⟩
  | r :: m, h => by
    have hp := List.pairwise_cons.1 h.1
    by_cases e : r.w = w
    · exact .inl ⟨[], r, m, rfl, e, by rw [rat, if_pos e]; rfl⟩
    · by_cases e2 : vecOk w ∧ vcmp w r.w < 0
      · have hl : vlt w r.w := by rw [← vcmp_lt]; exact e2.2
        have ha : ∀ x ∈ r :: m, vlt w x.w := fun x hx => by
          rcases List.mem_cons.1 hx with rfl | hx
          · exact hl
          · exact vlt_trans hl (hp.1 x hx)
        exact .inr ⟨by rw [rat, if_neg e, if_pos e2], fun x hx => (vlt_ne (ha x hx)).symm, fun _ => ⟨[], r :: m, rfl, by rw [rat, if_neg e, if_pos e2]; rfl, by simp, ha⟩⟩
      · have hr : rat w (r :: m) = ((rat w m).1 + 1, (rat w m).2) := by rw [rat, if_neg e, if_neg e2]
        rcases rat_split (m := m) hb ⟨hp.2, fun x hx => h.2 x (by simp [hx])⟩ with ⟨A, r', B, e3, e4, e5⟩ | ⟨e3, e4, e5⟩
        · exact .inl ⟨r :: A, r', B, by rw [e3]; rfl, e4, by rw [hr, e5]; rfl⟩
        · refine .inr ⟨by rw [hr]; exact e3, fun x hx => ?_, fun hw => ?_⟩
          · rcases List.mem_cons.1 hx with rfl | hx
            · exact e
            · exact e4 x hx
          · obtain ⟨A, B, f1, f2, f3, f4⟩ := e5 hw
            refine ⟨r :: A, B, by rw [f1]; rfl, by rw [hr]; simp [f2], fun x hx => ?_, f4⟩
            rcases List.mem_cons.1 hx with rfl | hx
            · rcases vlt_total (h.2 x (by simp)) ⟨hw, hb⟩ with q | q | q
              · exact q
              · exact absurd q e
              · exact absurd ⟨hw, by rw [vcmp_lt]; exact q⟩ e2
            · exact f3 x hx

/-- The record of a list in the row. -/
def rfind (m : List RecS) (w : Vec) : Option RecS := m.find? (fun r => decide (r.w = w))
theorem rfind_none {m : List RecS} {w : Vec} : rfind m w = none ↔ ∀ x ∈ m, x.w ≠ w := by unfold rfind; rw [List.find?_eq_none]; simp
theorem rfind_w {m : List RecS} {w : Vec} {r : RecS} (h : rfind m w = some r) : r ∈ m ∧ r.w = w := by
  unfold rfind at h; exact ⟨List.mem_of_find?_eq_some h, by simpa using List.find?_some h⟩
theorem rfind_mid {A B : List RecS} {r : RecS} {w : Vec} (hA : ∀ x ∈ A, x.w ≠ r.w) : rfind (A ++ r :: B) w = if w = r.w then some r else rfind (A ++ B) w := by
  unfold rfind
  rw [List.find?_append, List.find?_append, List.find?_cons]
  by_cases e : w = r.w
  · subst e
    rw [if_pos rfl, show A.find? (fun x => decide (x.w = r.w)) = none by rw [List.find?_eq_none]; simpa using hA]
    simp
  · rw [if_neg e, show decide (r.w = w) = false by simp [Ne.symm e]]
theorem rsrt_mem {m : List RecS} (h : rsrt m) {x y : RecS} (hx : x ∈ m) (hy : y ∈ m) (e : x.w = y.w) : x = y := by
  obtain ⟨A, B, rfl⟩ := List.append_of_mem hx
  have hp := List.pairwise_append.1 h.1
  have hq := List.pairwise_cons.1 hp.2.1
  rcases List.mem_append.1 hy with hy | hy
  · exact absurd e.symm (vlt_ne (hp.2.2 y hy x (by simp)))
  · rcases List.mem_cons.1 hy with rfl | hy
    · rfl
    · exact absurd e (vlt_ne (hq.1 y hy))
theorem rfind_mem {m : List RecS} (h : rsrt m) {r : RecS} (hr : r ∈ m) : rfind m r.w = some r := by
  cases e : rfind m r.w with
  | none => exact absurd rfl (rfind_none.1 e r hr)
  | some x => have := rfind_w e; rw [rsrt_mem h this.1 hr this.2]
theorem rat_find {m : List RecS} (h : rsrt m) {w : Vec} (hb : 0 ≤ w.bits) : (rat w m).2 = (rfind m w).isSome ∧ ∀ r, rfind m w = some r → (rat w m).1 < m.length ∧ nth m (rat w m).1 = r := by
  rcases rat_split hb h with ⟨A, r, B, rfl, e2, e3⟩ | ⟨e1, e2, _⟩
  · have hf : rfind (A ++ r :: B) w = some r := by rw [← e2]; exact rfind_mem h (by simp)
    rw [hf, e3]
    refine ⟨rfl, fun r' e => ?_⟩
    injection e with e; subst e
    have hl : A.length < (A ++ r :: B).length := by simp
    refine ⟨hl, by rw [nth_eq hl]; simp⟩
  · have := rfind_none.2 e2
    rw [this, e1]; exact ⟨rfl, fun r e => by cases e⟩

def rset (m : List RecS) (r : RecS) : List RecS := m.take (rat r.w m).1 ++ [r] ++ m.drop (if (rat r.w m).2 then (rat r.w m).1 + 1 else (rat r.w m).1)
theorem rset_spec {m : List RecS} (h : rsrt m) {r : RecS} (hr : vecG r.w) : ∃ A B, rset m r = A ++ r :: B ∧ (∀ x ∈ A, vlt x.w r.w) ∧ (∀ x ∈ B, vlt r.w x.w) ∧ (m = A ++ B ∨ ∃ y, y.w = r.w ∧ m = A ++ y :: B) := by
  unfold rset
  rcases rat_split hr.2 h with ⟨A, y, B, rfl, e2, e3⟩ | ⟨e1, e2, e3⟩
  · have hp := List.pairwise_append.1 h.1
    have hq := List.pairwise_cons.1 hp.2.1
    refine ⟨A, B, ?_, fun x hx => by rw [← e2]; exact hp.2.2 x hx y (by simp), fun x hx => by rw [← e2]; exact hq.1 x hx, .inr ⟨y, e2, rfl⟩⟩
    rw [e3]; simp
  · obtain ⟨A, B, rfl, f2, f3, f4⟩ := e3 hr.1
    refine ⟨A, B, ?_, f3, f4, .inl rfl⟩
    rw [e1, f2]; simp
theorem rset_ok {m : List RecS} (h : rsrt m) {r : RecS} (hr : vecG r.w) : rsrt (rset m r) ∧ (∀ w, rfind (rset m r) w = if w = r.w then some r else rfind m w) ∧ ∀ x ∈ rset m r, x = r ∨ x ∈ m := by
  obtain ⟨A, B, e, hA, hB, hm⟩ := rset_spec h hr
  have hAB : rsrt (A ++ B) := by
    rcases hm with rfl | ⟨y, _, rfl⟩
    · exact h
    · exact ⟨h.1.sublist (by simp), fun x hx => h.2 x (by simp at hx ⊢; rcases hx with hx | hx <;> simp [hx])⟩
  have hf : ∀ w, w ≠ r.w → rfind m w = rfind (A ++ B) w := by
    intro w hw
    rcases hm with rfl | ⟨y, hy, rfl⟩
    · rfl
    · rw [rfind_mid (fun x hx => by rw [hy]; exact vlt_ne (hA x hx)), if_neg (by rw [hy]; exact hw)]
  rw [e]
  refine ⟨⟨?_, fun x hx => ?_⟩, fun w => ?_, fun x hx => ?_⟩
  · have hp := List.pairwise_append.1 hAB.1
    refine List.pairwise_append.2 ⟨hp.1, List.pairwise_cons.2 ⟨hB, hp.2.1⟩, fun x hx y hy => ?_⟩
    rcases List.mem_cons.1 hy with rfl | hy
    · exact hA x hx
    · exact hp.2.2 x hx y hy
  · rcases List.mem_append.1 hx with hx | hx
    · exact hAB.2 x (by simp [hx])
    · rcases List.mem_cons.1 hx with rfl | hx
      · exact hr
      · exact hAB.2 x (by simp [hx])
  · rw [rfind_mid (fun x hx => vlt_ne (hA x hx))]
    by_cases hw : w = r.w
    · rw [if_pos hw, if_pos hw]
    · rw [if_neg hw, if_neg hw, hf w hw]
  · rcases List.mem_append.1 hx with hx | hx
    · right; rcases hm with rfl | ⟨y, _, rfl⟩ <;> simp [hx]
    · rcases List.mem_cons.1 hx with rfl | hx
      · exact .inl rfl
      · right; rcases hm with rfl | ⟨y, _, rfl⟩ <;> simp [hx]
def rdel (m : List RecS) (w : Vec) : List RecS := m.take (rat w m).1 ++ m.drop ((rat w m).1 + 1)
theorem rdel_ok {m : List RecS} (h : rsrt m) {w : Vec} (hb : 0 ≤ w.bits) (hi : (rfind m w).isSome) : rsrt (rdel m w) ∧ (∀ w', rfind (rdel m w) w' = if w' = w then none else rfind m w') ∧ ∀ x ∈ rdel m w, x ∈ m ∧ x.w ≠ w := by
  unfold rdel
  rcases rat_split hb h with ⟨A, y, B, rfl, rfl, e3⟩ | ⟨e1, e2, e3⟩
  · have hp := List.pairwise_append.1 h.1
    have hq := List.pairwise_cons.1 hp.2.1
    have hA : ∀ x ∈ A, x.w ≠ y.w := fun x hx => vlt_ne (hp.2.2 x hx y (by simp))
    have hB : ∀ x ∈ B, x.w ≠ y.w := fun x hx => (vlt_ne (hq.1 x hx)).symm
    rw [e3]
    have e4 : (A ++ y :: B).take A.length ++ (A ++ y :: B).drop (A.length + 1) = A ++ B := by simp
    rw [e4]
    refine ⟨⟨h.1.sublist (by simp), fun x hx => h.2 x (by simp at hx ⊢; rcases hx with hx | hx <;> simp [hx])⟩, fun w' => ?_, fun x hx => ?_⟩
    · rw [rfind_mid hA]
      by_cases e : w' = y.w
      · rw [if_pos e, rfind_none.2]
        intro x hx; rw [e]
        rcases List.mem_append.1 hx with hx | hx
        · exact hA x hx
        · exact hB x hx
      · rw [if_neg e, if_neg e]
    · rcases List.mem_append.1 hx with hx | hx
      · exact ⟨by simp [hx], hA x hx⟩
      · exact ⟨by simp [hx], hB x hx⟩
  · rw [rfind_none.2 e2] at hi; cases hi

/-- What the row tells of a list. -/
def rget (l : LK) (m : List RecS) (w : Vec) : Option RecS := match rfind m w with
  | some r => some r
  | none => if l.isEnd ∧ l.may w then some (l.first.state w) else none
/-- The row tells what the table tells. -/
structure RRel (l : LK) (m : List RecS) : Prop where
  srt : rsrt m
  keys : ∀ x ∈ m, (alk l.m x.w).isSome
  get : ∀ w, rget l m w = (l.rec? w).map (fun a => a.state w)
theorem RRel.new (me : Ref) : RRel ⟨me, []⟩ [] := ⟨⟨.nil, by simp⟩, by simp, fun w => by
  unfold rget LK.rec? rfind alk
  simp only [List.find?_nil]
  split <;> rfl⟩
theorem first_upd (l : LK) (w : Vec) (a : RecA) : (l.upd w a).first = l.first := rfl
theorem first_touch (l : LK) (w : Vec) : (l.touch w).first = l.first := by unfold LK.first; rw [touch_me]
theorem first_del (l : LK) (w : Vec) : (l.del w).first = l.first := rfl
theorem RRel.touch {l : LK} {m : List RecS} (R : RRel l m) (w : Vec) : RRel (l.touch w) m := by
  refine ⟨R.srt, fun x hx => ?_, fun w' => ?_⟩
  · have := R.keys x hx
    unfold LK.touch
    split
    · exact this
    · split
      · simp only [alk_put]; split
        · rfl
        · exact this
      · exact this
  · rw [rec?_touch, ← R.get w']; unfold rget; simp only [touch_isEnd, touch_may, first_touch]
theorem RRel.upd {l : LK} {m : List RecS} (R : RRel l m) {w : Vec} (hw : vecG w) (a : RecA) : RRel (l.upd w a) (rset m (a.state w)) := by
  obtain ⟨h1, h2, h3⟩ := rset_ok R.srt (r := a.state w) hw
  refine ⟨h1, fun x hx => ?_, fun w' => ?_⟩
  · unfold LK.upd; simp only [alk_put]
    split
    · rfl
    · rename_i hne
      rcases h3 x hx with rfl | hx
      · exact absurd rfl hne
      · exact R.keys x hx
  · rw [rec?_upd]
    unfold rget
    have h2 : ∀ w', rfind (rset m (a.state w)) w' = if w' = w then Option.some (a.state w) else rfind m w' := h2
    rw [h2]
    by_cases e : w' = w
    · subst e; rw [if_pos rfl, if_pos rfl]; rfl
    · rw [if_neg e, if_neg e, ← R.get w']; rfl
theorem RRel.find {l : LK} {m : List RecS} (R : RRel l m) (he : ¬ l.isEnd) (w : Vec) : rfind m w = (alk l.m w).map (fun a => a.state w) := by
  have h := R.get w
  unfold rget LK.rec? at h
  cases e1 : rfind m w <;> cases e2 : alk l.m w <;> rw [e1, e2] at h <;> simp [he] at h ⊢ <;> exact h
theorem RRel.del {l : LK} {m : List RecS} (R : RRel l m) (I : l.Inv) (he : ¬ l.isEnd) {w : Vec} (hb : 0 ≤ w.bits) (hi : (alk l.m w).isSome) : RRel (l.del w) (rdel m w) := by
  have hf : (rfind m w).isSome := by rw [R.find he]; simpa using hi
  obtain ⟨h1, h2, h3⟩ := rdel_ok R.srt hb hf
  refine ⟨h1, fun x hx => ?_, fun w' => ?_⟩
  · obtain ⟨a, b⟩ := h3 x hx
    unfold LK.del; simp only [alk_del I.nd, if_neg b]; exact R.keys x a
  · rw [rec?_del I.nd]
    unfold rget
    rw [h2]
    have hE : ¬ ((l.del w).isEnd ∧ (l.del w).may w') := fun h => he h.1
    by_cases e : w' = w
    · subst e; rw [if_pos rfl, if_pos rfl]; simp only [if_neg hE, if_neg (show ¬ (l.isEnd ∧ l.may w') from fun h => he h.1)]; rfl
    · rw [if_neg e, if_neg e, ← R.get w']; rfl
theorem RRel.some {l : LK} {m : List RecS} (R : RRel l m) {w : Vec} {a : RecA} (h : l.rec? w = some a) : rfind m w = some (a.state w) ∨ rfind m w = none ∧ l.isEnd ∧ l.may w ∧ a.state w = l.first.state w := by
  have := R.get w
  rw [h] at this; unfold rget at this
  cases e : rfind m w with
  | some r => rw [e] at this; exact .inl this
  | none =>
    rw [e] at this; simp only at this
    split at this
    · rename_i hc; injection this with this; exact .inr ⟨rfl, hc.1, hc.2, this.symm⟩
    · cases this
theorem RRel.none {l : LK} {m : List RecS} (R : RRel l m) {w : Vec} (h : l.rec? w = none) : rfind m w = none ∧ ¬ (l.isEnd ∧ l.may w) := by
  have := R.get w
  rw [h] at this; unfold rget at this
  cases e : rfind m w with
  | some r => rw [e] at this; cases this
  | none =>
    rw [e] at this; simp only at this
    split at this
    · cases this
    · rename_i hc; exact ⟨rfl, hc⟩

/-- All that is told. -/
def rsel (l : LK) (s : RecS) : Bool := !decide l.isEnd || !decide (s = l.first.state s.w)
def rall (l : LK) (m : List RecS) : List RecS := m.filter (rsel l)
theorem nodup_sub {α : Type} [DecidableEq α] : ∀ {a b : List α}, a.Nodup → (∀ x ∈ a, x ∈ b) → a.length ≤ b.length
  | [], _, _, _ => by simp
  | x :: a, b, hn, h => by
    have hp := List.nodup_cons.1 hn
    have h1 := nodup_sub (a := a) (b := b.erase x) hp.2 (fun y hy => (List.mem_erase_of_ne (fun e => hp.1 (by rw [← e]; exact hy))).2 (h y (by simp [hy])))
    have hx : x ∈ b := h x (by simp)
    have h2 := List.length_erase_of_mem hx
    have h3 := List.length_pos_of_mem hx
    simp only [List.length_cons]; omega
theorem rsrt_nodup {m : List RecS} (h : rsrt m) : (m.map (·.w)).Nodup := by
  rw [List.Nodup, List.pairwise_map]; exact h.1.imp vlt_ne
theorem alk_mem {κ β : Type} [DecidableEq κ] {m : List (κ × β)} {k : κ} (h : (alk m k).isSome) : k ∈ m.map (·.1) := by
  cases e : alk m k with
  | none => rw [e] at h; cases h
  | some v => exact List.mem_map.2 ⟨_, mem_alk e, rfl⟩
theorem RRel.len {l : LK} {m : List RecS} (R : RRel l m) : m.length ≤ l.m.length := by
  have := nodup_sub (a := m.map (·.w)) (b := l.m.map (·.1)) (rsrt_nodup R.srt) (fun w hw => by
    obtain ⟨x, hx, rfl⟩ := List.mem_map.1 hw
    exact alk_mem (R.keys x hx))
  simpa using this
theorem alk_of_mem {κ β : Type} [DecidableEq κ] {m : List (κ × β)} (hn : ndk m) {x : κ × β} (h : x ∈ m) : alk m x.1 = some x.2 := by
  cases e : alk m x.1 with
  | none =>
    have := alk_none_aix e
    rw [alk_aix, this] at e
    exfalso
    have hx : x.1 ∈ m.map (·.1) := List.mem_map.2 ⟨x, h, rfl⟩
    unfold aix at this
    simp at this
    exact this _ _ h rfl
  | some v =>
    have h2 := mem_alk e
    obtain ⟨k, b⟩ := x
    have : v = b := by
      unfold ndk at hn
      obtain ⟨A, B, rfl⟩ := List.append_of_mem h
      rw [List.map_append, List.map_cons, List.nodup_append] at hn
      have hn2 := List.nodup_cons.1 hn.2.1
      rcases List.mem_append.1 h2 with h2 | h2
      · exact absurd rfl (hn.2.2 k (List.mem_map.2 ⟨_, h2, rfl⟩) k (by simp))
      · rcases List.mem_cons.1 h2 with h2 | h2
        · injection h2
        · exact absurd (List.mem_map.2 ⟨_, h2, rfl⟩) hn2.1
    rw [this]
theorem rall_srt {l : LK} {m : List RecS} (R : RRel l m) : (rall l m).Pairwise (fun x y => vlt x.w y.w) := R.srt.1.sublist List.filter_sublist
theorem nodup_of_w {m : List RecS} (h : (m.map (·.w)).Nodup) : m.Nodup := by
  rw [List.Nodup, List.pairwise_map] at h
  exact h.imp (fun h e => h (by rw [e]))
theorem rall_perm {l : LK} {m : List RecS} (R : RRel l m) (I : l.Inv) : l.allS.Perm (rall l m) := by
  refine (List.perm_ext_iff_of_nodup (nodup_of_w (allS_nodup I)) (nodup_of_w ?_)).2 (fun s => ⟨fun h => ?_, fun h => ?_⟩)
  · rw [List.Nodup, List.pairwise_map]; exact (rall_srt R).imp vlt_ne
  · obtain ⟨x, hx, rfl⟩ := List.mem_map.1 h
    have hx' := List.mem_filter.1 hx
    have ha := alk_of_mem I.nd hx'.1
    have hr : l.rec? x.1 = .some x.2 := by unfold LK.rec?; rw [ha]
    have hs : rsel l (x.2.state x.1) = true := hx'.2
    rcases R.some hr with h1 | ⟨_, h2, _, h3⟩
    · exact List.mem_filter.2 ⟨(rfind_w h1).1, hs⟩
    · exfalso; unfold rsel at hs; rw [h3] at hs; simp [h2, RecA.state] at hs
  · obtain ⟨hm, hs⟩ := List.mem_filter.1 h
    have hf := rfind_mem R.srt hm
    have hg := R.get s.w
    unfold rget at hg; rw [hf] at hg; simp only at hg
    cases hr : l.rec? s.w with
    | none => rw [hr] at hg; cases hg
    | some a =>
      rw [hr] at hg; injection hg with hg; dsimp only at hg
      rcases rec?_cases hr with h1 | h1
      · refine List.mem_map.2 ⟨(s.w, a), List.mem_filter.2 ⟨mem_alk h1, ?_⟩, hg.symm⟩
        have : LK.sel l (s.w, a) = rsel l s := by unfold LK.sel rsel; simp only; rw [← hg]
        rw [this]; exact hs
      · have hk := R.keys s hm
        unfold LK.rec? at hr
        cases h2 : alk l.m s.w with
        | none => rw [h2] at hk; cases hk
        | some v =>
          rw [h2] at hr; injection hr with hr; subst hr
          refine List.mem_map.2 ⟨(s.w, v), List.mem_filter.2 ⟨mem_alk h2, ?_⟩, hg.symm⟩
          have : LK.sel l (s.w, v) = rsel l s := by unfold LK.sel rsel; simp only; rw [← hg]
          rw [this]; exact hs
theorem all_eq {l : LK} {m xs : List RecS} (R : RRel l m) (I : l.Inv) (hp : xs.Perm l.allS) (hs : xs.Pairwise (fun x y => ¬ vcmp y.w x.w < 0)) : xs = rall l m := by
  have hq := hp.trans (rall_perm R I)
  have hn : (xs.map (·.w)).Nodup := ((hp.map (·.w)).nodup_iff).2 (allS_nodup I)
  have hg : ∀ x ∈ xs, vecG x.w := fun x hx => R.srt.2 x (List.mem_filter.1 (hq.mem_iff.1 hx)).1
  refine List.Perm.eq_of_pairwise (le := fun x y => ¬ vlt y.w x.w) (fun x y hx hy h1 h2 => ?_) ?_ ?_ hq
  · rcases vlt_total (hg x hx) (R.srt.2 y (List.mem_filter.1 hy).1) with h | h | h
    · exact absurd h h2
    · exact rsrt_mem R.srt (List.mem_filter.1 (hq.mem_iff.1 hx)).1 (List.mem_filter.1 hy).1 h
    · exact absurd h h1
  · exact hs.imp (fun h h' => h (by rw [vcmp_lt]; exact h'))
  · exact (rall_srt R).imp (fun h h' => lexLt_asymm h h')
end Go.SL
