/- Layer 8: what calls leave as it was (plain Lean). Conditions: none. -/
import Derived.Test.YtmeajliiloaegaaGreatKa
set_option linter.unusedSimpArgs false
set_option linter.unusedVariables false
namespace Go.SL
open Go

/-! ### Maps as lists -/
section
variable {κ β : Type} [DecidableEq κ]
def ndk (m : List (κ × β)) : Prop := (m.map (·.1)).Nodup
theorem alk_del {m : List (κ × β)} (hn : ndk m) (k k' : κ) : alk (adel m k) k' = if k' = k then none else alk m k' := by
  unfold adel
  cases e : aix m k with
  | none =>
    simp only
    by_cases hk : k' = k
    · subst hk
      rw [if_pos rfl, alk_aix, e]; rfl
    · rw [if_neg hk]
  | some i =>
    simp only
    obtain ⟨hi, ek⟩ := aix_some e
    clear e
    induction m generalizing i with
    | nil => simp at hi
    | cons x m ih =>
      simp only [ndk, List.map_cons, List.nodup_cons] at hn
      cases i with
      | zero =>
        simp only [List.getElem_cons_zero] at ek
        simp only [List.eraseIdx_cons_zero, alk, List.find?_cons]
        by_cases hk : k' = k
        · subst hk
          rw [if_pos rfl]
          have : m.find? (fun x => decide (k' = x.1)) = none := by
            rw [List.find?_eq_none]
            intro y hy
            simp only [decide_eq_true_eq]
            intro h
            exact hn.1 (List.mem_map.2 ⟨y, hy, by rw [← h, ek]⟩)
          rw [this]; rfl
        · simp [hk, ek]
      | succ i =>
        have hi' : i < m.length := by simpa using hi
        have ih := ih hn.2 i hi' (by simpa using ek)
        have ek' : m[i].1 = k := by simpa using ek
        have h0 : x.1 ≠ k := fun h => hn.1 (List.mem_map.2 ⟨m[i], List.getElem_mem hi', by rw [ek', h]⟩)
        simp only [List.eraseIdx_cons_succ, alk, List.find?_cons] at ih ⊢
        by_cases hk : k' = x.1
        · have : k' ≠ k := fun h => h0 (by rw [← hk, h])
          simp [hk, h0]
        · simp only [hk, decide_false]; exact ih
theorem ndk_put {m : List (κ × β)} (hn : ndk m) (k : κ) (v : β) : ndk (aput m k v) := by
  unfold aput
  cases e : aix m k with
  | none =>
    simp only [ndk, List.map_append, List.map_cons, List.map_nil]
    rw [List.nodup_append]
    refine ⟨hn, by simp, ?_⟩
    intro a ha b hb hab
    simp only [List.mem_singleton] at hb
    subst hb hab
    simp only [aix, List.findIdx?_eq_none_iff] at e
    have := e a ha
    simp at this
  | some i =>
    simp only [ndk, List.map_set]
    obtain ⟨hi, ek⟩ := aix_some e
    have : (m.map (·.1)).set i k = m.map (·.1) := by
      apply List.ext_getElem (by simp)
      intro j h1 h2
      rw [List.getElem_set]
      by_cases hij : i = j
      · subst hij; simp [ek]
      · simp [hij]
    rw [this]; exact hn
theorem ndk_del {m : List (κ × β)} (hn : ndk m) (k : κ) : ndk (adel m k) := by
  unfold adel
  cases e : aix m k with
  | none => exact hn
  | some i =>
    simp only [ndk]
    rw [map_eraseIdx]
    exact List.Sublist.nodup (List.eraseIdx_sublist _ _) hn
theorem mem_alk {m : List (κ × β)} {k : κ} {v : β} (h : alk m k = some v) : (k, v) ∈ m := by
  obtain ⟨i, hi⟩ := alk_some_aix h
  obtain ⟨hlt, e⟩ := aix_some hi
  rw [alk_aix, hi] at h
  simp only [Option.bind_some, List.getElem?_eq_getElem hlt, Option.map_some, Option.some.injEq] at h
  have : m[i] = (k, v) := by rw [← e, ← h]
  rw [← this]; exact List.getElem_mem hlt
theorem all_put {m : List (κ × β)} {p : κ × β → Prop} (h : ∀ x ∈ m, p x) {k : κ} {v : β} (hv : p (k, v)) : ∀ x ∈ aput m k v, p x := by
  unfold aput
  intro x hx
  cases e : aix m k with
  | none => rw [e] at hx; simp only [List.mem_append, List.mem_singleton] at hx; rcases hx with hx | rfl; exact h x hx; exact hv
  | some i => rw [e] at hx; rcases List.mem_or_eq_of_mem_set hx with hx | rfl; exact h x hx; exact hv
theorem all_del {m : List (κ × β)} {p : κ × β → Prop} (h : ∀ x ∈ m, p x) {k : κ} : ∀ x ∈ adel m k, p x := by
  unfold adel
  intro x hx
  cases e : aix m k with
  | none => rw [e] at hx; exact h x hx
  | some i => rw [e] at hx; exact h x (List.mem_of_mem_eraseIdx hx)
end

/-! ### Records -/
theorem rec?_touch (l : LK) (w w' : Vec) : (l.touch w').rec? w = l.rec? w := by
  unfold LK.touch
  cases e : alk l.m w' with
  | some _ => rfl
  | none =>
    simp only
    by_cases hc : l.isEnd ∧ l.may w'
    · rw [if_pos hc]
      unfold LK.rec?
      simp only [alk_put]
      by_cases hw : w = w'
      · subst hw; rw [if_pos rfl, e]; simp only; rw [if_pos hc]
      · rw [if_neg hw]; rfl
    · rw [if_neg hc]
theorem rec?_upd (l : LK) (w w' : Vec) (a : RecA) : (l.upd w' a).rec? w = if w = w' then some a else l.rec? w := by
  unfold LK.rec? LK.upd
  simp only [alk_put]
  by_cases hw : w = w'
  · rw [if_pos hw, if_pos hw]
  · rw [if_neg hw, if_neg hw]; rfl
theorem rec?_del {l : LK} (hn : ndk l.m) (w w' : Vec) : (l.del w').rec? w = if w = w' then (if l.isEnd ∧ l.may w then some l.first else none) else l.rec? w := by
  unfold LK.rec? LK.del
  simp only [alk_del hn]
  by_cases hw : w = w'
  · rw [if_pos hw, if_pos hw]; rfl
  · rw [if_neg hw, if_neg hw]; rfl
theorem get_of {l l' : LK} {w : Vec} (h : l'.rec? w = l.rec? w) : l'.getB w = l.getB w ∧ l'.getS w = l.getS w := by
  unfold LK.getB LK.getS; rw [h]; exact ⟨rfl, rfl⟩

theorem ask_le {s : LS} {o : Owner} (h : s.w.length ≤ 64) : (s.ask o).1.w.length ≤ 64 := by
  unfold LS.ask
  repeat' split
  all_goals ((try simp only [List.length_append, List.length_cons, List.length_nil]); omega)
theorem free_le {s : LS} {o : Owner} (h : s.w.length ≤ 64) : (s.free o).1.w.length ≤ 64 := by
  unfold LS.free
  repeat' split
  all_goals ((try simp only [List.length_drop]); omega)
theorem ask_inv {s : LS} {o : Owner} (I : s.Inv) : (s.ask o).1.Inv := by obtain ⟨s', b, e, h, I', _⟩ := LS.turn_ask I o; rw [h]; exact I'
theorem free_inv {s : LS} {o : Owner} (I : s.Inv) : (s.free o).1.Inv := by obtain ⟨s', p, b, e, h, I', _⟩ := LS.turn_free I o; rw [h]; exact I'
theorem ask_err {s : LS} {o : Owner} (h : (s.ask o).2.2 ≠ 0) : (s.ask o).1 = s := by
  unfold LS.ask at h ⊢
  repeat' split
  all_goals first | rfl | (exfalso; simp_all; done)
theorem free_err {s : LS} {o : Owner} (h : (s.free o).2.2.2 ≠ 0) : (s.free o).1 = s := by
  unfold LS.free at h ⊢
  repeat' split
  all_goals first | rfl | (exfalso; simp_all; done)

/-- What the records are between calls. -/
structure LK.Inv (l : LK) : Prop where
  lk : ∀ x ∈ l.m, x.2.lk.Inv
  nd : ndk l.m
theorem LK.Inv.new (me : Ref) : LK.Inv ⟨me, []⟩ := ⟨(fun x hx => nomatch hx), (by simp [ndk])⟩
theorem rec?_cases {l : LK} {w : Vec} {a : RecA} (h : l.rec? w = some a) : alk l.m w = some a ∨ a = l.first := by
  unfold LK.rec? at h
  cases e : alk l.m w with
  | some v => rw [e] at h; exact .inl h
  | none =>
    rw [e] at h; simp only at h
    split at h
    · injection h with h; exact .inr h.symm
    · cases h
theorem LK.Inv.at_ {l : LK} (I : l.Inv) {w : Vec} {a : RecA} (h : l.rec? w = some a) : a.lk.Inv := by
  rcases rec?_cases h with h | h
  · exact I.lk _ (mem_alk h)
  · rw [h]; unfold LK.first; split <;> exact LS.Inv.new
theorem LK.Inv.upd {l : LK} (I : l.Inv) {w : Vec} {a : RecA} (h : a.lk.Inv) : (l.upd w a).Inv := ⟨all_put I.lk h, ndk_put I.nd _ _⟩
theorem LK.Inv.touch {l : LK} (I : l.Inv) (w : Vec) : (l.touch w).Inv := by
  unfold LK.touch
  split
  · exact I
  · split
    · refine I.upd (w := w) (a := l.first) ?_
      unfold LK.first; split <;> exact LS.Inv.new
    · exact I
theorem LK.Inv.del {l : LK} (I : l.Inv) (w : Vec) : (l.del w).Inv := ⟨all_del I.lk, ndk_del I.nd _⟩

theorem act_me (l : LK) (x : KOp) : (l.act x).1.me = l.me := by
  unfold LK.act LK.put LK.out LK.left LK.right LK.lock LK.free
  repeat' split
  all_goals first | rfl | exact touch_me _ _
theorem LK.Inv.act {l : LK} (I : l.Inv) (x : KOp) : (l.act x).1.Inv := by
  have hn := LS.Inv.new
  unfold LK.act
  split
  · unfold LK.put
    repeat' split
    all_goals first | exact I | exact I.upd (ask_inv hn)
  split
  · unfold LK.out
    repeat' split
    all_goals first | exact I.touch _ | exact (I.touch _).del _
  split
  · unfold LK.left
    split
    · exact I.touch _
    · rename_i a h
      split
      · exact (I.touch _).upd (show a.lk.Inv from I.at_ h)
      · exact I.touch _
  split
  · unfold LK.right
    split
    · rename_i a h
      repeat' split
      all_goals first | exact I.touch _ | exact (I.touch _).upd (show a.lk.Inv from I.at_ h)
    · exact I.touch _
  split
  · unfold LK.lock
    split
    · exact I.touch _
    · rename_i a h; exact (I.touch _).upd (ask_inv (I.at_ h))
  split
  · unfold LK.free
    split
    · exact I.touch _
    · rename_i a h; exact (I.touch _).upd (free_inv (I.at_ h))
  · exact I

/-- A call changes no record but its own list's; and nothing, where it tells an error. -/
theorem act_apart {l : LK} (I : l.Inv) (x : KOp) (w : Vec) (h : ¬ (w = x.w ∧ (l.act x).2 = 0)) : (l.act x).1.rec? w = l.rec? w := by
  have up : ∀ a, l.rec? x.w = some a → w = x.w → l.rec? w = some a := fun a h e => by rw [e]; exact h
  unfold LK.act at h ⊢
  split at h
  · rename_i k; rw [if_pos k]
    unfold LK.put at h ⊢
    repeat' split
    all_goals first | rfl | skip
    rename_i h1 h2 h3 h4
    rw [if_neg h1, if_neg h2, if_neg h3, if_neg h4] at h
    rw [rec?_upd, if_neg (fun e => h ⟨e, rfl⟩)]
  rename_i k1; rw [if_neg k1]
  split at h
  · rename_i k; rw [if_pos k]
    unfold LK.out at h ⊢
    cases e : l.rec? x.w with
    | none => exact rec?_touch _ _ _
    | some a =>
      rw [e] at h; simp only at h ⊢
      split at h
      · rename_i h1; rw [if_pos h1, rec?_del (I.touch _).nd, if_neg (fun e => h ⟨e, rfl⟩), rec?_touch]
      · rename_i h1; rw [if_neg h1]; exact rec?_touch _ _ _
  rename_i k2; rw [if_neg k2]
  split at h
  · rename_i k; rw [if_pos k]
    unfold LK.left at h ⊢
    cases e : l.rec? x.w with
    | none => exact rec?_touch _ _ _
    | some a =>
      rw [e] at h; simp only at h ⊢
      split at h
      · rename_i h1; rw [if_pos h1, rec?_upd, if_neg (fun e => h ⟨e, rfl⟩), rec?_touch]
      · rename_i h1; rw [if_neg h1]; exact rec?_touch _ _ _
  rename_i k3; rw [if_neg k3]
  split at h
  · rename_i k; rw [if_pos k]
    unfold LK.right at h ⊢
    cases e : l.rec? x.w with
    | none => exact rec?_touch _ _ _
    | some a =>
      rw [e] at h; simp only at h ⊢
      split at h
      · rename_i h1; rw [if_pos h1]; exact rec?_touch _ _ _
      · rename_i h1; rw [if_neg h1]
        split at h
        · rename_i h2; rw [if_pos h2, rec?_upd, if_neg (fun e => h ⟨e, rfl⟩), rec?_touch]
        · rename_i h2; rw [if_neg h2]; exact rec?_touch _ _ _
  rename_i k4; rw [if_neg k4]
  split at h
  · rename_i k; rw [if_pos k]
    unfold LK.lock at h ⊢
    cases e : l.rec? x.w with
    | none => exact rec?_touch _ _ _
    | some a =>
      rw [e] at h; simp only at h ⊢
      rw [rec?_upd]
      by_cases hw : w = x.w
      · rw [if_pos hw, ask_err (fun h0 => h ⟨hw, h0⟩), up a e hw]
      · rw [if_neg hw, rec?_touch]
  rename_i k5; rw [if_neg k5]
  split at h
  · rename_i k; rw [if_pos k]
    unfold LK.free at h ⊢
    cases e : l.rec? x.w with
    | none => exact rec?_touch _ _ _
    | some a =>
      rw [e] at h; simp only at h ⊢
      rw [rec?_upd]
      by_cases hw : w = x.w
      · rw [if_pos hw, free_err (fun h0 => h ⟨hw, h0⟩), up a e hw]
      · rw [if_neg hw, rec?_touch]
  · rename_i k6; rw [if_neg k6]
/-- Behind Out all is as at first. -/
theorem put_fresh {l : LK} {me : Ref} (hm : l.me = me) {w : Vec} (h1 : alk l.m w = none) (h2 : ¬ (l.isEnd ∧ l.may w)) (a b : Ref) (o : Owner) :
    (l.put w a b o).2 = ((⟨me, []⟩ : LK).put w a b o).2 ∧ (l.put w a b o).1.rec? w = ((⟨me, []⟩ : LK).put w a b o).1.rec? w := by
  obtain ⟨me', m⟩ := l
  simp only at hm; subst hm
  have hr : (⟨me', m⟩ : LK).rec? w = none := by unfold LK.rec?; simp only at h1 ⊢; rw [h1]; simp only; exact if_neg h2
  have hr0 : (⟨me', []⟩ : LK).rec? w = none := by unfold LK.rec?; exact if_neg h2
  unfold LK.put
  simp only [show alk ([] : List (Vec × RecA)) w = none from rfl, h1]
  by_cases c1 : (⟨me', m⟩ : LK).isEnd ∨ ¬ (⟨me', m⟩ : LK).may w
  · have c1' : (⟨me', []⟩ : LK).isEnd ∨ ¬ (⟨me', []⟩ : LK).may w := c1
    rw [if_pos c1, if_pos c1']; exact ⟨rfl, hr.trans hr0.symm⟩
  have c1' : ¬ ((⟨me', []⟩ : LK).isEnd ∨ ¬ (⟨me', []⟩ : LK).may w) := c1
  have hno : ¬ ((none : Option RecA).isSome = true) := by simp
  rw [if_neg c1, if_neg c1', if_neg hno, if_neg hno]
  by_cases c2 : ¬ (⟨me', m⟩ : LK).toLeft a ∨ ¬ (⟨me', m⟩ : LK).toRight b
  · have c2' : ¬ (⟨me', []⟩ : LK).toLeft a ∨ ¬ (⟨me', []⟩ : LK).toRight b := c2
    rw [if_pos c2, if_pos c2']; exact ⟨rfl, hr.trans hr0.symm⟩
  have c2' : ¬ (¬ (⟨me', []⟩ : LK).toLeft a ∨ ¬ (⟨me', []⟩ : LK).toRight b) := c2
  rw [if_neg c2, if_neg c2']
  by_cases c3 : ckE o ≠ 0
  · rw [if_pos c3, if_pos c3]; exact ⟨rfl, hr.trans hr0.symm⟩
  · rw [if_neg c3, if_neg c3]
    refine ⟨rfl, ?_⟩
    simp only [rec?_upd, if_true]
theorem rec?_no {l : LK} {w : Vec} (h : l.rec? w = none) : alk l.m w = none ∧ ¬ (l.isEnd ∧ l.may w) ∧ l.touch w = l := by
  unfold LK.rec? at h; unfold LK.touch
  cases e : alk l.m w with
  | some v => rw [e] at h; cases h
  | none =>
    rw [e] at h; simp only at h ⊢
    by_cases hc : l.isEnd ∧ l.may w
    · rw [if_pos hc] at h; cases h
    · exact ⟨trivial, hc, by rw [if_neg hc]⟩
/-- What Out says to a record's own holder. -/
theorem out_holder {l : LK} (I : l.Inv) (hk : keyOk l.me.key) {w : Vec} {a : RecA} (h : l.rec? w = some a) : (l.out w a.lk.holder).2.2 = 0 ↔ a.lk.held = true ∧ l.me.key.rank = 2 := by
  have hE : l.isEnd ↔ ¬ l.me.key.rank = 2 := by unfold LK.isEnd; unfold keyOk at hk; omega
  have J := I.at_ h
  unfold LK.out; rw [h]; simp only
  have hO : l.ownE w a.lk.holder false = 0 ↔ a.lk.held = true ∧ l.me.key.rank = 2 := by
    constructor
    · intro h0
      obtain ⟨g1, g2, g3, g4⟩ := ownE_zero h h0
      exact ⟨g3, Decidable.byContradiction fun hr => g1 ⟨rfl, hE.2 hr⟩⟩
    · rintro ⟨g1, g2⟩
      have ho : okO a.lk.holder := J.ok _ (by rw [LS.row, if_pos g1]; simp)
      have hc : ckE a.lk.holder = 0 := if_pos ho
      unfold LK.ownE; rw [h]; simp only [hc]
      rw [if_neg (fun hh => hE.1 hh.2 g2), if_neg (by simp), if_neg (by simp [g1])]
  by_cases h0 : l.ownE w a.lk.holder false = 0
  · rw [if_pos h0]; simp only [true_iff]; exact hO.1 h0
  · rw [if_neg h0]; exact hO
theorem out_gone {l : LK} (I : l.Inv) {w : Vec} {a : RecA} (h : l.rec? w = some a) {o : Owner} (h0 : (l.out w o).2.2 = 0) : alk (l.out w o).1.m w = none ∧ ¬ (l.out w o).1.isEnd ∧ (l.out w o).1.me = l.me := by
  unfold LK.out at h0 ⊢; rw [h] at h0 ⊢; simp only at h0 ⊢
  split at h0
  · rename_i hz
    rw [if_pos hz]
    obtain ⟨g1, _⟩ := ownE_zero h hz
    refine ⟨?_, ?_, touch_me _ _⟩
    · show alk (adel (l.touch w).m w) w = none
      rw [alk_del (I.touch w).nd, if_pos rfl]
    · intro he
      apply g1
      refine ⟨rfl, ?_⟩
      rw [← touch_isEnd l w]; exact he
  · rename_i hz; exact absurd h0 hz
def LK.run (me : Ref) (xs : List KOp) (k : Nat) : LK := (xs.take k).foldl (fun l x => (l.act x).1) ⟨me, []⟩
theorem LK.run_succ {me : Ref} {xs : List KOp} {k : Nat} (h : k < xs.length) : LK.run me xs (k + 1) = ((LK.run me xs k).act (nth xs k)).1 := by
  unfold LK.run
  rw [List.take_add_one, List.foldl_append, nth_eq h, List.getElem?_eq_getElem h]; rfl
theorem LK.run_inv (me : Ref) (xs : List KOp) (k : Nat) (h : k ≤ xs.length) : (LK.run me xs k).Inv := by
  induction k with
  | zero => exact .new me
  | succ k ih => rw [LK.run_succ h]; exact (ih (by omega)).act _
theorem LK.run_me (me : Ref) (xs : List KOp) (k : Nat) (h : k ≤ xs.length) : (LK.run me xs k).me = me := by
  induction k with
  | zero => rfl
  | succ k ih => rw [LK.run_succ h, act_me]; exact ih (by omega)
end Go.SL
