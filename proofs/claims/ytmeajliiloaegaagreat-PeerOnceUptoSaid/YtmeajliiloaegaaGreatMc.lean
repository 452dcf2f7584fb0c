/- Layer 8: what stands in the records (plain Lean). Conditions: none. -/
import Derived.Test.YtmeajliiloaegaaGreatMa
set_option linter.unusedSimpArgs false
set_option linter.unusedVariables false
namespace Go.SL
open Go

def sideL (me : Ref) (x : Ref) : Prop := x = zR ∧ me.key.rank = 1 ∨ keyOk x.key ∧ keyLt x.key me.key
def sideR (me : Ref) (x : Ref) : Prop := x = zR ∧ me.key.rank = 3 ∨ keyOk x.key ∧ keyLt me.key x.key
/-- A record that may be one's. -/
structure okR (me : Ref) (w : Vec) (r : RecA) : Prop where
  may : LK.may ⟨me, []⟩ w
  pos : 0 ≤ w.bits
  left : sideL me r.left
  right : sideR me r.right
theorem may_me (l : LK) (w : Vec) : l.may w ↔ LK.may ⟨l.me, []⟩ w := Iff.rfl
theorem okR.g {me : Ref} {w : Vec} {r : RecA} (h : okR me w r) : vecG w := by
  refine ⟨?_, h.pos⟩
  have := h.may
  unfold LK.may at this
  split at this
  · exact this.1
  · exact this.2.1
def LK.Srt (l : LK) : Prop := ∀ x ∈ l.m, okR l.me x.1 x.2
theorem first_ok {l : LK} {w : Vec} (he : l.isEnd) (hm : l.may w) (hb : 0 ≤ w.bits) : okR l.me w l.first := by
  refine ⟨hm, hb, ?_, ?_⟩
  · unfold LK.first sideL
    by_cases h : l.me.key.rank = 1
    · rw [if_pos h]; exact .inl ⟨rfl, h⟩
    · rw [if_neg h]
      have : l.me.key.rank = 3 := he.resolve_left h
      exact .inr ⟨.inr ⟨.inl rfl, rfl⟩, .inl (by simp only; omega)⟩
  · unfold LK.first sideR
    by_cases h : l.me.key.rank = 1
    · rw [if_pos h]; exact .inr ⟨.inr ⟨.inr rfl, rfl⟩, .inl (by simp only; omega)⟩
    · rw [if_neg h]; exact .inl ⟨rfl, he.resolve_left h⟩
theorem LK.Srt.at_ {l : LK} (h : l.Srt) {w : Vec} {a : RecA} (hr : l.rec? w = some a) (hb : 0 ≤ w.bits) : okR l.me w a := by
  unfold LK.rec? at hr
  cases e : alk l.m w with
  | some v => rw [e] at hr; simp only [Option.some.injEq] at hr; subst hr; exact h _ (mem_alk e)
  | none =>
    rw [e] at hr; simp only at hr
    split at hr
    · rename_i hc; injection hr with hr; subst hr; exact first_ok hc.1 hc.2 hb
    · cases hr
theorem mem_put {κ β : Type} [DecidableEq κ] {m : List (κ × β)} {k : κ} {v : β} {x : κ × β} (h : x ∈ aput m k v) : x = (k, v) ∨ x ∈ m := by
  unfold aput at h
  cases e : aix m k with
  | none => rw [e] at h; simp only [List.mem_append, List.mem_cons, List.not_mem_nil, or_false] at h; exact h.symm
  | some i => rw [e] at h; simp only at h; exact (List.mem_or_eq_of_mem_set h).symm
theorem mem_del {κ β : Type} [DecidableEq κ] {m : List (κ × β)} {k : κ} {x : κ × β} (h : x ∈ adel m k) : x ∈ m := by
  unfold adel at h
  cases e : aix m k with
  | none => rw [e] at h; exact h
  | some i => rw [e] at h; exact List.mem_of_mem_eraseIdx h
theorem LK.Srt.upd {l : LK} (h : l.Srt) {w : Vec} {a : RecA} (ha : okR l.me w a) : (l.upd w a).Srt := by
  intro x hx
  rcases mem_put hx with rfl | hx
  · exact ha
  · exact h x hx
theorem LK.Srt.del {l : LK} (h : l.Srt) (w : Vec) : (l.del w).Srt := fun x hx => h x (mem_del hx)
theorem LK.Srt.touch {l : LK} (h : l.Srt) {w : Vec} (hb : 0 ≤ w.bits) : (l.touch w).Srt := by
  unfold LK.touch
  split
  · exact h
  · split
    · rename_i hc; exact LK.Srt.upd (w := w) (a := l.first) h (first_ok hc.1 hc.2 hb)
    · exact h
theorem LK.Srt.act {l : LK} (h : l.Srt) (x : KOp) (hb : 0 ≤ x.w.bits) : (l.act x).1.Srt := by
  have ht := h.touch hb
  have hm : ∀ a, okR l.me x.w a → okR (l.touch x.w).me x.w a := fun a ha => by rw [touch_me]; exact ha
  unfold LK.act
  split
  · unfold LK.put
    split
    · exact h
    split
    · exact h
    split
    · exact h
    split
    · exact h
    · rename_i c1 c2 c3 c4
      refine h.upd ⟨?_, hb, ?_, ?_⟩
      · exact Decidable.byContradiction fun hn => c1 (.inr hn)
      · exact .inr (Decidable.byContradiction fun hn => c3 (.inl hn))
      · exact .inr (Decidable.byContradiction fun hn => c3 (.inr hn))
  split
  · unfold LK.out
    repeat' split
    all_goals first | exact ht | exact ht.del _
  split
  · unfold LK.left
    split
    · exact ht
    · rename_i a e
      have ha := h.at_ e hb
      split
      · rename_i hl; exact ht.upd (hm _ ⟨ha.may, ha.pos, .inr hl, ha.right⟩)
      · exact ht
  split
  · unfold LK.right
    split
    · rename_i a e
      have ha := h.at_ e hb
      split
      · exact ht
      split
      · rename_i hl; exact ht.upd (hm _ ⟨ha.may, ha.pos, ha.left, .inr hl⟩)
      · exact ht
    · exact ht
  split
  · unfold LK.lock
    split
    · exact ht
    · rename_i a e
      have ha := h.at_ e hb
      exact ht.upd (hm _ ⟨ha.may, ha.pos, ha.left, ha.right⟩)
  split
  · unfold LK.free
    split
    · exact ht
    · rename_i a e
      have ha := h.at_ e hb
      exact ht.upd (hm _ ⟨ha.may, ha.pos, ha.left, ha.right⟩)
  · exact h
theorem LK.run_srt (me : Ref) (xs : List KOp) (hx : ∀ x ∈ xs, 0 ≤ x.w.bits) (k : Nat) (h : k ≤ xs.length) : (LK.run me xs k).Srt := by
  induction k with
  | zero => intro x hx; simp [LK.run] at hx
  | succ k ih => rw [LK.run_succ h]; exact (ih (by omega)).act _ (hx _ (by rw [nth_eq h]; exact List.getElem_mem h))
theorem put_len {κ β : Type} [DecidableEq κ] (m : List (κ × β)) (k : κ) (v : β) : (aput m k v).length ≤ m.length + 1 ∧ ((alk m k).isSome → (aput m k v).length = m.length) := by
  unfold aput
  cases e : aix m k with
  | none => simp only [List.length_append, List.length_cons, List.length_nil]; refine ⟨by omega, fun h => ?_⟩; rw [alk_aix, e] at h; simp at h
  | some i => simp
theorem del_len {κ β : Type} [DecidableEq κ] (m : List (κ × β)) (k : κ) : (adel m k).length ≤ m.length := by
  unfold adel
  cases aix m k with
  | none => simp
  | some i => simp only [List.length_eraseIdx]; split <;> omega
theorem touch_len (l : LK) (w : Vec) : (l.touch w).m.length ≤ l.m.length + 1 := by
  unfold LK.touch
  split
  · omega
  · split
    · exact (put_len _ _ _).1
    · omega
theorem touch_upd_len {l : LK} {w : Vec} {a b : RecA} (h : l.rec? w = some a) : ((l.touch w).upd w b).m.length ≤ l.m.length + 1 := by
  have h1 := touch_len l w
  have h2 := (put_len (l.touch w).m w b).2 (by
    unfold LK.rec? at h
    unfold LK.touch
    cases e : alk l.m w with
    | some v => simp [e]
    | none =>
      rw [e] at h; simp only at h ⊢
      split at h
      · rename_i hc; rw [if_pos hc, alk_put, if_pos rfl]; rfl
      · cases h)
  unfold LK.upd; simp only; omega
theorem act_len (l : LK) (x : KOp) : (l.act x).1.m.length ≤ l.m.length + 1 := by
  have ht := touch_len l x.w
  unfold LK.act LK.put LK.out LK.left LK.right LK.lock LK.free
  repeat' split
  all_goals first
    | exact ht
    | exact Nat.le_succ _
    | exact (put_len _ _ _).1
    | exact Nat.le_trans (del_len _ _) ht
    | (rename_i a e _; exact touch_upd_len e)
    | (rename_i a e; exact touch_upd_len e)
    | (rename_i a e _ _; exact touch_upd_len e)
theorem LK.run_len (me : Ref) (xs : List KOp) (k : Nat) (h : k ≤ xs.length) : (LK.run me xs k).m.length ≤ k := by
  induction k with
  | zero => simp [LK.run]
  | succ k ih => rw [LK.run_succ h]; have := act_len (LK.run me xs k) (nth xs k); have := ih (by omega); omega

/-- What is told of all records. -/
theorem allS_mem {l : LK} {s : RecS} (h : s ∈ l.allS) : ∃ x ∈ l.m, s = x.2.state x.1 := by
  obtain ⟨x, hx, rfl⟩ := List.mem_map.1 h
  exact ⟨x, (List.mem_filter.1 hx).1, rfl⟩
theorem allS_w (l : LK) : l.allS.map (·.w) = (l.m.filter l.sel).map (·.1) := by unfold LK.allS; rw [List.map_map]; rfl
theorem allS_nodup {l : LK} (h : l.Inv) : (l.allS.map (·.w)).Nodup := by
  rw [allS_w]
  exact List.Nodup.sublist (List.Sublist.map _ List.filter_sublist) h.nd
end Go.SL
