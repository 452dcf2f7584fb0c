/- Layer 11: a member more (plain Lean). Conditions: none. -/
import Derived.Test.YtgcmglieciaifaaGs
import Derived.Test.YtgcmglieciaifaaGg
import Derived.Test.YtgcmglieciaifaaGm
set_option linter.unusedSimpArgs false
set_option linter.unusedVariables false
namespace Go.SL
open Go
/-- A row with one more, put in at a place. -/
theorem grow_more {h : Int} {l : List Ref} {x : Ref} (hg : grOk h l) (hg2 : grOk h (l ++ [x])) {w : Vec} :
    (¬ vbegins x.vec w → grow h (l ++ [x]) w = grow h l w) ∧
    (vbegins x.vec w → ∃ J, 0 < J ∧ J < (grow h l w).length ∧ grow h (l ++ [x]) w = (grow h l w).take J ++ x :: (grow h l w).drop J) := by
  have hm : ∀ w, gmem (l ++ [x]) w = gsort ((l ++ [x]).filter fun r => decide (vbegins r.vec w)) := fun w => (gsort_filter hg2.keys _).symm
  have hm0 : gmem l w = gsort (l.filter fun r => decide (vbegins r.vec w)) := (gsort_filter hg.keys _).symm
  constructor
  · intro hb
    unfold grow
    rw [hm, hm0, List.filter_append]
    simp [hb]
  · intro hb
    have e : gmem (l ++ [x]) w = gins x (gmem l w) := by
      rw [hm, hm0, List.filter_append]
      simp only [List.filter_cons, hb, decide_true, if_true, List.filter_nil]
      rw [gsort_snoc]
    have hsp : ∃ j, j ≤ (gmem l w).length ∧ gins x (gmem l w) = (gmem l w).take j ++ x :: (gmem l w).drop j := by
      clear e hm hm0
      generalize gmem l w = M
      induction M with
      | nil => exact ⟨0, by simp, rfl⟩
      | cons y M ih =>
        obtain ⟨j, hj, ej⟩ := ih
        unfold gins
        split
        · exact ⟨j + 1, by simpa using hj, by rw [ej]; rfl⟩
        · exact ⟨0, by simp, rfl⟩
    obtain ⟨j, hj, ej⟩ := hsp
    refine ⟨j + 1, by omega, by unfold grow; simp; omega, ?_⟩
    unfold grow
    rw [e, ej]
    simp only [List.take_succ_cons, List.drop_succ_cons, List.cons_append]
    rw [List.take_append_of_le_length hj, List.drop_append_of_le_length hj]
    simp
theorem nth_put {α : Type} [Inhabited α] {L : List α} {x : α} {J k : Nat} (hJ : J ≤ L.length) : (k < J → nth (L.take J ++ x :: L.drop J) k = nth L k) ∧ (k = J → nth (L.take J ++ x :: L.drop J) k = x) ∧ (J < k → k ≤ L.length → nth (L.take J ++ x :: L.drop J) k = nth L (k - 1)) := by
  have hl : (L.take J).length = J := by rw [List.length_take]; omega
  refine ⟨fun h => ?_, fun h => ?_, fun h1 h2 => ?_⟩
  · rw [nth_eq (by simp; omega), nth_eq (by omega), List.getElem_append_left (by omega), List.getElem_take]
  · subst h
    rw [nth_eq (by simp; omega), List.getElem_append_right (by omega)]; simp [hl]
  · rw [nth_eq (by simp; omega), nth_eq (by omega), List.getElem_append_right (by omega)]
    have e : k - (L.take J).length = (k - J - 1) + 1 := by omega
    simp only [e, List.getElem_cons_succ, List.getElem_drop]
    congr 1; omega
/-- What the law says of one of a row. -/
theorem near_ok {h : Int} {l : List Ref} {x : Ref} (hg : grOk h l) (hg2 : grOk h (l ++ [x])) {w : Vec} (hw : gmay h w) {k : Nat} (hk : k < (grow h l w).length) :
    (gbesE h l w (nth (grow h l w) k).id).2.2 = 0 ∧ (gbesE h (l ++ [x]) w (nth (grow h l w) k).id).2.2 = 0 ∧
    ((gbesE h (l ++ [x]) w x.id).2.2 = 0 ↔ vbegins x.vec w) ∧
    (¬ ((gbesE h (l ++ [x]) w x.id).2.2 = 0 ∧ (nth (grow h l w) k = (gbesE h (l ++ [x]) w x.id).1 ∨ nth (grow h l w) k = (gbesE h (l ++ [x]) w x.id).2.1)) →
      (gbesE h l w (nth (grow h l w) k).id).1 = (gbesE h (l ++ [x]) w (nth (grow h l w) k).id).1 ∧ (gbesE h l w (nth (grow h l w) k).id).2.1 = (gbesE h (l ++ [x]) w (nth (grow h l w) k).id).2.1) := by
  have hrow := gbes_at (L := grow h l w) (id := (nth (grow h l w) k).id) hk (fun j hj e => by have := row_uniq hg (by omega) hk e; omega) rfl
  have e1 : gbesE h l w (nth (grow h l w) k).id = (gl (grow h l w) k, gr (grow h l w) k, 0) := by
    unfold gbesE; rw [if_pos hg, if_pos hw, hrow]; rfl
  have hmore : ∀ (i : Nat), i < (grow h (l ++ [x]) w).length → gbesE h (l ++ [x]) w (nth (grow h (l ++ [x]) w) i).id = (gl (grow h (l ++ [x]) w) i, gr (grow h (l ++ [x]) w) i, 0) := fun i hi => by
    have := gbes_at (L := grow h (l ++ [x]) w) (id := (nth (grow h (l ++ [x]) w) i).id) hi (fun j hj e => by have := row_uniq hg2 (by omega) hi e; omega) rfl
    unfold gbesE; rw [if_pos hg2, if_pos hw, this]; rfl
  obtain ⟨q1, q2⟩ := grow_more hg hg2 (w := w)
  by_cases hb : vbegins x.vec w
  · obtain ⟨J, hJ0, hJl, eJ⟩ := q2 hb
    rw [eJ] at hmore
    have hlen : ((grow h l w).take J ++ x :: (grow h l w).drop J).length = (grow h l w).length + 1 := by simp; omega
    rw [hlen] at hmore
    generalize grow h l w = L at *
    have np := fun i => nth_put (L := L) (x := x) (J := J) (k := i) (by omega)
    have hx := hmore J (by omega)
    rw [(np J).2.1 rfl] at hx
    have hxl : gl (L.take J ++ x :: L.drop J) J = nth L (J - 1) := by unfold gl; rw [if_pos hJ0, (np (J - 1)).1 (by omega)]
    have hxr : gr (L.take J ++ x :: L.drop J) J = nth L J := by unfold gr; rw [if_pos (by omega), (np (J + 1)).2.2 (by omega) (by omega)]; rfl
    rw [hxl, hxr] at hx
    rcases Nat.lt_or_ge k J with hkJ | hkJ
    · have e2 := hmore k (by omega)
      rw [(np k).1 hkJ] at e2
      rw [e1, e2, hx]
      refine ⟨rfl, rfl, by simp [hb], fun hn => ⟨?_, ?_⟩⟩
      · show gl L k = gl _ k
        unfold gl
        split
        · rw [(np (k - 1)).1 (by omega)]
        · rfl
      · show gr L k = gr _ k
        have hk1 : k + 1 < J := by
          rcases Nat.lt_or_ge (k + 1) J with hq | hq
          · exact hq
          · exfalso
            obtain rfl : J = k + 1 := by omega
            exact hn ⟨rfl, .inl (by simp)⟩
        unfold gr; rw [hlen, if_pos (by omega), if_pos (by omega), (np (k + 1)).1 hk1]
    · have e2 := hmore (k + 1) (by omega)
      have hnk : nth (L.take J ++ x :: L.drop J) (k + 1) = nth L k := (np (k + 1)).2.2 (by omega) (by omega)
      rw [hnk] at e2
      rw [e1, e2, hx]
      refine ⟨rfl, rfl, by simp [hb], fun hn => ⟨?_, ?_⟩⟩
      · show gl L k = gl _ (k + 1)
        have hk1 : J < k := by
          rcases Nat.lt_or_ge J k with hq | hq
          · exact hq
          · exfalso
            obtain rfl : k = J := by omega
            exact hn ⟨rfl, .inr rfl⟩
        unfold gl; rw [if_pos (by omega), if_pos (by omega), show k + 1 - 1 = k by omega, (np k).2.2 hk1 (by omega)]
      · show gr L k = gr _ (k + 1)
        unfold gr; rw [hlen]
        by_cases hk2 : k + 1 < L.length
        · rw [if_pos hk2, if_pos (by omega), (np (k + 1 + 1)).2.2 (by omega) (by omega)]; rfl
        · rw [if_neg hk2, if_neg (by omega)]
  · have e := q1 hb
    rw [e] at hmore
    have hx0 : (gbesE h (l ++ [x]) w x.id).2.2 ≠ 0 := by
      intro e0
      obtain ⟨_, _, h3, _, _⟩ := (show grOk h (l ++ [x]) ∧ gmay h w ∧ (gbes (grow h (l ++ [x]) w) x.id).2.2 = true ∧ True ∧ True from by
        unfold gbesE at e0
        rw [if_pos hg2, if_pos hw] at e0
        cases hq : (gbes (grow h (l ++ [x]) w) x.id).2.2
        · rw [hq] at e0; simp at e0
        · exact ⟨hg2, hw, rfl, trivial, trivial⟩)
      rw [e] at h3
      unfold gbes at h3
      cases hq : gix (grow h l w) x.id with
      | none => rw [hq] at h3; cases h3
      | some i =>
        unfold gix at hq
        obtain ⟨hi, h4, _⟩ := List.findIdx?_eq_some_iff_getElem.1 hq
        have h5 : (nth (grow h l w) i).id = x.id := by rw [nth_eq hi]; simpa using h4
        have hmem : nth (grow h l w) i ∈ grow h l w := by rw [nth_eq hi]; exact List.getElem_mem hi
        have hxm := hg2.mem x (by simp)
        rcases grow_mem.1 hmem with h6 | ⟨h6, _⟩ | h6
        · rw [h6] at h5; have := hxm.1; simp at h5; omega
        · have hnd := hg2.ids
          rw [List.map_append, List.nodup_append] at hnd
          exact hnd.2.2 _ (List.mem_map.2 ⟨_, h6, rfl⟩) x.id (by simp) h5
        · rw [h6] at h5; have := hxm.1; simp at h5; omega
    have e2 := hmore k hk
    rw [e1, e2]
    exact ⟨rfl, rfl, ⟨fun h => absurd h hx0, fun h => absurd h hb⟩, fun _ => ⟨rfl, rfl⟩⟩
end Go.SL
