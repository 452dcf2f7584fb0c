/- Layer 11: the way of a search (plain Lean). Conditions: none. -/
import Derived.Test.YtgcmglieciaifaaGf
set_option linter.unusedSimpArgs false
set_option linter.unusedVariables false
namespace Go.SL
open Go
structure HopE where
  level : Int
  at' : Ref
  deriving DecidableEq, Inhabited
/-- The one ahead. -/
def gnext (h : Int) (xs : List Ref) (left : Bool) (r : Ref) (lv : Int) : Ref := if left then (gbes (grow h xs (vpre r.vec lv)) r.id).1 else (gbes (grow h xs (vpre r.vec lv)) r.id).2.1
/-- A search's way. -/
def gwalk (h : Int) (xs : List Ref) (left : Bool) (tgt : Key) : Nat → Int → Ref → List HopE → Ref × List HopE
  | 0, _, r, hops => (r, hops)
  | f + 1, lv, r, hops =>
    if decide (keyLt (gnext h xs left r lv).key tgt) ≠ left then gwalk h xs left tgt f lv (gnext h xs left r lv) (hops ++ [⟨lv, gnext h xs left r lv⟩])
    else if 0 < lv then gwalk h xs left tgt f (lv - 1) r hops
    else if left then (gnext h xs left r lv, hops ++ [⟨lv, gnext h xs left r lv⟩]) else (r, hops)
/-! ### Rows -/
section
variable {h : Int} {xs : List Ref}
theorem grow_mem {w : Vec} {r : Ref} : r ∈ grow h xs w ↔ r = gHead h ∨ (r ∈ xs ∧ vbegins r.vec w) ∨ r = gTail h := by
  unfold grow gmem
  simp only [List.mem_cons, List.mem_append, List.mem_filter, decide_eq_true_eq, List.not_mem_nil, or_false, (gsort_perm xs).mem_iff]
theorem grow_srt (hg : grOk h xs) (w : Vec) : gsrt (grow h xs w) := by
  have hs : gsrt (gmem xs w) := (gsort_srt hg.keys).sublist List.filter_sublist
  have hm : ∀ r ∈ gmem xs w, r.key.rank = 2 := fun r hr => (hg.mem r ((gsort_perm xs).mem_iff.1 (List.mem_filter.1 hr).1)).2.2.1
  unfold grow gsrt
  rw [List.pairwise_cons, List.pairwise_append]
  refine ⟨fun y hy => ?_, hs, List.pairwise_singleton _ _, fun a ha b hb => ?_⟩
  · rcases List.mem_append.1 hy with hy | hy
    · have := hm y hy; unfold keyLt; simp only; omega
    · rw [List.mem_singleton.1 hy]; unfold keyLt; simp
  · rw [List.mem_singleton.1 hb]
    have := hm a ha; unfold keyLt; simp only; omega
theorem grow_ids (hg : grOk h xs) (w : Vec) : ((grow h xs w).map (·.id)).Nodup := by
  have hp : ((gmem xs w).map (·.id)).Nodup := by
    have h1 : ((gsort xs).map (·.id)).Nodup := (((gsort_perm xs).map (·.id)).nodup_iff).2 hg.ids
    exact h1.sublist (List.Sublist.map _ List.filter_sublist)
  have hm : ∀ r ∈ gmem xs w, 2 ≤ r.id := fun r hr => (hg.mem r ((gsort_perm xs).mem_iff.1 (List.mem_filter.1 hr).1)).1
  unfold grow
  simp only [List.map_cons, List.map_append, List.map_nil, List.nodup_cons, List.nodup_append]
  refine ⟨fun hx => ?_, hp, by simp, fun a ha b hb => ?_⟩
  · rcases List.mem_append.1 hx with hx | hx
    · obtain ⟨r, hr, e⟩ := List.mem_map.1 hx
      have := hm r hr; omega
    · simp at hx
  · obtain ⟨r, hr, e⟩ := List.mem_map.1 ha
    have := hm r hr
    simp only [List.mem_singleton] at hb; omega
theorem grow_len (hg : grOk h xs) (w : Vec) : (grow h xs w).length ≤ 1024 := by
  have := gmem_le hg w
  unfold grow; simp; omega
/-- What stands in a list may be walked upon. -/
structure gOn (h : Int) (xs : List Ref) (r : Ref) : Prop where
  mem : r ∈ grow h xs zV
  ok : vecOk r.vec
  len : r.vec.len = h
  pos : 0 ≤ r.vec.bits
theorem vpre_zero {v : Vec} (hv : vecOk v) (hb : 0 ≤ v.bits) : vpre v 0 = zV := by
  obtain ⟨h0, h1, h2⟩ := hv
  unfold vpre
  rw [Int.fdiv_eq_ediv_of_nonneg _ (by have := two_p (v.len - 0).toNat; omega)]
  rw [Int.ediv_eq_zero_of_lt hb (by rw [Int.sub_zero]; omega)]
  rfl
theorem begins_zero {v : Vec} (hv : vecOk v) (hb : 0 ≤ v.bits) : vbegins v zV := by
  refine ⟨hv, ⟨by decide, by decide, by decide⟩, hv.1, vpre_zero hv hb⟩
theorem gOn.of (hg : grOk h xs) (hb : ∀ r ∈ xs, 0 ≤ r.vec.bits) {w : Vec} {r : Ref} (hr : r ∈ grow h xs w) : gOn h xs r := by
  have hz : vecOk ⟨h, 0⟩ := ⟨hg.h0, hg.h32, by have := two_p h.toNat; show (0 : Int) ≤ 2 ^ h.toNat - 1; omega⟩
  rcases grow_mem.1 hr with rfl | ⟨h1, h2⟩ | rfl
  · exact ⟨grow_mem.2 (.inl rfl), hz, rfl, Int.le_refl _⟩
  · have hm := hg.mem r h1
    exact ⟨grow_mem.2 (.inr (.inl ⟨h1, begins_zero hm.2.2.2.1 (hb r h1)⟩)), hm.2.2.2.1, hm.2.2.2.2, hb r h1⟩
  · exact ⟨grow_mem.2 (.inr (.inr rfl)), hz, rfl, Int.le_refl _⟩
theorem gOn.self (hg : grOk h xs) {r : Ref} (ho : gOn h xs r) {lv : Int} (h0 : 0 ≤ lv) (h1 : lv ≤ h) : r ∈ grow h xs (vpre r.vec lv) := by
  rcases grow_mem.1 ho.mem with rfl | ⟨h2, _⟩ | rfl
  · exact grow_mem.2 (.inl rfl)
  · refine grow_mem.2 (.inr (.inl ⟨h2, ?_⟩))
    exact ⟨ho.ok, (vpre_ok ho.ok ho.pos h0 (by rw [ho.len]; exact h1)).1, by rw [vpre_len, ho.len]; exact h1, rfl⟩
  · exact grow_mem.2 (.inr (.inr rfl))
/-- Where one stands in a row of its own. -/
theorem row_ix {L : List Ref} (hn : (L.map (·.id)).Nodup) {r : Ref} (hr : r ∈ L) : ∃ i, i < L.length ∧ nth L i = r ∧ gix L r.id = some i := by
  obtain ⟨i, hi, rfl⟩ := List.mem_iff_getElem.1 hr
  refine ⟨i, hi, nth_eq hi, ?_⟩
  unfold gix
  rw [List.findIdx?_eq_some_iff_getElem]
  refine ⟨hi, by simp, fun j hj => ?_⟩
  simp only [decide_eq_true_eq, Bool.not_eq_true, decide_eq_false_iff_not]
  intro e
  have := (List.getElem_inj (i := j) (j := i) (h₀ := by simpa using (by omega : j < L.length)) (h₁ := by simpa using hi) hn).1 (by simpa using e)
  omega
theorem grow_last {w : Vec} : nth (grow h xs w) ((grow h xs w).length - 1) = gTail h := by
  unfold grow nth
  simp [List.getD]
/-- The one ahead is there, and stands ahead. -/
theorem gnext_right (hg : grOk h xs) (hb : ∀ r ∈ xs, 0 ≤ r.vec.bits) {r : Ref} (ho : gOn h xs r) {lv : Int} (h0 : 0 ≤ lv) (h1 : lv ≤ h) (hne : r ≠ gTail h) :
    gOn h xs (gnext h xs false r lv) ∧ keyLt r.key (gnext h xs false r lv).key := by
  obtain ⟨i, hi, hni, hx⟩ := row_ix (grow_ids hg _) (ho.self hg h0 h1)
  have hs := grow_srt hg (vpre r.vec lv)
  have hl := grow_last (h := h) (xs := xs) (w := vpre r.vec lv)
  unfold gnext gbes
  rw [hx]
  simp only [Bool.false_eq_true, if_false]
  unfold gr
  have hlt : i + 1 < (grow h xs (vpre r.vec lv)).length := by
    rcases Nat.lt_or_ge (i + 1) (grow h xs (vpre r.vec lv)).length with hq | hq
    · exact hq
    · exfalso
      have : i = (grow h xs (vpre r.vec lv)).length - 1 := by omega
      rw [← this, hni] at hl; exact hne hl
  rw [if_pos hlt]
  refine ⟨gOn.of hg hb (w := vpre r.vec lv) (by rw [nth_eq hlt]; exact List.getElem_mem _), ?_⟩
  have := List.pairwise_iff_getElem.1 hs i (i + 1) hi hlt (by omega)
  rw [← nth_eq hi, ← nth_eq hlt, hni] at this
  exact this
theorem gnext_left (hg : grOk h xs) (hb : ∀ r ∈ xs, 0 ≤ r.vec.bits) {r : Ref} (ho : gOn h xs r) {lv : Int} (h0 : 0 ≤ lv) (h1 : lv ≤ h) (hne : r ≠ gHead h) :
    gOn h xs (gnext h xs true r lv) ∧ keyLt (gnext h xs true r lv).key r.key := by
  obtain ⟨i, hi, hni, hx⟩ := row_ix (grow_ids hg _) (ho.self hg h0 h1)
  have hs := grow_srt hg (vpre r.vec lv)
  unfold gnext gbes
  rw [hx]
  simp only [if_true]
  unfold gl
  have hpos : 0 < i := by
    rcases Nat.eq_zero_or_pos i with rfl | hq
    · exfalso
      exact hne (hni.symm.trans rfl)
    · exact hq
  rw [if_pos hpos]
  have hlt : i - 1 < (grow h xs (vpre r.vec lv)).length := by omega
  refine ⟨gOn.of hg hb (w := vpre r.vec lv) (by rw [nth_eq hlt]; exact List.getElem_mem _), ?_⟩
  have := List.pairwise_iff_getElem.1 hs (i - 1) i hlt hi (by omega)
  rw [← nth_eq hi, ← nth_eq hlt, hni] at this
  exact this
/-- How far it may still go. -/
def gfar (h : Int) (xs : List Ref) (left : Bool) (r : Ref) : Nat := (grow h xs zV).countP fun y => if left then decide (keyLt y.key r.key) else decide (keyLt r.key y.key)
theorem gfar_le (hg : grOk h xs) (left : Bool) (r : Ref) : gfar h xs left r ≤ 1024 := Nat.le_trans List.countP_le_length (grow_len hg zV)
theorem gfar_lt {left : Bool} {r n : Ref} (hn : n ∈ grow h xs zV) (hlt : if left then keyLt n.key r.key else keyLt r.key n.key) : gfar h xs left n < gfar h xs left r := by
  unfold gfar
  generalize grow h xs zV = L at *
  have hle : ∀ M : List Ref, (M.countP fun y => if left then decide (keyLt y.key n.key) else decide (keyLt n.key y.key)) ≤ M.countP fun y => if left then decide (keyLt y.key r.key) else decide (keyLt r.key y.key) := by
    intro M
    refine List.countP_mono_left fun y _ hy => ?_
    cases left
    · simp only [Bool.false_eq_true, if_false, decide_eq_true_eq] at *; exact keyLt_trans hlt hy
    · simp only [if_true, decide_eq_true_eq] at *; exact keyLt_trans hy hlt
  obtain ⟨A, B, rfl⟩ := List.append_of_mem hn
  rw [List.countP_append, List.countP_append, List.countP_cons, List.countP_cons]
  have h1 := hle A
  have h2 := hle B
  have e1 : (if left = true then decide (keyLt n.key n.key) else decide (keyLt n.key n.key)) = false := by
    have := keyLt_irrefl n.key
    cases left <;> simp [this]
  have e2 : (if left = true then decide (keyLt n.key r.key) else decide (keyLt r.key n.key)) = true := by
    cases left
    · simpa using hlt
    · simpa using hlt
  simp only [e1, e2, if_true, Bool.false_eq_true, if_false]
  omega
/-- A search under way. -/
structure gSt (h : Int) (xs : List Ref) (left : Bool) (tgt : Key) (lv : Int) (r : Ref) : Prop where
  on : gOn h xs r
  l0 : 0 ≤ lv
  l1 : lv ≤ h
  side : decide (keyLt r.key tgt) ≠ left
theorem gSt.next (hg : grOk h xs) (hb : ∀ r ∈ xs, 0 ≤ r.vec.bits) {left : Bool} {tgt : Key} (hk : keyOk tgt) (hr : tgt.rank ≠ 1) {lv : Int} {r : Ref} (hs : gSt h xs left tgt lv r) :
    gOn h xs (gnext h xs left r lv) ∧ gfar h xs left (gnext h xs left r lv) < gfar h xs left r := by
  have hd := hs.side
  cases left
  · have hlt : keyLt r.key tgt := by simpa using hd
    have hne : r ≠ gTail h := by
      rintro rfl
      unfold keyLt at hlt; unfold keyOk at hk; simp only at hlt; omega
    obtain ⟨h1, h2⟩ := gnext_right hg hb hs.on hs.l0 hs.l1 hne
    exact ⟨h1, gfar_lt h1.mem (by simpa using h2)⟩
  · have hlt : ¬ keyLt r.key tgt := by simpa using hd
    have hne : r ≠ gHead h := by
      rintro rfl
      unfold keyLt at hlt; unfold keyOk at hk; simp only at hlt; omega
    obtain ⟨h1, h2⟩ := gnext_left hg hb hs.on hs.l0 hs.l1 hne
    exact ⟨h1, gfar_lt h1.mem (by simpa using h2)⟩
/-- How far is enough. -/
def gfuel (h : Int) (xs : List Ref) (left : Bool) (lv : Int) (r : Ref) : Nat := gfar h xs left r * 34 + lv.toNat
theorem gwalk_step {left : Bool} {tgt : Key} {lv : Int} {r : Ref} {hops : List HopE} {f : Nat} (h1 : decide (keyLt (gnext h xs left r lv).key tgt) ≠ left) : gwalk h xs left tgt (f + 1) lv r hops = gwalk h xs left tgt f lv (gnext h xs left r lv) (hops ++ [⟨lv, gnext h xs left r lv⟩]) := if_pos h1
theorem gwalk_down {left : Bool} {tgt : Key} {lv : Int} {r : Ref} {hops : List HopE} {f : Nat} (h1 : ¬ decide (keyLt (gnext h xs left r lv).key tgt) ≠ left) (h2 : 0 < lv) : gwalk h xs left tgt (f + 1) lv r hops = gwalk h xs left tgt f (lv - 1) r hops := by
  rw [gwalk, if_neg h1, if_pos h2]
theorem gwalk_end {left : Bool} {tgt : Key} {lv : Int} {r : Ref} {hops : List HopE} {f : Nat} (h1 : ¬ decide (keyLt (gnext h xs left r lv).key tgt) ≠ left) (h2 : ¬ 0 < lv) : gwalk h xs left tgt (f + 1) lv r hops = if left then (gnext h xs left r lv, hops ++ [⟨lv, gnext h xs left r lv⟩]) else (r, hops) := by
  rw [gwalk, if_neg h1, if_neg h2]
/-- The whole answer. -/
def gat (h : Int) (xs : List Ref) (id : Int) : Option Ref := (grow h xs zV).find? fun r => decide (r.id = id)
def gF0 : Nat := 40000
def gway (h : Int) (xs : List Ref) (tgt : Key) (r : Ref) : Ref × List HopE := gwalk h xs (decide (¬ keyLt r.key tgt)) tgt gF0 h r [⟨h, r⟩]
def gwayE (h : Int) (xs : List Ref) (from' : Int) (tgt : Key) : List HopE × Ref × Ref × Int :=
  if grOk h xs then match gat h xs from' with
    | none => ([], zR, zR, 111)
    | some r => if keyOk tgt then (if tgt.rank = 1 then ([⟨h, r⟩], zR, gHead h, 0) else ((gway h xs tgt r).2, (gway h xs tgt r).1, (gbes (grow h xs zV) (gway h xs tgt r).1.id).2.1, 0)) else ([], zR, zR, 1)
  else ([], zR, zR, 110)
end
end Go.SL
