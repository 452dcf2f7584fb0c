/- The walk's own words, part P: slices: a part of one, what is appended, an element written, one that is never written again. Conditions: none. -/
import Derived.Test.YtienlpaehgdpaaaSlM
set_option linter.unusedSimpArgs false
set_option linter.unusedVariables false
set_option linter.unusedSectionVars false
namespace Go.SL
open Go

section
variable {P : Program} {ρ : Env} {cs r : List Assn} {t : Tr} {K : Env → List Assn → Prop}

theorem flat_len {es : List (List Value)} {sz : Nat} (h : ∀ e ∈ es, e.length = sz) : es.flatten.length = es.length * sz := by
  induction es with
  | nil => simp
  | cons e es ih =>
    have h1 := h e (by simp)
    have h2 := ih fun x hx => h x (by simp [hx])
    simp only [List.flatten_cons, List.length_append, List.length_cons, h1, h2, Nat.succ_mul]; omega

theorem flat_drop {sz : Nat} : ∀ {es : List (List Value)} (h : ∀ e ∈ es, e.length = sz) (k : Nat), k ≤ es.length → es.flatten.drop (k * sz) = (es.drop k).flatten
  | es, _, 0, _ => by simp
  | [], _, k + 1, hk => by simp at hk
  | e :: es, h, k + 1, hk => by
    have h1 := h e (by simp)
    rw [List.flatten_cons, List.drop_append, Nat.succ_mul, List.drop_eq_nil_of_le (by omega), List.nil_append, show k * sz + sz - e.length = k * sz by omega, List.drop_succ_cons]
    exact flat_drop (fun x hx => h x (by simp [hx])) k (by simpa using hk)

theorem flat_take {sz : Nat} : ∀ {es : List (List Value)} (h : ∀ e ∈ es, e.length = sz) (k : Nat), k ≤ es.length → es.flatten.take (k * sz) = (es.take k).flatten
  | es, _, 0, _ => by simp
  | [], _, k + 1, hk => by simp at hk
  | e :: es, h, k + 1, hk => by
    have h1 := h e (by simp)
    rw [List.flatten_cons, List.take_append, Nat.succ_mul, List.take_of_length_le (by omega), show k * sz + sz - e.length = k * sz by omega, List.take_succ_cons, List.flatten_cons]
    rw [flat_take (fun x hx => h x (by simp [hx])) k (by simpa using hk)]

/-- The cells of a slice's elements. -/
theorem Sat.slice {α : Type} {h : Heap} {m : Bool} {enc : α → List Value} {sz c : Nat} {sv : Value} {xs : List α} (hs : Sat h cs) (hh : Has cs (SlT m enc sz sv c xs) r) :
    0 < sz ∧ (∀ e ∈ xs.map enc, e.length = sz ∧ ∀ v ∈ e, isOne v = true) ∧ xs.length ≤ c ∧ ∃ a, sv = .slice a xs.length c ∧ firstList h sz xs.length sv = some (xs.map enc).flatten := by
  obtain ⟨S, H, hS, hH, hz, h0, hc⟩ := hs.mem hh
  have hl : (xs.map enc).flatten.length = xs.length * sz := by rw [flat_len fun e he => (h0 e he).1]; simp
  refine ⟨hz.1, h0, ?_⟩
  cases m with
  | true =>
    rcases hc with ⟨h1, h2, h3⟩ | ⟨b, T, pre, rest, h1, h2, h3, h4⟩
    · have : xs = [] := by simpa using h2
      subst this; subst h1; subst h3
      exact ⟨by simp, none, by simp, rfl⟩
    · have hb := hH _ _ h3
      refine ⟨by simpa using h2, _, by simpa using h1, ?_⟩
      subst h1
      simp only [firstList]
      rw [cells_of hb _ 0 (by simp only [List.size_toArray, List.length_append]; omega)]
      congr 1
      simp only [List.toList_toArray, Nat.add_zero, List.drop_left]
      rw [List.take_append_of_le_length (by omega), List.take_of_length_le (by omega)]
  | false =>
    rcases hc with ⟨h2, a, h1, h3⟩ | ⟨b, off', T, fz, C, h1, h2, h3, h4⟩
    · have : xs = [] := by simpa using h2
      subst this; subst h1
      refine ⟨by simp, a, by simp, ?_⟩
      cases a <;> simp [firstList, heapCells]
    · have hb := hS _ _ h3
      refine ⟨by simpa using h2, _, by simpa using h1, ?_⟩
      subst h1
      simp only [firstList]
      have hCs : off' + (xs.map enc).flatten.length ≤ C.size ∨ (xs.map enc).flatten.length = 0 := by
        rcases Nat.eq_zero_or_pos (xs.map enc).flatten.length with e | e
        · exact .inr e
        · have := h4 ((xs.map enc).flatten.length - 1) (by omega)
          rw [List.getElem?_eq_getElem (by omega)] at this
          have := (Array.getElem?_eq_some_iff.1 this).1
          exact .inl (by omega)
      rcases hCs with hCs | h00
      · rw [cells_of hb _ 0 (by omega)]
        congr 1
        simp only [Nat.add_zero]
        apply List.ext_getElem?
        intro i
        rw [List.getElem?_take]
        by_cases hi : i < xs.length * sz
        · rw [if_pos hi, List.getElem?_drop, Array.getElem?_toList, h4 i (by omega)]
        · rw [if_neg hi, List.getElem?_eq_none (by omega)]
      · have hx0 : xs.length * sz = 0 := by omega
        have : (xs.map enc).flatten = [] := List.length_eq_zero_iff.1 h00
        rw [hx0, this]; rfl

/-! ### A slice that is never written again -/

theorem Sat.freezeS {α : Type} {h : Heap} {enc : α → List Value} {sz c : Nat} {sv : Value} {xs : List α} (hs : Sat h (SlT true enc sz sv c xs :: cs)) : Sat h (SlT false enc sz sv c xs :: cs) := by
  obtain ⟨S, H, hS, hH, hd, H1, H2, l1, l2, hd', hc, hr⟩ := hs
  obtain ⟨hz, h0, hc⟩ := hc
  rcases hc with ⟨h1, h2, h3⟩ | ⟨b, T, pre, rest, h1, h2, h3, h4⟩
  · exact ⟨S, H, hS, hH, hd, H1, H2, l1, l2, hd', ⟨hz, h0, .inl ⟨h2, none, by rw [h1, h3], fun _ => h3⟩⟩, hr⟩
  · have hpt : Sat h (pt b (.cells (pre ++ ((xs.map enc).flatten ++ rest)).toArray T (0, 0)) :: cs) := ⟨S, H, hS, hH, hd, H1, H2, l1, l2, hd', h3, hr⟩
    refine hpt.freeze.imp ?_
    rintro S H ⟨H1, H2, l1, l2, hd', hc, hr⟩
    refine ⟨H1, H2, l1, l2, hd', ⟨hz, h0, .inr ⟨b, pre.length, T, (0, 0), _, h1, h2, hc, fun i hi => ?_⟩⟩, hr⟩
    simp only [List.getElem?_toArray]
    rw [List.getElem?_append_right (Nat.le_add_right _ _), Nat.add_sub_cancel_left, List.getElem?_append_left hi]

theorem Up.frz {α : Type} {enc : α → List Value} {sz c : Nat} {sv : Value} {xs : List α} {ds : List Assn} (hh : Has cs (SlT true enc sz sv c xs) r) (h : Up (SlT false enc sz sv c xs :: r) ds) : Up cs ds :=
  fun w hs => h w (Sat.freezeS (hs.imp hh))
theorem JT.frz {α : Type} {enc : α → List Value} {sz c : Nat} {sv : Value} {xs : List α} (hh : Has cs (SlT true enc sz sv c xs) r) (h : JT P t ρ (SlT false enc sz sv c xs :: r) K) : JT P t ρ cs K :=
  JT.up (Up.frz hh (Up.refl _)) h
theorem J.frz {N : Nat} {cc : CC} {Q : Exit → Env → List Assn → Prop} {α : Type} {enc : α → List Value} {sz c : Nat} {sv : Value} {xs : List α} (hh : Has cs (SlT true enc sz sv c xs) r) (h : J P N cc ρ (SlT false enc sz sv c xs :: r) Q) : J P N cc ρ cs Q :=
  J.up (Up.frz hh (Up.refl _)) h
theorem Up.frzPc {b T : Nat} {l : List Value} {ds : List Assn} (hh : Has cs (pc b T l) r) (h : Up (rc b T l :: r) ds) : Up cs ds :=
  fun w hs => h w (Sat.freeze (hs.imp hh))

/-- A slice that can be read. -/
def Rd {α : Type} (cs : List Assn) (enc : α → List Value) (sz c : Nat) (sv : Value) (xs : List α) : Prop := ∀ h, Sat h cs → Sat h [SlT false enc sz sv c xs]
theorem Rd.of {α : Type} {m : Bool} {enc : α → List Value} {sz c : Nat} {sv : Value} {xs : List α} (hh : Has cs (SlT m enc sz sv c xs) r) : Rd cs enc sz c sv xs := by
  intro h hs
  cases m with
  | true => exact (Sat.freezeS (hs.imp hh)).imp (Imp.cons (Imp.nil _))
  | false => exact (hs.imp hh).imp (Imp.cons (Imp.nil _))
theorem Rd.there {α : Type} {enc : α → List Value} {sz c : Nat} {sv : Value} {xs : List α} {d : Assn} (hh : Rd cs enc sz c sv xs) : Rd (d :: cs) enc sz c sv xs := fun h hs => hh h (hs.imp Imp.drop)

/-- The empty slice, whoever has it. -/
theorem Sat.nilS {α : Type} {enc : α → List Value} {sz : Nat} (m : Bool) (hz : 0 < sz) {h : Heap} (hs : Sat h cs) : Sat h (SlT m enc sz (.slice none 0 0) 0 ([] : List α) :: cs) := by
  refine hs.imp fun S H h => ⟨fun _ => none, H, fun b o e => (by cases e), Hp.le_refl _, fun b => .inl rfl, ⟨⟨hz, by simp⟩, by simp, ?_⟩, h⟩
  cases m
  · exact .inl ⟨rfl, none, rfl, fun _ => rfl⟩
  · exact .inl ⟨rfl, rfl, rfl⟩
theorem Up.nilS {α : Type} {enc : α → List Value} {sz : Nat} (m : Bool) (hz : 0 < sz) {ds : List Assn} (h : Up (SlT m enc sz (.slice none 0 0) 0 ([] : List α) :: cs) ds) : Up cs ds := fun w hs => h w (hs.nilS m hz)
theorem J.nilS {N : Nat} {cc : CC} {Q : Exit → Env → List Assn → Prop} {α : Type} (enc : α → List Value) (sz : Nat) (m : Bool) (hz : 0 < sz) (h : J P N cc ρ (SlT m enc sz (.slice none 0 0) 0 ([] : List α) :: cs) Q) : J P N cc ρ cs Q :=
  J.up (Up.nilS m hz (Up.refl _)) h
theorem JT.nilS {α : Type} (enc : α → List Value) (sz : Nat) (m : Bool) (hz : 0 < sz) (h : JT P t ρ (SlT m enc sz (.slice none 0 0) 0 ([] : List α) :: cs) K) : JT P t ρ cs K :=
  JT.up (Up.nilS m hz (Up.refl _)) h

/-! ### A part of a slice -/

/-- The bound's value. -/
inductive Bd (ρ : Env) (d : Nat) : Option Operand → Nat → Prop
  | no : Bd ρ d none d
  | so {o k n} (h : ρ.ev o = some (.int k ((n : Nat) : Int))) : Bd ρ d (some o) n

theorem Bd.lo {d n : Nat} {x : Option Operand} (h : Bd ρ d x n) : sliceLo x ρ d = some n := by
  cases h with
  | no => rfl
  | so h => simp [sliceLo, h]

theorem sub_spec {α : Type} {enc : α → List Value} {sz : Nat} {xs : List α} (h0 : ∀ e ∈ xs.map enc, e.length = sz ∧ ∀ v ∈ e, isOne v = true) (l u : Nat) :
    ∀ e ∈ ((xs.take u).drop l).map enc, e.length = sz ∧ ∀ v ∈ e, isOne v = true := by
  intro e he
  obtain ⟨x, hx, rfl⟩ := List.mem_map.1 he
  exact h0 _ (List.mem_map.2 ⟨x, List.mem_of_mem_take (List.mem_of_mem_drop hx), rfl⟩)

/-- What a part of a slice is. -/
def partV (a : Option Addr) (sz l u m : Nat) : Value := .slice (if m = l then a else a.map (·.add (l * sz))) (u - l) (m - l)

theorem Sat.part {α : Type} {sz c l u m : Nat} {enc : α → List Value} {a : Option Addr} {xs : List α} {w : Heap} (hs : Sat w cs) (hh : Has cs (SlT false enc sz (.slice a xs.length c) c xs) r)
    (h1 : l ≤ u) (h2 : u ≤ xs.length) (h3 : u ≤ m) (h4 : m ≤ c) : Sat w (SlT false enc sz (partV a sz l u m) (m - l) ((xs.take u).drop l) :: cs) := by
  obtain ⟨hz, h0, hlc, _, _, hf⟩ := hs.slice hh
  unfold partV
  have hlen : ((xs.take u).drop l).length = u - l := by simp; omega
  refine hs.imp ?_
  intro S H hst
  obtain ⟨H1, H2, l1, l2, hd, ⟨hzz, _, hc⟩, hr⟩ := hh S H hst
  refine ⟨fun _ => none, H, fun b o e => (by cases e), Hp.le_refl _, fun b => .inl rfl, ⟨⟨hz, by have := hzz.2; simp at this ⊢; omega⟩, sub_spec h0 l u, ?_⟩, hst⟩
  · by_cases hul : u = l
    · refine .inl ⟨by simp; omega, if m = l then a else a.map (·.add (l * sz)), by simp [hul], fun hn => ?_⟩
      by_cases hml : m = l
      · omega
      · rw [if_neg hml] at hn
        cases a with
        | none =>
          rcases hc with ⟨h5, a', h6, h7⟩ | ⟨b, off', T, fz, C, h6, h7, h8, h9⟩
          · simp at h6; have := h7 h6.1.symm; omega
          · simp at h6
        | some a => simp at hn
    · have hml : ¬ m = l := by omega
      rcases hc with ⟨h5, a', h6, h7⟩ | ⟨b, off', T, fz, C, h6, h7, h8, h9⟩
      · have : xs = [] := by simpa using h5
        subst this; simp at h2; omega
      · obtain ⟨rfl, _⟩ := Value.slice.inj h6
        refine .inr ⟨b, off' + l * sz, T, fz, C, ?_, ?_, h8, fun i hi => ?_⟩
        · simp only [if_neg hml, Option.map_some, Addr.add_none, List.length_map, hlen]
        · simp only [List.length_map, hlen]; omega
        · have e1 : ((xs.take u).drop l).map enc = ((xs.map enc).take u).drop l := by simp [List.map_take, List.map_drop]
          have hlens : ∀ e ∈ xs.map enc, e.length = sz := fun e he => (h0 e he).1
          have hlens' : ∀ e ∈ (xs.map enc).take u, e.length = sz := fun e he => hlens e (List.mem_of_mem_take he)
          rw [e1] at hi ⊢
          rw [← flat_drop hlens' l (by simp; omega), ← flat_take hlens u (by simpa using h2)] at hi ⊢
          simp only [List.length_drop, List.length_take] at hi
          rw [List.getElem?_drop, List.getElem?_take, if_pos (by omega), ← h9 _ (by omega), Nat.add_assoc]

/-- A part of a slice that is never written. -/
theorem JT.slS {α : Type} {d sz c l u m : Nat} {x : Operand} {lo hi mx : Option Operand} {enc : α → List Value} {sv : Value} {xs : List α} (hx : ρ.ev x = some sv) (hh : Has cs (SlT false enc sz sv c xs) r)
    (hm : Bd ρ c mx m) (hu : Bd ρ xs.length hi u) (hl : Bd ρ 0 lo l) (hmh : mx.isSome = true → hi.isSome = true) (h1 : l ≤ u) (h2 : u ≤ xs.length) (h3 : u ≤ m) (h4 : m ≤ c)
    (h : ∀ sv', JT P t ((d, sv') :: ρ) (SlT false enc sz sv' (m - l) ((xs.take u).drop l) :: cs) K) : JT P (.st ⟨some d, .sl sz x lo hi mx, none⟩ t) ρ cs K := ⟨by
  intro w hs
  obtain ⟨hz, h0, hlc, a, rfl, hf⟩ := hs.slice hh
  simp only [runT, semG, Kd.sem]
  exact ⟨a, xs.length, c, l, u, m, hx, hm.lo, h4, hmh, hu.lo, fun _ => h3, hl.lo, fun _ => h1, (h _).run w (hs.part hh h1 h2 h3 h4)⟩⟩

/-- A slice of one's own, looked into. -/
theorem Sat.ownS {α : Type} {enc : α → List Value} {sz c : Nat} {sv : Value} {xs : List α} {h : Heap} (hs : Sat h (SlT true enc sz sv c xs :: cs)) :
    (sv = .slice none 0 0 ∧ xs = [] ∧ c = 0) ∨ ∃ b T pre rest, sv = .slice (some ⟨b, pre.length, none⟩) xs.length c ∧ xs.length ≤ c ∧ (c - xs.length) * sz ≤ rest.length ∧
      Sat h (pt b (.cells (pre ++ ((xs.map enc).flatten ++ rest)).toArray T (0, 0)) :: cs) := by
  obtain ⟨S, H, hS, hH, hd, H1, H2, l1, l2, hd', ⟨hz, h0, hc⟩, hr⟩ := hs
  rcases hc with ⟨h1, h2, h3⟩ | ⟨b, T, pre, rest, h1, h2, h3, h4⟩
  · exact .inl ⟨h1, by simpa using h2, h3⟩
  · exact .inr ⟨b, T, pre, rest, by simpa using h1, by simpa using h2, by simpa using h4, ⟨S, H, hS, hH, hd, H1, H2, l1, l2, hd', h3, hr⟩⟩

theorem Sat.mkOwn {α : Type} {enc : α → List Value} {sz c n : Nat} {xs : List α} {b T : Nat} {pre rest l : List Value} {h : Heap} (hs : Sat h (pt b (.cells l.toArray T (0, 0)) :: cs)) (hz : 0 < sz) (hL : xs.length ≤ 140737488355328)
    (h0 : ∀ e ∈ xs.map enc, e.length = sz ∧ ∀ v ∈ e, isOne v = true) (hl : l = pre ++ ((xs.map enc).flatten ++ rest)) (hn : n = xs.length) (hc : xs.length ≤ c) (hr : (c - xs.length) * sz ≤ rest.length) :
    Sat h (SlT true enc sz (.slice (some ⟨b, pre.length, none⟩) n c) c xs :: cs) := by
  subst hl hn
  refine hs.imp ?_
  rintro S H ⟨H1, H2, l1, l2, hd, hp, hst⟩
  exact ⟨H1, H2, l1, l2, hd, ⟨⟨hz, by simpa using hL⟩, h0, .inr ⟨b, T, pre, rest, by simp, by simpa using hc, hp, by simpa using hr⟩⟩, hst⟩

/-- A part of a slice of one's own takes its place. -/
theorem JT.slO {α : Type} {d sz c l u m : Nat} {x : Operand} {lo hi mx : Option Operand} {enc : α → List Value} {sv : Value} {xs : List α} (hx : ρ.ev x = some sv) (hh : Has cs (SlT true enc sz sv c xs) r)
    (hm : Bd ρ c mx m) (hu : Bd ρ xs.length hi u) (hl : Bd ρ 0 lo l) (hmh : mx.isSome = true → hi.isSome = true) (h1 : l ≤ u) (h2 : u ≤ xs.length) (h3 : u ≤ m) (h4 : m ≤ c)
    (h : ∀ sv', JT P t ((d, sv') :: ρ) (SlT true enc sz sv' (m - l) ((xs.take u).drop l) :: r) K) : JT P (.st ⟨some d, .sl sz x lo hi mx, none⟩ t) ρ cs K := ⟨by
  intro w hs
  obtain ⟨hz, h0, hlc, a, rfl, hf⟩ := hs.slice hh
  simp only [runT, semG, Kd.sem]
  refine ⟨a, xs.length, c, l, u, m, hx, hm.lo, h4, hmh, hu.lo, fun _ => h3, hl.lo, fun _ => h1, (h _).run w ?_⟩
  have hlen : ((xs.take u).drop l).length = u - l := by simp; omega
  have h0' := sub_spec h0 l u
  have hlens : ∀ e ∈ xs.map enc, e.length = sz := fun e he => (h0 e he).1
  rcases (hs.imp hh).ownS with ⟨e1, e2, e3⟩ | ⟨b, T, pre, rest, e1, e2, e3, hs'⟩
  · subst e2 e3
    simp at h2
    obtain rfl : u = 0 := by omega
    obtain rfl : l = 0 := by omega
    obtain rfl : m = 0 := by omega
    obtain ⟨rfl, _⟩ := Value.slice.inj e1
    exact (hs.imp (Imp.trans hh Imp.drop)).nilS true hz
  · obtain ⟨rfl, _⟩ := Value.slice.inj e1
    by_cases hml : m = l
    · subst hml
      obtain rfl : u = m := by omega
      have hnil : (xs.take u).drop u = [] := by simp
      rw [if_pos rfl, hnil, Nat.sub_self]
      exact hs'.mkOwn (xs := ([] : List α)) (rest := (xs.map enc).flatten ++ rest) hz (by simp) (by simp) (by simp) rfl (by simp) (by simp)
    · rw [if_neg hml]
      simp only [Option.map_some, Addr.add_none]
      have e5 : (xs.map enc).flatten = ((xs.take l).map enc).flatten ++ ((((xs.take u).drop l).map enc).flatten ++ ((xs.drop u).map enc).flatten) := by
        rw [← List.flatten_append, ← List.flatten_append, ← List.map_append, ← List.map_append]
        congr 2
        have : xs.take l = (xs.take u).take l := by rw [List.take_take, Nat.min_eq_left h1]
        rw [← List.append_assoc, this, List.take_append_drop, List.take_append_drop]
      have e6 : pre.length + l * sz = (pre ++ ((xs.take l).map enc).flatten).length := by
        rw [List.length_append, flat_len (sz := sz)]
        · simp only [List.length_map, List.length_take]; rw [Nat.min_eq_left (by omega)]
        · intro e he
          obtain ⟨y, hy, rfl⟩ := List.mem_map.1 he
          exact (h0 _ (List.mem_map.2 ⟨y, List.mem_of_mem_take hy, rfl⟩)).1
      rw [e6]
      have e7 : (((xs.drop u).map enc).flatten).length = (xs.length - u) * sz := by
        rw [flat_len (sz := sz)]
        · simp
        · intro e he
          obtain ⟨y, hy, rfl⟩ := List.mem_map.1 he
          exact (h0 _ (List.mem_map.2 ⟨y, List.mem_of_mem_drop hy, rfl⟩)).1
      refine hs'.mkOwn (pre := pre ++ ((xs.take l).map enc).flatten) (rest := ((xs.drop u).map enc).flatten ++ rest) hz (by have := hs.lenF hh; omega) h0' ?_ (by omega) (by omega) ?_
      · rw [e5]; simp [List.append_assoc]
      · rw [hlen, List.length_append, e7]
        have : (m - l - (u - l)) ≤ (xs.length - u) + (c - xs.length) := by omega
        have := Nat.mul_le_mul_right sz this
        rw [Nat.add_mul] at this
        omega⟩

theorem lput_app : ∀ (p us q s : List Value), us.length = q.length → lput (p ++ (q ++ s)) p.length us = p ++ (us ++ s)
  | p, us, q, s, h => by
    obtain ⟨h1, h2⟩ := lput_spec (p ++ (q ++ s)) p.length us (by simp; omega)
    apply List.ext_getElem?
    intro i
    rw [h2]
    by_cases hi : i < p.length
    · rw [if_neg (by omega), List.getElem?_append_left hi, List.getElem?_append_left hi]
    · rw [List.getElem?_append_right (l₁ := p) (l₂ := q ++ s) (by omega), List.getElem?_append_right (l₁ := p) (l₂ := us ++ s) (by omega)]
      by_cases hj : i < p.length + us.length
      · rw [if_pos (by omega), List.getElem?_append_left (l₁ := us) (by omega)]
      · rw [if_neg (by omega), List.getElem?_append_right (l₁ := q) (by omega), List.getElem?_append_right (l₁ := us) (by omega), h]

theorem lput_mid (p us q s : List Value) (o : Nat) (h : o + us.length ≤ q.length) : lput (p ++ (q ++ s)) (p.length + o) us = p ++ (lput q o us ++ s) := by
  obtain ⟨h1, h2⟩ := lput_spec (p ++ (q ++ s)) (p.length + o) us (by simp; omega)
  obtain ⟨h3, h4⟩ := lput_spec q o us h
  apply List.ext_getElem?
  intro i
  rw [h2]
  by_cases hi : i < p.length
  · rw [if_neg (by omega), List.getElem?_append_left hi, List.getElem?_append_left hi]
  · rw [List.getElem?_append_right (l₁ := p) (l₂ := q ++ s) (by omega), List.getElem?_append_right (l₁ := p) (l₂ := lput q o us ++ s) (by omega)]
    by_cases hq : i - p.length < q.length
    · rw [List.getElem?_append_left (l₁ := q) hq, List.getElem?_append_left (l₁ := lput q o us) (by omega), h4]
      by_cases hj : p.length + o ≤ i ∧ i < p.length + o + us.length
      · rw [if_pos hj, if_pos (by omega)]; congr 1; omega
      · rw [if_neg hj, if_neg (by omega)]
    · rw [if_neg (by omega), List.getElem?_append_right (l₁ := q) (by omega), List.getElem?_append_right (l₁ := lput q o us) (by omega), h3]

/-- What an append comes to, where it makes a new row. -/
theorem Sat.fresh {α : Type} {enc : α → List Value} {sz c' T : Nat} {zs : List α} {us vs : List Value} {zero : Array Value} {h : Heap} (hs : Sat h cs) (hz : 0 < sz) (hL : zs.length ≤ 140737488355328) (h0 : ∀ e ∈ zs.map enc, e.length = sz ∧ ∀ v ∈ e, isOne v = true)
    (hu : us ++ vs = (zs.map enc).flatten) (hzero : zero.size = sz) (hc : zs.length ≤ c') {n : Nat} (hn : n = zs.length) :
    Sat (h.push (.cells (us.toArray ++ vs.toArray ++ Builtin.zeroCells zero (c' - n)) T)) (SlT true enc sz (.slice (some ⟨h.size, 0, none⟩) n c') c' zs :: cs) := by
  subst hn
  have hp := hs.push (.cells (us.toArray ++ vs.toArray ++ Builtin.zeroCells zero (c' - zs.length)) T)
  have : (us.toArray ++ vs.toArray ++ Builtin.zeroCells zero (c' - zs.length)) = ([] ++ ((zs.map enc).flatten ++ (Builtin.zeroCells zero (c' - zs.length)).toList)).toArray := by
    rw [← hu]; simp
  rw [this] at hp ⊢
  exact hp.mkOwn (pre := []) hz hL h0 rfl rfl hc (by simp [Builtin.zeroCells, hzero])

/-- What is appended to a slice of one's own. -/
theorem JT.apO {α β : Type} {d T sz bytes c c1 : Nat} {zero : Array Value} {x y : Operand} {enc : α → List Value} {enc' : β → List Value} {sv sw : Value} {xs ys : List α} {zs : List β}
    (hx : ρ.ev x = some sv) (hh : Has cs (SlT true enc sz sv c xs) r) (hy : ρ.ev y = some sw) (hg : Rd r enc' sz c1 sw zs) (he : zs.map enc' = ys.map enc) (hzero : zero.size = sz) (hb0 : 0 < bytes)
    (hb : (xs.length + ys.length) * bytes ≤ 140737488355328)
    (h : ∀ sv' c', xs.length + ys.length ≤ c' → JT P t ((d, sv') :: ρ) (SlT true enc sz sv' c' (xs ++ ys) :: r) K) : JT P (.st ⟨some d, .ap T sz bytes zero x y, none⟩ t) ρ cs K := ⟨by
  intro w hs
  obtain ⟨hz, h0, hlc, a, rfl, hf⟩ := hs.slice hh
  have hsr : Sat w r := hs.imp (Imp.trans hh Imp.drop)
  obtain ⟨_, g0, glc, a1, rfl, gf⟩ := (hg _ hsr).slice Has.here
  have hlen : zs.length = ys.length := by have := congrArg List.length he; simpa using this
  have hL : (xs ++ ys).length ≤ 140737488355328 := by
    rw [List.length_append]
    exact Nat.le_trans (Nat.le_mul_of_pos_right _ hb0) hb
  rw [he] at g0 gf
  have h00 : ∀ e ∈ (xs ++ ys).map enc, e.length = sz ∧ ∀ v ∈ e, isOne v = true := by
    intro e hm
    rw [List.map_append] at hm
    rcases List.mem_append.1 hm with hm | hm
    · exact h0 e hm
    · exact g0 e hm
  have hus : ((xs ++ ys).map enc).flatten = (xs.map enc).flatten ++ (ys.map enc).flatten := by simp
  simp only [runT, semG, Kd.sem]
  refine ⟨a, xs.length, c, .slice a1 zs.length c1, zs.length, hx, hy, rfl, by rw [hlen]; exact hb, hb0, ?_⟩
  by_cases hfit : xs.length + zs.length ≤ c
  · rw [if_pos hfit]
    rcases (hs.imp hh).ownS with ⟨e1, e2, e3⟩ | ⟨b, T', pre, rest, e1, e2, e3, hs'⟩
    · subst e2 e3
      have hz0 : zs.length = 0 := by simp at hfit; exact hfit ▸ rfl
      have hy0 : ys = [] := List.length_eq_zero_iff.1 (by omega)
      subst hy0
      obtain ⟨rfl, _⟩ := Value.slice.inj e1
      refine ⟨_, w, gf, rfl, ?_⟩
      have hz1 : zs = [] := List.length_eq_zero_iff.1 hz0
      subst hz1
      exact (h _ 0 (by simp)).run w (hsr.nilS true hz)
    · obtain ⟨rfl, _⟩ := Value.slice.inj e1
      have l1 : ((xs.map enc).flatten).length = xs.length * sz := by rw [flat_len fun e he => (h0 e he).1]; simp
      have l2 : ((ys.map enc).flatten).length = ys.length * sz := by rw [flat_len fun e he => (g0 e he).1]; simp
      have hroom : ys.length * sz ≤ rest.length := by
        have : ys.length ≤ c - xs.length := by omega
        have := Nat.mul_le_mul_right sz this
        omega
      obtain ⟨h', s1, s2, s3⟩ := storeList_cells (b := b) (T := T') ((ys.map enc).flatten) (pre ++ ((xs.map enc).flatten ++ rest)) (pre.length + xs.length * sz) 0 w hs'.get
        (by simp only [List.length_append]; omega) (by
          intro u hu
          obtain ⟨e, he1, he2⟩ := List.mem_flatten.1 hu
          exact (g0 e he1).2 u he2)
      refine ⟨_, h', gf, by simp only [storeAt, Addr.add_none]; exact s1, ?_⟩
      rw [show xs.length + zs.length = xs.length + ys.length by omega]
      refine (h _ c (by omega)).run h' ?_
      have hset := hs'.set s2 s3
      refine hset.mkOwn (rest := rest.drop (ys.length * sz)) hz hL h00 ?_ (by simp) (by simp; omega) ?_
      · have e5 : pre.length + xs.length * sz + 0 = (pre ++ (xs.map enc).flatten).length := by simp [l1]
        rw [e5, show pre ++ ((xs.map enc).flatten ++ rest) = (pre ++ (xs.map enc).flatten) ++ (rest.take (ys.length * sz) ++ rest.drop (ys.length * sz)) by simp [List.append_assoc]]
        rw [lput_app _ _ _ _ (by rw [l2, List.length_take]; omega), hus]
        simp [List.append_assoc]
      · rw [List.length_append, List.length_drop]
        have : c - (xs.length + ys.length) + ys.length ≤ c - xs.length := by omega
        have := Nat.mul_le_mul_right sz this
        rw [Nat.add_mul] at this
        omega
  · rw [if_neg hfit]
    refine ⟨_, _, hf, gf, fun c' hc' => ?_⟩
    rw [show xs.length + zs.length = xs.length + ys.length by omega]
    refine (h _ c' (by omega)).run _ ?_
    exact hsr.fresh hz hL h00 hus.symm hzero (by simp; omega) (by simp)⟩

/-- What is appended to a slice that is full: a new one. -/
theorem JT.apF {α β : Type} {d T sz bytes c c1 : Nat} {zero : Array Value} {x y : Operand} {enc : α → List Value} {enc' : β → List Value} {sv sw : Value} {xs ys : List α} {zs : List β}
    (hx : ρ.ev x = some sv) (hh : Rd cs enc sz c sv xs) (hy : ρ.ev y = some sw) (hg : Rd cs enc' sz c1 sw zs) (he : zs.map enc' = ys.map enc) (hzero : zero.size = sz) (hb0 : 0 < bytes)
    (hfull : c < xs.length + ys.length) (hb : (xs.length + ys.length) * bytes ≤ 140737488355328)
    (h : ∀ sv' c', xs.length + ys.length ≤ c' → JT P t ((d, sv') :: ρ) (SlT true enc sz sv' c' (xs ++ ys) :: cs) K) : JT P (.st ⟨some d, .ap T sz bytes zero x y, none⟩ t) ρ cs K := ⟨by
  intro w hs
  obtain ⟨hz, h0, hlc, a, rfl, hf⟩ := (hh _ hs).slice Has.here
  obtain ⟨_, g0, glc, a1, rfl, gf⟩ := (hg _ hs).slice Has.here
  have hlen : zs.length = ys.length := by have := congrArg List.length he; simpa using this
  have hL : (xs ++ ys).length ≤ 140737488355328 := by
    rw [List.length_append]
    exact Nat.le_trans (Nat.le_mul_of_pos_right _ hb0) hb
  rw [he] at g0 gf
  have h00 : ∀ e ∈ (xs ++ ys).map enc, e.length = sz ∧ ∀ v ∈ e, isOne v = true := by
    intro e hm
    rw [List.map_append] at hm
    rcases List.mem_append.1 hm with hm | hm
    · exact h0 e hm
    · exact g0 e hm
  have hus : ((xs ++ ys).map enc).flatten = (xs.map enc).flatten ++ (ys.map enc).flatten := by simp
  simp only [runT, semG, Kd.sem]
  refine ⟨a, xs.length, c, .slice a1 zs.length c1, zs.length, hx, hy, rfl, by rw [hlen]; exact hb, hb0, ?_⟩
  rw [if_neg (by omega)]
  refine ⟨_, _, hf, gf, fun c' hc' => ?_⟩
  rw [show xs.length + zs.length = xs.length + ys.length by omega]
  refine (h _ c' (by omega)).run _ ?_
  exact hs.fresh hz hL h00 hus.symm hzero (by simp; omega) (by simp)⟩

/-- What is appended to a slice that is full, and may be nothing: never written again. -/
theorem JT.apS {α β : Type} {d T sz bytes c1 : Nat} {zero : Array Value} {x y : Operand} {enc : α → List Value} {enc' : β → List Value} {sv sw : Value} {xs ys : List α} {zs : List β}
    (hx : ρ.ev x = some sv) (hh : Has cs (SlT false enc sz sv xs.length xs) r) (hy : ρ.ev y = some sw) (hg : Rd cs enc' sz c1 sw zs) (he : zs.map enc' = ys.map enc) (hzero : zero.size = sz) (hb0 : 0 < bytes)
    (hb : (xs.length + ys.length) * bytes ≤ 140737488355328)
    (h : ∀ sv' c', JT P t ((d, sv') :: ρ) (SlT false enc sz sv' c' (xs ++ ys) :: cs) K) : JT P (.st ⟨some d, .ap T sz bytes zero x y, none⟩ t) ρ cs K := by
  by_cases h0 : ys.length = 0
  · have : ys = [] := List.length_eq_zero_iff.1 h0
    subst this
    have hz0 : zs.length = 0 := by have := congrArg List.length he; simpa using this
    refine ⟨fun w hs => ?_⟩
    obtain ⟨hz, g0, hlc, a, rfl, hf⟩ := hs.slice hh
    obtain ⟨_, k0, glc, a1, rfl, gf⟩ := (hg _ hs).slice Has.here
    simp only [runT, semG, Kd.sem]
    refine ⟨a, xs.length, xs.length, .slice a1 zs.length c1, zs.length, hx, hy, rfl, by rw [hz0]; simpa using hb, hb0, ?_⟩
    rw [if_pos (by omega)]
    have hz1 : zs = [] := List.length_eq_zero_iff.1 hz0
    subst hz1
    refine ⟨_, w, gf, by cases a <;> simp [storeAt, storeList], ?_⟩
    have := (h (.slice a xs.length xs.length) xs.length).run w (hs.imp ?_)
    · simpa [Env.put] using this
    · rw [List.append_nil]
      intro S H hst
      obtain ⟨H1, H2, l1, l2, hd, hc, _⟩ := hh S H hst
      exact ⟨fun _ => none, H, fun b o e => (by cases e), Hp.le_refl _, fun b => .inl rfl, SlT_pers enc sz _ _ xs _ _ hc, hst⟩
  · exact JT.apF hx (Rd.of hh) hy hg he hzero hb0 (by omega) hb fun sv' c' _ => JT.frz Has.here (h sv' c')

/-- An element written. -/
theorem JT.stE {α : Type} {sz c k n o : Nat} {a x : Operand} {v : Value} {us : List Value} {enc : α → List Value} {sv : Value} {xs : List α} {x' : α} [Inhabited α] (ha : ρ.ev a = some (elp sv (k * sz + o))) (hx : ρ.ev x = some v)
    (hh : Has cs (SlT true enc sz sv c xs) r) (hk : k < xs.length) (hv : v.cells.toList = us) (hn : us.length = n) (hu : us.all isOne = true) (hl : o + n ≤ sz) (he : lput (enc (nth xs k)) o us = enc x')
    (h : JT P t ρ (SlT true enc sz sv c (xs.set k x') :: r) K) : JT P (.st ⟨none, .st n a x, none⟩ t) ρ cs K := ⟨by
  intro w hs
  obtain ⟨hz, h0, hlc, ad, rfl, hf⟩ := hs.slice hh
  have hlens : ∀ e ∈ xs.map enc, e.length = sz := fun e he => (h0 e he).1
  rw [nth_eq hk] at he
  have hxk := h0 (enc xs[k]) (List.mem_map.2 ⟨_, List.getElem_mem hk, rfl⟩)
  rcases (hs.imp hh).ownS with ⟨e1, e2, e3⟩ | ⟨b, T, pre, rest, e1, e2, e3, hs'⟩
  · subst e2; simp at hk
  · obtain ⟨rfl, _⟩ := Value.slice.inj e1
    simp only [runT, semG, Kd.sem]
    have split : (xs.map enc).flatten = ((xs.take k).map enc).flatten ++ (enc xs[k] ++ ((xs.drop (k + 1)).map enc).flatten) := by
      have : xs = xs.take k ++ (xs[k] :: xs.drop (k + 1)) := by rw [← List.drop_eq_getElem_cons hk, List.take_append_drop]
      rw [congrArg (fun l => (l.map enc).flatten) this]
      simp only [List.map_append, List.map_cons, List.flatten_append, List.flatten_cons]
    have splitx : ((xs.set k x').map enc).flatten = ((xs.take k).map enc).flatten ++ (enc x' ++ ((xs.drop (k + 1)).map enc).flatten) := by
      rw [List.set_eq_take_append_cons_drop, if_pos hk]; simp
    have lt : ((xs.take k).map enc).flatten.length = k * sz := by
      rw [flat_len (sz := sz)]
      · simp only [List.length_map, List.length_take]; rw [Nat.min_eq_left (by omega)]
      · intro e he
        obtain ⟨y, hy, rfl⟩ := List.mem_map.1 he
        exact hlens _ (List.mem_map.2 ⟨y, List.mem_of_mem_take hy, rfl⟩)
    have hlenp : (lput (enc xs[k]) o us).length = (enc xs[k]).length := (lput_spec _ _ _ (by rw [hxk.1, hn]; exact hl)).1
    obtain ⟨h', s1, s2, s3⟩ := storeList_cells (b := b) (T := T) us (pre ++ ((xs.map enc).flatten ++ rest)) (pre.length + (k * sz + o)) 0 w hs'.get
      (by rw [split]; simp only [List.length_append, lt, hxk.1, hn]; omega) (fun u hu' => List.all_eq_true.1 hu u hu')
    refine ⟨⟨b, pre.length + (k * sz + o), none⟩, v, h', by rw [ha]; show some (Value.pointer (some ((⟨b, pre.length, none⟩ : Addr).add (k * sz + o)))) = _; rw [Addr.add_none], hx, by rw [← hn, ← hv]; simp, by rw [hv]; exact s1, h.run h' ?_⟩
    have hset := hs'.set s2 s3
    have h00 : ∀ e ∈ (xs.set k x').map enc, e.length = sz ∧ ∀ v ∈ e, isOne v = true := by
      intro e hm
      obtain ⟨y, hy, rfl⟩ := List.mem_map.1 hm
      rcases List.mem_or_eq_of_mem_set hy with hy | rfl
      · exact h0 _ (List.mem_map.2 ⟨y, hy, rfl⟩)
      · rw [← he]
        refine ⟨hlenp.trans hxk.1, fun u hu' => ?_⟩
        obtain ⟨j, hj⟩ := List.mem_iff_getElem?.1 hu'
        rw [(lput_spec _ _ _ (by rw [hxk.1, hn]; exact hl)).2] at hj
        split at hj
        · exact List.all_eq_true.1 hu u (List.mem_iff_getElem?.2 ⟨_, hj⟩)
        · exact hxk.2 u (List.mem_iff_getElem?.2 ⟨_, hj⟩)
    refine Eq.mp ?_ (hset.mkOwn (pre := pre) (rest := rest) (xs := xs.set k x') (n := xs.length) (c := c) hz (by rw [List.length_set]; exact hs.lenF hh) h00 ?_ (by simp) (by simpa using hlc) (by simpa using e3))
    · rfl
    · rw [splitx, ← he, split]
      have := lput_mid (pre ++ ((xs.take k).map enc).flatten) us (enc xs[k]) (((xs.drop (k + 1)).map enc).flatten ++ rest) o (by rw [hxk.1, hn]; exact hl)
      rw [List.length_append, lt, Nat.add_assoc] at this
      simp only [List.append_assoc, Nat.add_zero] at this ⊢
      exact this⟩

end
end Go.SL
