/- The walk's own words, part S: slices.SortFunc at rows of structs, out of the kit's contract. Conditions: none. -/
import Derived.Test.YtgcmglieciaifaaSlQ
import Derived.Shelf.SlSortCmp.NoneTotal
set_option linter.unusedSimpArgs false
set_option linter.unusedVariables false
set_option linter.unusedSectionVars false
namespace Go.SL
open Go Go.Proofs Go.Shelf Go.RowKit Go.Lib Go.Sort

theorem Sat.grow {h : Heap} {cs : List Assn} (hs : Sat h cs) (os : Array Obj) : Sat (h ++ os) cs := by
  obtain ⟨S, H, hS, hH, hd, hst⟩ := hs
  have hx : ∀ (A : Hp), A.le (hv h) → A.le (hv (h ++ os)) := by
    intro A hA b o e
    obtain ⟨e1, e2⟩ := hv_iff.1 (hA b o e)
    have hlt := (Array.getElem?_eq_some_iff.1 e1).1
    exact hv_iff.2 ⟨by rw [Array.getElem?_append_left hlt]; exact e1, e2⟩
  exact ⟨S, H, hx S hS, hx H hH, hd, hst⟩

theorem dfr_sort {h : Heap} {b : Nat} {g : Obj → Obj} {os : Array Obj} {C : Array Value} {T : TypeId} {fz : Nat × Nat} (hb : h[b]? = some (.cells C T fz)) (k : Nat) (ds : Option (List Deferred)) (e : h[k]? = some (.deferred ds)) : (h.modify b g ++ os)[k]? = some (.deferred ds) := by
  have hlt := (Array.getElem?_eq_some_iff.1 e).1
  rw [Array.getElem?_append_left (by simpa using hlt), Array.getElem?_modify, if_neg]
  · exact e
  · rintro rfl; rw [hb] at e; cases e

theorem one_eq (v : Value) : isOne v = v.oneCell' := by cases v <;> rfl

variable {α : Type} [Inhabited α]

theorem flatK_list (enc : α → List Value) (k : Nat) (hk : ∀ x, (enc x).length = k) (xs : List α) : flatK enc k xs.toArray = ((xs.map enc).flatten).toArray := by
  have hl : ((xs.map enc).flatten).length = xs.length * k := by
    rw [flat_len (sz := k) (by intro e he; obtain ⟨x, _, rfl⟩ := List.mem_map.1 he; exact hk x)]; simp
  refine ext_get! (by simp [hl]) fun t ht => ?_
  have ht' : t < xs.length * k := by simpa using ht
  have k0 : 0 < k := by
    rcases Nat.eq_zero_or_pos k with h | h
    · subst h; simp at ht'
    · exact h
  rw [get_flatK _ _ _ t (by simpa using ht')]
  have hj : t / k < xs.length := (Nat.div_lt_iff_lt_mul k0).2 ht'
  have hm : t % k < k := Nat.mod_lt _ k0
  have hes : ∀ e ∈ xs.map enc, e.length = k := by intro e he; obtain ⟨x, _, rfl⟩ := List.mem_map.1 he; exact hk x
  have hd := flat_drop hes (t / k) (by simpa using Nat.le_of_lt hj)
  have e1 : t = t / k * k + t % k := by have := Nat.div_add_mod t k; rw [Nat.mul_comm] at this; exact this.symm
  have hget : ((xs.map enc).flatten)[t]? = (enc xs[t / k])[t % k]? := by
    conv => lhs; rw [e1]
    rw [← List.getElem?_drop, hd, List.drop_eq_getElem_cons (by simpa using hj)]
    simp only [List.flatten_cons, List.getElem_map]
    rw [List.getElem?_append_left (by rw [hk]; exact hm)]
  have a1 : xs.toArray[t / k]! = xs[t / k] := by simp [hj]
  rw [a1]
  have h2 : t % k < (enc xs[t / k]).length := by rw [hk]; exact hm
  have h3 : t < ((xs.map enc).flatten).length := by rw [hl]; exact ht'
  rw [List.getElem?_eq_getElem h3, List.getElem?_eq_getElem h2] at hget
  have hget := Option.some.inj hget
  rw [getElem!_pos (enc xs[t / k]) (t % k) h2, getElem!_pos ((xs.map enc).flatten).toArray t (by simpa using h3), List.getElem_toArray, hget]

theorem putCells_mid (pre mid mid' rest : List Value) (hl : mid'.length = mid.length) : putCells id pre.length mid'.toArray (pre ++ (mid ++ rest)).toArray = (pre ++ (mid' ++ rest)).toArray := by
  refine ext_get! (by simp [putCells, hl]) fun t ht => ?_
  have ht' : t < pre.length + (mid.length + rest.length) := by simpa [putCells] using ht
  rw [getElem!_pos _ t ht, getElem!_pos _ t (by simp [hl]; omega)]
  simp only [putCells, Array.getElem_mapIdx, List.size_toArray, List.getElem_toArray, id]
  by_cases h : pre.length ≤ t ∧ t < pre.length + mid'.length
  · rw [if_pos h]
    rw [getElem!_pos _ _ (by simp; omega), List.getElem_toArray, List.getElem_append_right h.1, List.getElem_append_left (by omega)]
  · rw [if_neg h]
    rcases Nat.lt_or_ge t pre.length with h1 | h1
    · rw [List.getElem_append_left h1, List.getElem_append_left h1]
    · rw [List.getElem_append_right h1, List.getElem_append_right h1, List.getElem_append_right (by omega), List.getElem_append_right (by omega)]
      congr 1; omega

variable {P : Program} {ρ : Ren} {F : List Assn}

/-- What is asked of the function that compares: where what is known of memory is kept, it tells 'cf' and writes nothing. -/
def CmpFn (P : Program) (g : Nat) (cb : List Value) (enc : α → List Value) (cf : α → α → Int) (F : List Assn) : Prop :=
  ∀ h x y, Sat h F → Meets P g ([.agg (enc x).toArray, .agg (enc y).toArray] ++ cb) [old h] (Det (i64 (cf x y)) [old h])

theorem CmpFn.of {g : Nat} {cb : List Value} {enc : α → List Value} {cf : α → α → Int} (h : ∀ x y F, Meets P g ([.agg (enc x).toArray, .agg (enc y).toArray] ++ cb) F (Det (i64 (cf x y)) F)) : CmpFn P g cb enc cf F := fun _ x y _ => h x y _

/-- What only makes memory. -/
theorem grow_of {w w' : World} (hk : Keeps w w') (hs : Sat w'.heap [old w.heap]) : ∃ q os, w' = Sort.grow (w.drewN q) os := by
  obtain ⟨S, H, hS, _, _, H1, H2, _, _, _, hc, _⟩ := hs
  have hold : ∀ b o, w.heap[b]? = some o → w'.heap[b]? = some o := fun b o e => by
    cases hvo : vis o with
    | true => exact (hv_iff.1 (hS _ _ (hc b o (hv_iff.2 ⟨e, hvo⟩)))).1
    | false => cases o <;> first | exact hk.dfr _ _ e | cases hvo
  have hle : w.heap.size ≤ w'.heap.size := by
    rcases Nat.eq_zero_or_pos w.heap.size with h0 | h0
    · omega
    · have hlt : w.heap.size - 1 < w.heap.size := by omega
      have := hold (w.heap.size - 1) _ (Array.getElem?_eq_getElem hlt)
      have := (Array.getElem?_eq_some_iff.1 this).1
      omega
  refine ⟨w'.drawn - w.drawn, w'.heap.extract w.heap.size w'.heap.size, ?_⟩
  have hh : w'.heap = w.heap ++ w'.heap.extract w.heap.size w'.heap.size := by
    apply Array.ext_getElem?
    intro b
    rw [Array.getElem?_append]
    by_cases hb : b < w.heap.size
    · rw [if_pos hb, hold b _ (Array.getElem?_eq_getElem hb), Array.getElem?_eq_getElem hb]
    · rw [if_neg hb, Array.getElem?_extract]
      by_cases hb2 : b - w.heap.size < min w'.heap.size w'.heap.size - w.heap.size
      · rw [if_pos hb2, show w.heap.size + (b - w.heap.size) = b by omega]
      · rw [if_neg hb2, Array.getElem?_eq_none (by omega)]
  have hd := hk.drawn
  cases w' with
  | mk h' t' d' o' out' =>
    cases w with
    | mk h t d o out =>
      have e1 := hk.tape; have e2 := hk.os; have e3 := hk.output
      simp only at e1 e2 e3 hh hd
      subst e1 e2 e3
      simp only [Sort.grow, World.drewN, World.mk.injEq]
      exact ⟨hh, trivial, by omega, trivial, trivial⟩

theorem sort_meets (L : SlLaysF0.n6 P ρ) (sz : Nat) (aE : ∀ w, (isAgg (ρ.t 24)).run P w = .ok true w) (zE : ∀ w, (Go.sizeOf (ρ.t 24)).run P w = .ok sz w) {enc : α → List Value}
    (h1 : ∀ x, (enc x).length = sz ∧ ∀ v ∈ enc x, isOne v = true) {cf : α → α → Int} (hO : SWO (ltOf cf)) {g : Nat} (hg : callOk P g = true) {cb : List Value}
    (hcmp : CmpFn P g cb enc cf F) (hok : callOk P (ρ.f 6) = true) {a : Option Addr} {c : Nat} {xs : List α} :
    Meets P (ρ.f 6) [.slice a xs.length c, .func (.func g) #[] cb.toArray] (SlT true enc sz (.slice a xs.length c) c xs :: F)
      (Some' (fun ys : List α => ys.Perm xs ∧ ys.Pairwise (fun x y => ¬ cf y x < 0)) (fun _ => .tuple #[]) (fun ys => SlT true enc sz (.slice a ys.length c) c ys :: F)) := by
  refine ⟨hok, fun w hs => ?_⟩
  have hlen := hs.lenF Has.here
  obtain ⟨S0, H0, _, _, hzh⟩ := hs.mem Has.here
  have hz : 0 < sz := hzh.1.1
  rcases hs.ownS with ⟨e1, rfl, rfl⟩ | ⟨b, T, pre, rest, e1, hle, hrest, hp⟩
  · have hA := AnyF.slices_SortFunc_none L a 0 (.func (.func g) #[] cb.toArray) w
    refine hA.mono ?_
    rintro e w' ⟨rfl, rfl⟩
    exact ⟨_, _, rfl, .refl _, hs, [], ⟨.refl _, .nil⟩, rfl, rfl⟩
  · injection e1 with e1 _ _
    subst e1
    have hes : ∀ ys : List α, ∀ e ∈ ys.map enc, e.length = sz := by intro ys e he; obtain ⟨x, _, rfl⟩ := List.mem_map.1 he; exact (h1 x).1
    have hes1 : ∀ ys : List α, ∀ e ∈ ys.map enc, e.length = sz ∧ ∀ v ∈ e, isOne v = true := by intro ys e he; obtain ⟨x, _, rfl⟩ := List.mem_map.1 he; exact h1 x
    have hfl : ∀ ys : List α, ((ys.map enc).flatten).length = ys.length * sz := fun ys => by rw [flat_len (hes ys)]; simp
    have hb : w.heap[b]? = some (.cells (pre ++ ((xs.map enc).flatten ++ rest)).toArray T (0, 0)) := hp.get
    have hblk : b < w.heap.size := (Array.getElem?_eq_some_iff.1 hb).1
    -- the row lies there
    have hH : HoldsK enc sz w b pre.length xs.toArray := by
      unfold HoldsK
      rw [flatK_list enc sz (fun x => (h1 x).1)]
      intro j hj
      have hj' : j < ((xs.map enc).flatten).length := by simpa using hj
      refine ⟨?_, ?_⟩
      · simp only [World.cell?, hb, Option.isSome_none, Bool.false_eq_true, if_false]
        rw [List.getElem?_toArray, List.getElem?_append_right (by omega), Nat.add_sub_cancel_left, List.getElem?_append_left hj', List.getElem?_eq_getElem hj', getElem!_pos _ j (by simpa using hj')]
        simp
      · simp only [World.frozen?, hb]
        simp
    -- the worlds of the sort
    have hW : ∀ (m : Nat) (os : Array Obj) (dk : Array α), dk.size = xs.toArray.size → Sat (sortWorldK enc sz w b pre.length m dk os).heap (pt b (.cells (pre ++ ((dk.toList.map enc).flatten ++ rest)).toArray T (0, 0)) :: F) := by
      intro m os dk hdk
      have hheap : (sortWorldK enc sz w b pre.length m dk os).heap = (w.heap.modify b (onCells (putCells id pre.length (flatK enc sz dk)))) ++ os := rfl
      rw [hheap]
      refine Sat.grow (Sat.set hp ?_ ?_) os
      · rw [Array.getElem?_modify, if_pos rfl, hb]
        simp only [Option.map_some, onCells]
        have : flatK enc sz dk = ((dk.toList.map enc).flatten).toArray := by
          have := flatK_list enc sz (fun x => (h1 x).1) dk.toList
          simpa using this
        rw [this, putCells_mid]
        rw [hfl, hfl]
        simp at hdk; simp [hdk]
      · intro k hk
        rw [Array.getElem?_modify, if_neg (Ne.symm hk)]
    have hcl : CmpLays P g cb.toArray enc sz cf b pre.length xs.toArray.size w := by
      intro m os dk hdk x y
      have hs1 := (hW m os dk hdk).imp Imp.drop
      obtain ⟨_, hM⟩ := hcmp _ x y hs1
      have hM := hM (sortWorldK enc sz w b pre.length m dk os) (Sat.start _)
      have hargs : (#[Value.agg (enc x).toArray, Value.agg (enc y).toArray] ++ cb.toArray : Array Value) = ([Value.agg (enc x).toArray, Value.agg (enc y).toArray] ++ cb).toArray := by simp
      rw [hargs]
      refine hM.mono ?_
      rintro e w' ⟨v, cs', rfl, hk, hs', rfl, rfl⟩
      obtain ⟨q, os', hw⟩ := grow_of hk hs'
      exact ⟨rfl, q, os', hw⟩
    have eg : ∀ args w, (callFunc g args).run P w = .ok (.enter g args) w := fun args w => run_callFunc hg
    have hA := AnyQ.slices_SortFunc L sz aE zE enc (fun x => (h1 x).1) (fun x v hv => by rw [← one_eq]; exact (h1 x).2 v hv) cf hO g cb.toArray b pre.length c xs.toArray w eg hcl hH hblk (by simp; omega)
    have hsz : xs.toArray.size = xs.length := by simp
    rw [hsz] at hA
    refine hA.mono ?_
    rintro e w' ⟨rfl, d', n, os, hperm, hsort, rfl⟩
    obtain ⟨hp1, hp2, hp3⟩ := hperm
    have hd' : d'.size = xs.length := by rw [hp1]; simp
    have hPerm : d'.toList.Perm xs := by
      have e1 : d'.extract 0 xs.length = d' := by rw [← hd']; simp
      have e2 : xs.toArray.extract 0 xs.length = xs.toArray := by simp
      rw [e1, e2] at hp3; simpa using hp3
    refine ⟨_, _, rfl, ?_, ?_, d'.toList, ⟨hPerm, ?_⟩, rfl, rfl⟩
    · exact ⟨rfl, rfl, rfl, Nat.le_add_right _ _, dfr_sort hb⟩
    · exact Sat.mkOwn (hW n os d' (by simp [hd'])) hz (by simp [hd']; exact hlen) (hes1 _) rfl rfl (by simp [hd']; exact hle) (by simp [hd']; exact hrest)
    · rw [List.pairwise_iff_getElem]
      intro i j hi hj hij
      have := hsort i j (Nat.zero_le _) hij (by simpa [hd'] using hj)
      have hi' : i < d'.size := by simpa using hi
      have hj' : j < d'.size := by simpa using hj
      rw [getElem!_pos d' i hi', getElem!_pos d' j hj'] at this
      simpa [ltOf] using this

end Go.SL

set_option linter.unusedSimpArgs false
set_option linter.unusedVariables false
set_option linter.unusedSectionVars false
namespace Go.SL
open Go Go.Proofs Go.Shelf Go.RowKit Go.Lib Go.Sort
variable {α : Type} [Inhabited α] {P : Program} {ρ : Ren} {F : List Assn}

/-- What is asked of the function that compares: where what is known of memory is kept, it tells 'cf' and writes nothing. -/
def CmpFn1 (P : Program) (g : Nat) (cb : List Value) (e1 : α → Value) (cf : α → α → Int) (F : List Assn) : Prop :=
  ∀ h x y, Sat h F → Meets P g ([e1 x, e1 y] ++ cb) [old h] (Det (i64 (cf x y)) [old h])
theorem putCells_e1 (e1 : α → Value) (off : Nat) (dk : Array α) (cs : Array Value) : putCells e1 off dk cs = putCells id off (((dk.toList.map fun x => [e1 x]).flatten).toArray) cs := by
  have hl : ((dk.toList.map fun x => [e1 x]).flatten) = dk.toList.map e1 := by
    generalize dk.toList = l
    induction l with
    | nil => rfl
    | cons x r ih => simp only [List.map_cons, List.flatten_cons, ih]; rfl
  rw [hl]
  unfold putCells
  apply Array.ext
  · simp
  · intro i h1 h2
    simp only [Array.getElem_mapIdx, List.size_toArray, List.length_map, Array.length_toList, id]
    by_cases h : off ≤ i ∧ i < off + dk.size
    · rw [if_pos h, if_pos h]
      rw [getElem!_pos dk _ (by omega), getElem!_pos _ _ (by simp; omega)]
      simp
    · rw [if_neg h, if_neg h]
theorem sort_meets1 (L : SlLaysF.n6 P ρ) {e1 : α → Value}
    (h1 : ∀ x, isOne (e1 x) = true) {cf : α → α → Int} (hO : SWO (ltOf cf)) {g : Nat} (hg : callOk P g = true) {cb : List Value}
    (hcmp : CmpFn1 P g cb e1 cf F) (hok : callOk P (ρ.f 6) = true) {a : Option Addr} {c : Nat} {xs : List α} :
    Meets P (ρ.f 6) [.slice a xs.length c, .func (.func g) #[] cb.toArray] (SlT true (fun x => [e1 x]) 1 (.slice a xs.length c) c xs :: F)
      (Some' (fun ys : List α => ys.Perm xs ∧ ys.Pairwise (fun x y => ¬ cf y x < 0)) (fun _ => .tuple #[]) (fun ys => SlT true (fun x => [e1 x]) 1 (.slice a ys.length c) c ys :: F)) := by
  refine ⟨hok, fun w hs => ?_⟩
  have hlen := hs.lenF Has.here
  rcases hs.ownS with ⟨e0, rfl, rfl⟩ | ⟨b, T, pre, rest, e0, hle, hrest, hp⟩
  · have hA := AnyF.slices_SortFunc_none { L with } a 0 (.func (.func g) #[] cb.toArray) w
    refine hA.mono ?_
    rintro e w' ⟨rfl, rfl⟩
    exact ⟨_, _, rfl, .refl _, hs, [], ⟨.refl _, .nil⟩, rfl, rfl⟩
  · injection e0 with e0 _ _
    subst e0
    have hes1 : ∀ ys : List α, ∀ e ∈ ys.map (fun x => [e1 x]), e.length = 1 ∧ ∀ v ∈ e, isOne v = true := by
      intro ys e he; obtain ⟨x, _, rfl⟩ := List.mem_map.1 he; exact ⟨rfl, fun v hv => by rw [List.mem_singleton.1 hv]; exact h1 x⟩
    have hfe : ∀ ys : List α, (ys.map (fun x => [e1 x])).flatten = ys.map e1 := fun ys => by
      induction ys with
      | nil => rfl
      | cons x r ih => simp only [List.map_cons, List.flatten_cons, ih]; rfl
    have hb : w.heap[b]? = some (.cells (pre ++ ((xs.map (fun x => [e1 x])).flatten ++ rest)).toArray T (0, 0)) := hp.get
    have hblk : b < w.heap.size := (Array.getElem?_eq_some_iff.1 hb).1
    have hH : Holds e1 w b pre.length xs.toArray := by
      intro j hj
      have hj' : j < xs.length := by simpa using hj
      refine ⟨?_, ?_⟩
      · simp only [World.cell?, hb, Option.isSome_none, Bool.false_eq_true, if_false]
        rw [List.getElem?_toArray, List.getElem?_append_right (by omega), Nat.add_sub_cancel_left, hfe, List.getElem?_append_left (by simpa using hj'), List.getElem?_map, List.getElem?_eq_getElem hj', getElem!_pos _ j (by simpa using hj')]
        simp
      · simp only [World.frozen?, hb]
        simp
    have hW : ∀ (m : Nat) (os : Array Obj) (dk : Array α), dk.size = xs.toArray.size → Sat (sortWorld e1 w b pre.length m dk os).heap (pt b (.cells (pre ++ ((dk.toList.map (fun x => [e1 x])).flatten ++ rest)).toArray T (0, 0)) :: F) := by
      intro m os dk hdk
      have hheap : (sortWorld e1 w b pre.length m dk os).heap = (w.heap.modify b (onCells (putCells e1 pre.length dk))) ++ os := rfl
      rw [hheap]
      refine Sat.grow (Sat.set hp ?_ ?_) os
      · rw [Array.getElem?_modify, if_pos rfl, hb]
        simp only [Option.map_some, onCells]
        rw [putCells_e1, putCells_mid]
        rw [hfe, hfe]
        simp at hdk; simp [hdk]
      · intro k hk
        rw [Array.getElem?_modify, if_neg (Ne.symm hk)]
    have hcl : CmpLays1 P g cb.toArray e1 cf b pre.length xs.toArray.size w := by
      intro m os dk hdk x y
      have hs1 := (hW m os dk hdk).imp Imp.drop
      obtain ⟨_, hM⟩ := hcmp _ x y hs1
      have hM := hM (sortWorld e1 w b pre.length m dk os) (Sat.start _)
      have hargs : (#[e1 x, e1 y] ++ cb.toArray : Array Value) = ([e1 x, e1 y] ++ cb).toArray := by simp
      rw [hargs]
      refine hM.mono ?_
      rintro e w' ⟨v, cs', rfl, hk, hs', rfl, rfl⟩
      obtain ⟨q, os', hw⟩ := grow_of hk hs'
      exact ⟨rfl, q, os', hw⟩
    have eg : ∀ args w, (callFunc g args).run P w = .ok (.enter g args) w := fun args w => run_callFunc hg
    have hA := Any.slices_SortFunc L e1 (fun x => by have := h1 x; rw [one_eq] at this; exact this) cf hO g cb.toArray b pre.length c xs.toArray w eg hcl hH hblk (by simp; omega)
    have hsz : xs.toArray.size = xs.length := by simp
    rw [hsz] at hA
    refine hA.mono ?_
    rintro e w' ⟨rfl, d', n, os, hperm, hsort, rfl⟩
    obtain ⟨hp1, hp2, hp3⟩ := hperm
    have hd' : d'.size = xs.length := by rw [hp1]; simp
    have hPerm : d'.toList.Perm xs := by
      have e1 : d'.extract 0 xs.length = d' := by rw [← hd']; simp
      have e2 : xs.toArray.extract 0 xs.length = xs.toArray := by simp
      rw [e1, e2] at hp3; simpa using hp3
    refine ⟨_, _, rfl, ?_, ?_, d'.toList, ⟨hPerm, ?_⟩, rfl, rfl⟩
    · exact ⟨rfl, rfl, rfl, Nat.le_add_right _ _, dfr_sort hb⟩
    · exact Sat.mkOwn (hW n os d' (by simp [hd'])) (by decide) (by simp [hd']; exact hlen) (hes1 _) rfl rfl (by simp [hd']; exact hle) (by simp [hd']; simp at hrest; omega)
    · rw [List.pairwise_iff_getElem]
      intro i j hi hj hij
      have := hsort i j (Nat.zero_le _) hij (by simpa [hd'] using hj)
      have hi' : i < d'.size := by simpa using hi
      have hj' : j < d'.size := by simpa using hj
      rw [getElem!_pos d' i hi', getElem!_pos d' j hj'] at this
      simpa [ltOf] using this
theorem sort_meets0 (L : SlLaysF0.n6 P ρ) (hok : callOk P (ρ.f 6) = true) (fv : Value) (a : Option Addr) (c : Nat) : Meets P (ρ.f 6) [.slice a 0 c, fv] F (Det (.tuple #[]) F) := by
  refine ⟨hok, fun w hs => ?_⟩
  refine (AnyF.slices_SortFunc_none L a c fv w).mono ?_
  rintro e w' ⟨rfl, rfl⟩
  exact ⟨_, _, rfl, .refl _, hs, rfl, rfl⟩
theorem old_rc {h0 : Heap} {b T : Nat} {l : List Value} (hb : h0[b]? = some (.cells l.toArray T (0, 0))) {cs : List Assn} : Imp (old h0 :: cs) (rc b T l :: old h0 :: cs) := old_ro hb
end Go.SL
