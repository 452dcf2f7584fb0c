/- A law's arguments: numbers, and slices of rows of numbers, opened. Conditions: none. -/
import Derived.Test.YtienlpaehgdpaaaSlZ
set_option linter.unusedSimpArgs false
set_option linter.unusedVariables false
namespace Go.SL
open Go Go.ChangeShapes Go.WideShapes Go.ChangeAt Go.RowKit

/-- What a cell of a flat type may be. -/
inductive FK where
  | int (k : IntKind)
  | bool
  | str
  deriving DecidableEq

def FK.ok : FK → Value → Prop
  | .int k, v => ∃ n, v = .int k n ∧ (Lit.int k n).wf = true
  | .bool, v => ∃ b, v = .bool b
  | .str, v => ∃ s, v = .string s ∧ s.size ≤ maxLen

def okCells : List FK → List Value → Prop
  | [], [] => True
  | k :: ks, v :: vs => k.ok v ∧ okCells ks vs
  | _, _ => False

theorem okCells_len : ∀ {ks : List FK} {cs : List Value}, okCells ks cs → cs.length = ks.length
  | [], [], _ => rfl
  | _ :: ks, _ :: cs, h => by simp [okCells_len h.2]
  | [], _ :: _, h => h.elim
  | _ :: _, [], h => h.elim

theorem okCells_app : ∀ {ks ls : List FK} {cs ds : List Value}, okCells ks cs → okCells ls ds → okCells (ks ++ ls) (cs ++ ds)
  | [], _, [], _, _, h => h
  | _ :: _, _, _ :: _, _, h, h' => ⟨h.1, okCells_app h.2 h'⟩
  | [], _, _ :: _, _, h, _ => h.elim
  | _ :: _, _, [], _, h, _ => h.elim

theorem okCells_one : ∀ {ks : List FK} {cs : List Value}, okCells ks cs → ∀ v ∈ cs, isOne v = true
  | [], [], _, v, hv => by cases hv
  | k :: ks, c :: cs, h, v, hv => by
    rcases List.mem_cons.1 hv with rfl | hv
    · have h1 := h.1
      cases k with
      | int k => obtain ⟨n, rfl, _⟩ := h1; rfl
      | bool => obtain ⟨b, rfl⟩ := h1; rfl
      | str => obtain ⟨s, rfl, _⟩ := h1; rfl
    · exact okCells_one h.2 v hv
  | [], _ :: _, h, _, _ => h.elim
  | _ :: _, [], h, _, _ => h.elim

theorem okCells_cons {k : FK} {ks : List FK} {cs : List Value} (h : okCells (k :: ks) cs) : ∃ v r, cs = v :: r ∧ k.ok v ∧ okCells ks r := by
  cases cs with
  | nil => exact h.elim
  | cons v r => exact ⟨v, r, rfl, h.1, h.2⟩
theorem okCells_int {k : IntKind} {ks : List FK} {cs : List Value} (h : okCells (.int k :: ks) cs) : ∃ n r, cs = .int k n :: r ∧ (Lit.int k n).wf = true ∧ okCells ks r := by
  obtain ⟨v, r, rfl, ⟨n, rfl, hn⟩, hr⟩ := okCells_cons h
  exact ⟨n, r, rfl, hn, hr⟩
theorem okCells_bool {ks : List FK} {cs : List Value} (h : okCells (.bool :: ks) cs) : ∃ b r, cs = .bool b :: r ∧ okCells ks r := by
  obtain ⟨v, r, rfl, ⟨b, rfl⟩, hr⟩ := okCells_cons h
  exact ⟨b, r, rfl, hr⟩
theorem okCells_nil {cs : List Value} (h : okCells [] cs) : cs = [] := by
  cases cs with
  | nil => rfl
  | cons v r => exact h.elim
theorem wf_i64 {n : Int} (h : (Lit.int .i64 n).wf = true) : -9223372036854775808 ≤ n ∧ n ≤ 9223372036854775807 := by
  simpa [Lit.wf, IntKind.min, IntKind.max, IntKind.signed, IntKind.bits] using h
theorem wf_u64 {n : Int} (h : (Lit.int .u64 n).wf = true) : 0 ≤ n ∧ n ≤ 18446744073709551615 := by
  simpa [Lit.wf, IntKind.min, IntKind.max, IntKind.signed, IntKind.bits] using h

def flatFs (P : Program) (g : TypeId → Option (List FK)) : Nat → List Field → Option (List FK)
  | _, [] => some []
  | o, f :: r => match g f.type, flatFs P g (o + P.cellsOf f.type) r with
    | some a, some b => if f.offset = o ∧ a.length = P.cellsOf f.type then some (a ++ b) else none
    | _, _ => none

def flatT (P : Program) : Nat → TypeId → Option (List FK)
  | 0, _ => none
  | n + 1, t => match P.underlying t with
    | some (.int k) => some [.int k]
    | some .bool => some [.bool]
    | some .string => some [.str]
    | some (.struct fs) => match flatFs P (flatT P n) 0 fs.toList with
      | some ks => if ks.length = P.cellsOf t then some ks else none
      | none => none
    | _ => none

section
variable {H : Type} {enc : TypeId × Value → H} {P : Program} {w : World} {base : Nat} {spare : Nat → Bool} {held : Bool}

theorem flatFs_ok {g : TypeId → Option (List FK)} {cs : List Value} : ∀ {l : List Field} {o : Nat} {ks : List FK}, flatFs P g o l = some ks →
    (∀ f ∈ l, ∀ a, g f.type = some a → okCells a ((cs.drop f.offset).take (P.cellsOf f.type))) → cs.length = o + ks.length → okCells ks (cs.drop o)
  | [], o, ks, h, _, hl => by
    simp only [flatFs, Option.some.injEq] at h; subst h
    simp only [List.length_nil, Nat.add_zero] at hl
    rw [List.drop_eq_nil_of_le (by omega)]; trivial
  | f :: r, o, ks, h, hf, hl => by
    simp only [flatFs] at h
    split at h
    · rename_i a b ha hb
      split at h
      · rename_i hc
        cases h
        have h1 := hf f List.mem_cons_self a ha
        rw [hc.1] at h1
        have h2 := flatFs_ok hb (fun f' hf' => hf f' (List.mem_cons_of_mem _ hf')) (by rw [hl, List.length_append, hc.2]; omega)
        have e : cs.drop o = (cs.drop o).take (P.cellsOf f.type) ++ cs.drop (o + P.cellsOf f.type) := by
          rw [← List.drop_drop, List.take_append_drop]
        rw [e]; exact okCells_app h1 h2
      · cases h
    · cases h

theorem trod_flat : ∀ {n : Nat} {t : TypeId} {ks : List FK}, flatT P n t = some ks → ∀ {fuel : Nat} {cs : List Value} {x : DataW H × List MemPlace}, DataW.trod enc P w base spare held fuel t cs = some x → okCells ks cs
  | 0, _, _, h, _, _, _, _ => by cases h
  | n + 1, t, ks, h, fuel, cs, x, hx => by
    simp only [flatT] at h
    split at h
    · rename_i k hu; cases h
      obtain ⟨m, rfl, _, hw⟩ := DataW.trod_int hu hx
      exact ⟨⟨m, rfl, hw⟩, trivial⟩
    · rename_i hu; cases h
      obtain ⟨b, rfl, _⟩ := DataW.trod_bool hu hx
      exact ⟨⟨b, rfl⟩, trivial⟩
    · rename_i hu; cases h
      obtain ⟨s, rfl, _, hs⟩ := DataW.trod_string hu hx
      exact ⟨⟨s, rfl, hs⟩, trivial⟩
    · rename_i fs hu
      split at h
      · rename_i ks' hks
        split at h
        · rename_i hlen
          cases h
          obtain ⟨xs, m, rfl, _, hl, hn, hx'⟩ := DataW.trod_struct hu hx
          have := flatFs_ok (cs := cs) hks (fun f hf a ha => by
            obtain ⟨i, hi, rfl⟩ := List.getElem_of_mem hf
            have hi' : i < fs.size := by simpa using hi
            have h1 := hx' i fs[i] (by simp [hi'])
            have h2 : xs[i]? = some (xs[i]'(by omega)) := List.getElem?_eq_getElem (by omega)
            rw [h2] at h1
            exact trod_flat ha (by simpa using h1)) (by omega)
          simpa using this
        · cases h
      · cases h
    · cases h

/-- A struct of numbers. -/
theorem open_flat {r : Reach} {b0 n : Nat} {t : TypeId} {fs : Array Field} {ks : List FK} {v : Value} {d : DataW H} {ps : List MemPlace} (ht : P.underlying t = some (.struct fs)) (hk : flatT P n t = some ks)
    (hval : Value.okWide P w r b0 t v) (hd : DataW.Trod enc P w base spare held t v d ps) : ∃ cs : List Value, v = .agg cs.toArray ∧ okCells ks cs := by
  unfold Value.okWide at hval
  rw [ht] at hval
  obtain ⟨cs, rfl, _⟩ := hval
  obtain ⟨fuel, hf⟩ := hd
  exact ⟨cs.toList, rfl, trod_flat hk hf⟩

theorem flat_at {sz : Nat} {es : List (List Value)} (h : ∀ e ∈ es, e.length = sz) {k j : Nat} (hk : k < es.length) (hj : j < sz) : es.flatten[k * sz + j]? = es[k][j]? := by
  have h1 : (es.flatten.drop (k * sz))[j]? = es.flatten[k * sz + j]? := by rw [List.getElem?_drop]
  rw [← h1, flat_drop h k (by omega), List.drop_eq_getElem_cons hk, List.flatten_cons, List.getElem?_append_left (by rw [h _ (List.getElem_mem hk)]; exact hj)]

theorem Imp.old {h0 : Heap} {A : Assn} {cs : List Assn} (h : ∀ S : Hp, (∀ b o, h0[b]? = some o → S b = some o) → A.holds S (fun _ => none)) : Imp (old h0 :: cs) (A :: old h0 :: cs) := by
  rintro S H ⟨H1, H2, h1, h2, hd, hc, hr⟩
  exact ⟨fun _ => none, H, fun b o e => (by cases e), Hp.le_refl _, fun b => .inl rfl, h S hc, H1, H2, h1, h2, hd, hc, hr⟩

/-- A slice of such. -/
theorem open_row {α : Type} {r : Reach} {b0 n sz : Nat} {t e : TypeId} {ks : List FK} {v : Value} {d : DataW H} {ps : List MemPlace} {ec : α → List Value} {ok : α → Prop} (ht : P.underlying t = some (.slice e)) (hk : flatT P n e = some ks)
    (hsz : P.cellsOf e = sz) (h0 : 0 < sz) (hoc : ∀ cs, okCells ks cs → ∃ a, cs = ec a ∧ ok a) (hval : Value.okWide P w r b0 t v) (hd : DataW.Trod enc P w base spare held t v d ps) :
    ∃ (a : Option Addr) (c : Nat) (xs : List α), v = .slice a xs.length c ∧ (∀ x ∈ xs, ok x) ∧ (d = .nil ∧ xs = [] ∨ ∃ ds ds', d = .slice ds ds' ∧ ds.length = xs.length) ∧
      (xs.length ≤ 140737488355328 → ∀ cs, Imp (old w.heap :: cs) (SlT false ec sz v c xs :: old w.heap :: cs)) := by
  obtain ⟨fuel, hf⟩ := hd
  have hv : ∀ u, v.cells.toList = [u] → v = u := by
    unfold Value.okWide at hval
    rw [ht] at hval
    simp only [Cell.okWide, ht, Cell.ok] at hval
    intro u hu
    cases v <;> simp_all [Value.cells]
  rcases DataW.trod_slice ht hf with ⟨h1, h2⟩ | ⟨a, len, cap, elems, rest, m, _, h1, h2, _, hlc, hcm, hel, hat, _, _⟩
  · obtain rfl := hv _ h1
    refine ⟨none, 0, [], rfl, (by simp), .inl ⟨by injection h2, rfl⟩, fun _ cs => Imp.old fun S hS => ⟨⟨h0, by simp⟩, by simp, .inl ⟨rfl, none, rfl, fun _ => rfl⟩⟩⟩
  · obtain rfl := hv _ h1
    rw [hsz] at hat
    have hx : ∀ i, i < len → ∃ x : α, ok x ∧ okCells ks (ec x) ∧ w.cells? base (a.add (i * sz)) sz = some (ec x) := by
      intro i hi
      have h3 := hat i hi
      rw [List.getElem?_eq_getElem (by omega), Option.bind_eq_some_iff] at h3
      obtain ⟨csi, h4, h5⟩ := h3
      have h6 := trod_flat hk h5
      obtain ⟨x, rfl, hx⟩ := hoc _ h6
      exact ⟨x, hx, h6, h4⟩
    let f : Fin len → α := fun i => Classical.choose (hx i.1 i.2)
    have hfs : ∀ i (hi : i < len), ok (f ⟨i, hi⟩) ∧ okCells ks (ec (f ⟨i, hi⟩)) ∧ w.cells? base (a.add (i * sz)) sz = some (ec (f ⟨i, hi⟩)) := fun i hi => Classical.choose_spec (hx i hi)
    have hlen : (List.ofFn f).length = len := List.length_ofFn
    have hxs : ∀ i (hi : i < (List.ofFn f).length), ok (List.ofFn f)[i] ∧ okCells ks (ec (List.ofFn f)[i]) ∧ w.cells? base (a.add (i * sz)) sz = some (ec (List.ofFn f)[i]) := by
      intro i hi
      rw [List.getElem_ofFn]
      exact hfs i (by omega)
    generalize List.ofFn f = xs at hlen hxs
    refine ⟨some a, cap, xs, by rw [hlen], fun x hx => ?_, .inr ⟨_, _, by injection h2, by rw [List.length_map]; omega⟩, fun hL cs => Imp.old fun S hS => ?_⟩
    · obtain ⟨i, hi, rfl⟩ := List.getElem_of_mem hx
      exact (hxs i hi).1
    have hel2 : ∀ x ∈ xs.map ec, x.length = sz ∧ ∀ v ∈ x, isOne v = true := by
      intro x hx
      obtain ⟨y, hy, rfl⟩ := List.mem_map.1 hx
      obtain ⟨i, hi, rfl⟩ := List.getElem_of_mem hy
      exact ⟨(World.cells?_some (hxs i hi).2.2).2.1, okCells_one (hxs i hi).2.1⟩
    refine ⟨⟨h0, by simpa using hL⟩, hel2, ?_⟩
    rcases Nat.eq_zero_or_pos len with hz | hz
    · subst hz
      left
      obtain rfl : xs = [] := List.eq_nil_of_length_eq_zero hlen
      exact ⟨rfl, some a, rfl, fun e => by cases e⟩
    · right
      have hcell : ∀ i (hi : i < xs.length) j, j < sz → w.cell? ((a.add (i * sz)).add j) = (ec xs[i])[j]? := fun i hi j hj => (World.cells?_some (hxs i hi).2.2).2.2 j hj
      have hc0 := hcell 0 (by omega) 0 h0
      have hl0 : (ec xs[0]).length = sz := (hel2 _ (List.mem_map.2 ⟨_, List.getElem_mem (by omega), rfl⟩)).1
      rw [List.getElem?_eq_getElem (by omega)] at hc0
      simp only [Nat.zero_mul, Addr.add, if_true] at hc0
      obtain ⟨b, off, sp⟩ := a
      unfold World.cell? at hc0
      split at hc0
      · rename_i C T fz hb
        cases sp with
        | some q => simp at hc0
        | none =>
          refine ⟨b, off, T, fz, C, by simp [hlen], by simpa [hlen] using hlc, hS _ _ hb, fun i hi => ?_⟩
          have hfl := flat_len (fun e he => (hel2 e he).1)
          rw [hfl] at hi
          have hsz0 : i % sz < sz := Nat.mod_lt _ h0
          have hk' : i / sz < (xs.map ec).length := by rw [Nat.div_lt_iff_lt_mul h0]; exact hi
          have e1 : i = i / sz * sz + i % sz := by rw [Nat.mul_comm]; exact (Nat.div_add_mod i sz).symm
          have h7 := flat_at (fun e he => (hel2 e he).1) hk' hsz0
          rw [← e1] at h7
          rw [h7, List.getElem_map]
          have h8 := hcell (i / sz) (by simpa using hk') (i % sz) hsz0
          rw [← h8]
          have h9 : (Addr.add ⟨b, off, none⟩ (i / sz * sz)).add (i % sz) = ⟨b, off + i, none⟩ := by
            rw [Addr.add_none, Addr.add_none]
            congr 1; omega
          rw [h9]
          simp only [World.cell?]
          rw [show w.heap[b]? = some (Obj.cells C T fz) from hb]
          rfl
      · cases hc0
end

end Go.SL
