/- Arguments that hold slices within structs within slices: what they are, and how they lie in memory. Conditions: none. -/
import Derived.Test.YtienlpaehgdpaaaSlY
import Derived.Test.YtienlpaehgdpaaaRows
set_option linter.unusedSimpArgs false
set_option linter.unusedVariables false
set_option linter.unusedSectionVars false
namespace Go.SL
open Go Go.ChangeShapes Go.WideShapes Go.Proofs.Ytienlpaehgdpaaa

/-- A value of a type that is read whole: B bounds the lengths of what it holds. -/
inductive Ok (P : Program) (S : Hp) (B : Nat) : TypeId → List Value → Prop
  | int {t k n} (hu : P.underlying t = some (.int k)) (hw : (Lit.int k n).wf = true) : Ok P S B t [.int k n]
  | bool {t b} (hu : P.underlying t = some .bool) : Ok P S B t [.bool b]
  | str {t s} (hu : P.underlying t = some .string) (hs : s.size ≤ B) : Ok P S B t [.string s]
  | struct {t fs cs} (hu : P.underlying t = some (.struct fs)) (hl : cs.length = P.cellsOf t) (hf : ∀ f ∈ fs.toList, Ok P S B f.type ((cs.drop f.offset).take (P.cellsOf f.type))) : Ok P S B t cs
  | nil {t e} (hu : P.underlying t = some (.slice e)) : Ok P S B t [.slice none 0 0]
  | row {t e a c es} (hu : P.underlying t = some (.slice e)) (hB : es.length ≤ B) (hS : (0 < P.cellsOf e ∧ ∀ x ∈ es, ∀ v ∈ x, isOne v = true) → B ≤ 140737488355328 → slH false (P.cellsOf e) (.slice (some a) es.length c) c es S (fun _ => none)) (he : ∀ x ∈ es, Ok P S B e x) : Ok P S B t [.slice (some a) es.length c]

section
variable {P : Program} {S : Hp} {B : Nat}

theorem slH_of_cells {w : World} {base sz len cap : Nat} {a : Addr} {es : List (List Value)} (hlen : es.length = len) (hlc : len ≤ cap) (hS : ∀ b o, w.heap[b]? = some o → S b = some o)
    (hx : ∀ i (hi : i < es.length), w.cells? base (a.add (i * sz)) sz = some es[i]) (h0 : 0 < sz) (h1 : ∀ x ∈ es, ∀ v ∈ x, isOne v = true) (hL : len ≤ 140737488355328) :
    slH false sz (.slice (some a) es.length cap) cap es S (fun _ => none) := by
  have hel2 : ∀ x ∈ es, x.length = sz ∧ ∀ v ∈ x, isOne v = true := by
    intro x hx'
    obtain ⟨i, hi, rfl⟩ := List.getElem_of_mem hx'
    exact ⟨(World.cells?_some (hx i hi)).2.1, h1 _ hx'⟩
  refine ⟨⟨h0, by omega⟩, hel2, ?_⟩
  rcases Nat.eq_zero_or_pos len with hz | hz
  · left
    obtain rfl : es = [] := List.eq_nil_of_length_eq_zero (by omega)
    exact ⟨rfl, some a, rfl, fun e => by cases e⟩
  · right
    have hcell : ∀ i (hi : i < es.length) j, j < sz → w.cell? ((a.add (i * sz)).add j) = es[i][j]? := fun i hi j hj => (World.cells?_some (hx i hi)).2.2 j hj
    have hc0 := hcell 0 (by omega) 0 h0
    have hl0 : es[0].length = sz := (hel2 _ (List.getElem_mem (by omega))).1
    rw [List.getElem?_eq_getElem (by omega)] at hc0
    simp only [Nat.zero_mul, Addr.add, if_true] at hc0
    obtain ⟨b, off, sp⟩ := a
    unfold World.cell? at hc0
    split at hc0
    · rename_i C T fz hb
      cases sp with
      | some q => simp at hc0
      | none =>
        refine ⟨b, off, T, fz, C, rfl, by omega, hS _ _ hb, fun i hi => ?_⟩
        have hfl := flat_len (fun e he => (hel2 e he).1)
        rw [hfl] at hi
        have hsz0 : i % sz < sz := Nat.mod_lt _ h0
        have hk' : i / sz < es.length := by rw [Nat.div_lt_iff_lt_mul h0]; exact hi
        have e1 : i = i / sz * sz + i % sz := by rw [Nat.mul_comm]; exact (Nat.div_add_mod i sz).symm
        have h7 := flat_at (fun e he => (hel2 e he).1) hk' hsz0
        rw [← e1] at h7
        rw [h7]
        have h8 := hcell (i / sz) hk' (i % sz) hsz0
        rw [← h8]
        have h9 : (Addr.add ⟨b, off, none⟩ (i / sz * sz)).add (i % sz) = ⟨b, off + i, none⟩ := by
          rw [Addr.add_none, Addr.add_none]
          congr 1; omega
        rw [h9]
        simp only [World.cell?]
        rw [show w.heap[b]? = some (Obj.cells C T fz) from hb]
        rfl
    · cases hc0

theorem bulkAll_mem {H : Type} {d : DataW H} : ∀ {l : List (DataW H)}, d ∈ l → Rows.uptoBulk d ≤ Rows.uptoBulkAll l
  | x :: r, h => by
    simp only [Rows.uptoBulkAll]
    rcases List.mem_cons.1 h with rfl | h
    · omega
    · have := bulkAll_mem h; omega
theorem bulk_pos {H : Type} (d : DataW H) : 1 ≤ Rows.uptoBulk d := by
  cases d with
  | lit l => cases l <;> simp [Rows.uptoBulk]
  | _ => simp [Rows.uptoBulk]
theorem bulkAll_len {H : Type} : ∀ l : List (DataW H), l.length ≤ Rows.uptoBulkAll l
  | [] => by simp [Rows.uptoBulkAll]
  | x :: r => by have := bulk_pos x; have := bulkAll_len r; simp only [Rows.uptoBulkAll, List.length_cons]; omega

/-- The types that are read so. -/
def okTy (P : Program) : Nat → TypeId → Bool
  | 0, _ => false
  | n + 1, t => match P.underlying t with
    | some (.int _) => true
    | some .bool => true
    | some .string => true
    | some (.slice e) => okTy P n e
    | some (.struct fs) => fs.toList.all fun f => okTy P n f.type
    | _ => false

theorem trod_ok {H : Type} {enc : TypeId × Value → H} {w : World} {base : Nat} {spare : Nat → Bool} {held : Bool} (hS : ∀ b o, w.heap[b]? = some o → S b = some o) :
    ∀ {n : Nat} {t : TypeId}, okTy P n t = true → ∀ {fuel : Nat} {cs : List Value} {x : DataW H × List MemPlace}, DataW.trod enc P w base spare held fuel t cs = some x → Rows.uptoBulk x.1 ≤ B → Ok P S B t cs
  | 0, _, h, _, _, _, _, _ => by cases h
  | n + 1, t, h, fuel, cs, x, hx, hb => by
    simp only [okTy] at h
    split at h
    · rename_i k hu
      obtain ⟨m, rfl, _, hw⟩ := DataW.trod_int hu hx
      exact .int hu hw
    · rename_i hu
      obtain ⟨b, rfl, _⟩ := DataW.trod_bool hu hx
      exact .bool hu
    · rename_i hu
      obtain ⟨s, rfl, rfl, hs⟩ := DataW.trod_string hu hx
      refine .str hu ?_
      simp only [Rows.uptoBulk] at hb
      have : s.size = s.data.toList.length := by simp
      omega
    · rename_i e hu
      rcases DataW.trod_slice hu hx with ⟨rfl, _⟩ | ⟨a, len, cap, elems, rest, m, _, rfl, rfl, _, hlc, hcm, hel, hat, _, _⟩
      · exact .nil hu
      · have hbe : Rows.uptoBulkAll (elems.map (·.1)) ≤ B := by simp only [Rows.uptoBulk] at hb; omega
        have hcl : ∀ i (hi : i < len), ∃ csi, w.cells? base (a.add (i * P.cellsOf e)) (P.cellsOf e) = some csi ∧ DataW.trod enc P w base spare held m e csi = elems[i]? := by
          intro i hi
          have h3 := hat i hi
          have h4 : elems[i]? = some (elems[i]'(by omega)) := List.getElem?_eq_getElem (by omega)
          rw [h4, Option.bind_eq_some_iff] at h3
          obtain ⟨c, g1, g2⟩ := h3
          exact ⟨c, g1, by rw [h4]; exact g2⟩
        let f : Fin len → List Value := fun i => Classical.choose (hcl i.1 i.2)
        have hf : ∀ i (hi : i < len), w.cells? base (a.add (i * P.cellsOf e)) (P.cellsOf e) = some (f ⟨i, hi⟩) ∧ DataW.trod enc P w base spare held m e (f ⟨i, hi⟩) = elems[i]? := fun i hi => Classical.choose_spec (hcl i hi)
        have hlen : (List.ofFn f).length = len := List.length_ofFn
        have hes : ∀ i (hi : i < (List.ofFn f).length), w.cells? base (a.add (i * P.cellsOf e)) (P.cellsOf e) = some (List.ofFn f)[i] ∧ DataW.trod enc P w base spare held m e (List.ofFn f)[i] = elems[i]? := by
          intro i hi
          rw [List.getElem_ofFn]
          exact hf i (by omega)
        generalize List.ofFn f = es at hlen hes
        subst hlen
        have hB : es.length ≤ B := by have := bulkAll_len (elems.map (·.1)); rw [List.length_map] at this; omega
        refine .row hu hB (fun ⟨h0, h1⟩ hL => slH_of_cells rfl hlc hS (fun i hi => (hes i hi).1) h0 h1 (by omega)) (fun y hy => ?_)
        obtain ⟨i, hi, rfl⟩ := List.getElem_of_mem hy
        have h4 : elems[i]? = some (elems[i]'(by omega)) := List.getElem?_eq_getElem (by omega)
        refine trod_ok hS h ((hes i hi).2.trans h4) ?_
        have := bulkAll_mem (d := (elems[i]'(by omega)).1) (l := elems.map (·.1)) (List.mem_map.2 ⟨_, List.getElem_mem (by omega), rfl⟩)
        omega
    · rename_i fs hu
      obtain ⟨xs, m, rfl, rfl, hl, hn, hx'⟩ := DataW.trod_struct hu hx
      refine .struct hu hl fun f hf => ?_
      obtain ⟨i, hi, rfl⟩ := List.getElem_of_mem hf
      have hi' : i < fs.size := by simpa using hi
      have h1 := hx' i fs[i] (by simp [hi'])
      have h2 : xs[i]? = some (xs[i]'(by omega)) := List.getElem?_eq_getElem (by omega)
      rw [h2] at h1
      have hb' : Rows.uptoBulk (xs[i]'(by omega)).1 ≤ B := by
        have := bulkAll_mem (d := (xs[i]'(by omega)).1) (l := xs.map (·.1)) (List.mem_map.2 ⟨_, List.getElem_mem (by omega), rfl⟩)
        simp only [Rows.uptoBulk] at hb
        omega
      have := trod_ok hS (List.all_eq_true.1 h _ hf) h1 hb'
      simpa using this
    · cases h

/-! ### Taking them apart -/
theorem Ok.intI {t : TypeId} {k : IntKind} {cs : List Value} (hu : P.underlying t = some (.int k)) (h : Ok P S B t cs) : ∃ n, cs = [.int k n] ∧ (Lit.int k n).wf = true := by
  cases h with
  | int hu' hw => rw [hu] at hu'; cases hu'; exact ⟨_, rfl, hw⟩
  | _ hu' => rw [hu] at hu'; cases hu'
theorem Ok.boolI {t : TypeId} {cs : List Value} (hu : P.underlying t = some .bool) (h : Ok P S B t cs) : ∃ b, cs = [.bool b] := by
  cases h with
  | bool hu' => exact ⟨_, rfl⟩
  | _ hu' => rw [hu] at hu'; cases hu'
theorem Ok.strI {t : TypeId} {cs : List Value} (hu : P.underlying t = some .string) (h : Ok P S B t cs) : ∃ s, cs = [.string s] ∧ s.size ≤ B := by
  cases h with
  | str hu' hs => exact ⟨_, rfl, hs⟩
  | _ hu' => rw [hu] at hu'; cases hu'
/-- A struct's fields, one behind the other. -/
def OkFs (P : Program) (S : Hp) (B : Nat) : List TypeId → List Value → Prop
  | [], cs => cs = []
  | t :: ts, cs => ∃ a b, cs = a ++ b ∧ Ok P S B t a ∧ OkFs P S B ts b
def offsOk (P : Program) : Nat → List Field → Nat → Bool
  | o, [], n => Nat.beq o n
  | o, f :: r, n => Nat.beq f.offset o && offsOk P (o + P.cellsOf f.type) r n
theorem offs_split {cs : List Value} : ∀ {l : List Field} {o n : Nat}, offsOk P o l n = true → cs.length = n → (∀ f ∈ l, Ok P S B f.type ((cs.drop f.offset).take (P.cellsOf f.type))) → OkFs P S B (l.map (·.type)) (cs.drop o)
  | [], o, n, h, hl, _ => by
    have : o = n := Nat.eq_of_beq_eq_true h
    simp only [List.map_nil, OkFs]
    rw [List.drop_eq_nil_of_le (by omega)]
  | f :: r, o, n, h, hl, hf => by
    simp only [offsOk, Bool.and_eq_true] at h
    have ho : f.offset = o := Nat.eq_of_beq_eq_true h.1
    have h1 := hf f List.mem_cons_self
    rw [ho] at h1
    refine ⟨_, _, ?_, h1, offs_split h.2 hl (fun f' hf' => hf f' (List.mem_cons_of_mem _ hf'))⟩
    rw [← List.drop_drop, List.take_append_drop]
theorem Ok.structI {t : TypeId} {fs : Array Field} {cs : List Value} {ts : List TypeId} (hu : P.underlying t = some (.struct fs)) (ho : offsOk P 0 fs.toList (P.cellsOf t) = true) (ht : fs.toList.map (·.type) = ts) (h : Ok P S B t cs) : OkFs P S B ts cs := by
  cases h with
  | struct hu' hl hf => rw [hu] at hu'; cases hu'; have := offs_split ho hl hf; rw [ht] at this; simpa using this
  | _ hu' => rw [hu] at hu'; cases hu'
theorem Ok.flat (hB : B ≤ maxLen) : ∀ {n : Nat} {t : TypeId} {ks : List FK} {cs : List Value}, flatT P n t = some ks → Ok P S B t cs → okCells ks cs
  | 0, _, _, _, h, _ => by cases h
  | n + 1, t, ks, cs, h, hk => by
    simp only [flatT] at h
    split at h
    · rename_i k hu; cases h
      obtain ⟨m, rfl, hw⟩ := hk.intI hu
      exact ⟨⟨m, rfl, hw⟩, trivial⟩
    · rename_i hu; cases h
      obtain ⟨b, rfl⟩ := hk.boolI hu
      exact ⟨⟨b, rfl⟩, trivial⟩
    · rename_i hu; cases h
      obtain ⟨s, rfl, hs⟩ := hk.strI hu
      exact ⟨⟨s, rfl, Nat.le_trans hs hB⟩, trivial⟩
    · rename_i fs hu
      split at h
      · rename_i ks' hks
        split at h
        · rename_i hlen
          cases h
          cases hk with
          | struct hu' hl hf =>
            rw [hu] at hu'; cases hu'
            have := flatFs_ok (cs := cs) hks (fun f hf' a ha => Ok.flat hB ha (hf f hf')) (by omega)
            simpa using this
          | _ hu' => rw [hu] at hu'; cases hu'
        · cases h
      · cases h
    · cases h
theorem Ok.mono {B' : Nat} (hB : B ≤ B') (hB' : B' ≤ 140737488355328) {t : TypeId} {cs : List Value} (h : Ok P S B t cs) : Ok P S B' t cs := by
  induction h with
  | int hu hw => exact .int hu hw
  | bool hu => exact .bool hu
  | str hu hs => exact .str hu (by omega)
  | struct hu hl hf ih => exact .struct hu hl ih
  | nil hu => exact .nil hu
  | row hu hb hS he ih => exact .row hu (by omega) (fun h1 _ => hS h1 (by omega)) ih
theorem Ok.rowI {α : Type} {t e sz : Nat} {ec : α → List Value} {ok : α → Prop} {cs : List Value} (hu : P.underlying t = some (.slice e)) (hsz : P.cellsOf e = sz) (h0 : 0 < sz) (hB : B ≤ 140737488355328)
    (hone : ∀ a, ∀ v ∈ ec a, isOne v = true) (hoc : ∀ x, Ok P S B e x → ∃ a, x = ec a ∧ ok a) (h : Ok P S B t cs) :
    ∃ (a : Option Addr) (c : Nat) (xs : List α), cs = [.slice a xs.length c] ∧ (∀ x ∈ xs, ok x) ∧ xs.length ≤ B ∧ slH false sz (.slice a xs.length c) c (xs.map ec) S (fun _ => none) := by
  cases h with
  | nil hu' => exact ⟨none, 0, [], rfl, by simp, by simp, ⟨h0, by simp⟩, by simp, .inl ⟨rfl, none, rfl, fun _ => rfl⟩⟩
  | @row _ e' a c es hu' hb hS he =>
    rw [hu] at hu'; cases hu'
    subst hsz
    have : ∃ xs : List α, es = xs.map ec ∧ ∀ x ∈ xs, ok x := by
      clear hS hb
      induction es with
      | nil => exact ⟨[], rfl, by simp⟩
      | cons y es ih =>
        obtain ⟨x, rfl, hx⟩ := hoc y (he y (by simp))
        obtain ⟨xs, rfl, hxs⟩ := ih (fun z hz => he z (by simp [hz]))
        exact ⟨x :: xs, rfl, fun z hz => by rcases List.mem_cons.1 hz with rfl | hz; exact hx; exact hxs z hz⟩
    obtain ⟨xs, rfl, hxs⟩ := this
    have hS' := hS ⟨h0, fun x hx v hv => by obtain ⟨y, _, rfl⟩ := List.mem_map.1 hx; exact hone y v hv⟩ hB
    rw [List.length_map] at hS' hb ⊢
    exact ⟨some a, c, xs, rfl, hxs, hb, hS'⟩
  | _ hu' => rw [hu] at hu'; cases hu'

theorem bulk_le {H : Type} {ds gs : List (DataW H)} {d : DataW H} (hk : Rows.uptoSmall H (ds ++ gs) = true) (hd : d ∈ ds) : Rows.uptoBulk d ≤ 1048576 := by
  have h1 : Rows.uptoBulkAll (ds ++ gs) ≤ 1048576 := by simpa [Rows.uptoSmall] using hk
  have h2 := bulkAll_mem (List.mem_append_left gs hd)
  omega
theorem open_ok {H : Type} {enc : TypeId × Value → H} {w : World} {base : Nat} {spare : Nat → Bool} {held : Bool} {r : Reach} {b0 n : Nat} {t : TypeId} {fs : Array Field} {v : Value} {d : DataW H} {ps : List MemPlace} (ht : P.underlying t = some (.struct fs)) (hty : okTy P n t = true)
    (hval : Value.okWide P w r b0 t v) (hd : DataW.Trod enc P w base spare held t v d ps) (hb : Rows.uptoBulk d ≤ B) : ∃ cs : List Value, v = .agg cs.toArray ∧ Ok P (fun b => w.heap[b]?) B t cs := by
  unfold Value.okWide at hval
  rw [ht] at hval
  obtain ⟨cs, rfl, _⟩ := hval
  obtain ⟨fuel, hf⟩ := hd
  exact ⟨cs.toList, rfl, trod_ok (fun b o h => h) hty hf hb⟩
theorem open_okS {H : Type} {enc : TypeId × Value → H} {w : World} {base : Nat} {spare : Nat → Bool} {held : Bool} {r : Reach} {b0 n : Nat} {t e : TypeId} {v : Value} {d : DataW H} {ps : List MemPlace} (ht : P.underlying t = some (.slice e)) (hty : okTy P n t = true)
    (hval : Value.okWide P w r b0 t v) (hd : DataW.Trod enc P w base spare held t v d ps) (hb : Rows.uptoBulk d ≤ B) : Ok P (fun b => w.heap[b]?) B t [v] := by
  have hv : ∀ u, v.cells.toList = [u] → v = u := by
    unfold Value.okWide at hval
    rw [ht] at hval
    simp only [Cell.okWide, ht, Cell.ok] at hval
    intro u hu
    cases v <;> simp_all [Value.cells]
  obtain ⟨fuel, hf⟩ := hd
  have hk := trod_ok (B := B) (S := fun b => w.heap[b]?) (fun b o h => h) hty hf hb
  have : v.cells.toList = [v] := by
    rcases DataW.trod_slice ht hf with ⟨h1, _⟩ | ⟨a, len, cap, elems, rest, m, _, h1, _⟩
    · rw [h1, hv _ h1]
    · rw [h1, hv _ h1]
  rw [this] at hk; exact hk
theorem Ok.flatB {n : Nat} {t : TypeId} {ks : List FK} {cs : List Value} (hf : flatT P n t = some ks) (hB : B ≤ 1048576) (h : Ok P S B t cs) : okCells ks cs :=
  Ok.flat (Nat.le_trans hB (by decide)) hf h
/-- From memory at the start. -/
theorem Imp.oldSl {α : Type} {h0 : Heap} {ec : α → List Value} {sz c : Nat} {sv : Value} {xs : List α} (h : slH false sz sv c (xs.map ec) (fun b => h0[b]?) (fun _ => none)) {cs : List Assn} : Imp (Go.SL.old h0 :: cs) (SlT false ec sz sv c xs :: Go.SL.old h0 :: cs) :=
  Imp.old fun S hS => (SlT false ec sz sv c xs).mono (S := fun b => h0[b]?) (H := fun _ => none) (fun b o e => hS b o e) (Hp.le_refl _) h
end
end Go.SL
