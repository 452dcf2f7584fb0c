/- From a contract of a law's function to what its statement asks: it says true, and of old memory nothing has turned. Conditions: none. -/
import Derived.Test.YtgcmglieciaifaaSlQ
import Derived.ProofKit
import Derived.Test.YtgcmglieciaifaaRows
set_option linter.unusedSimpArgs false
set_option linter.unusedVariables false
namespace Go.SL
open Go Go.ChangeShapes Go.WideShapes Go.ChangeAt Go.RowKit

theorem trodAll_stays {H : Type} {enc : TypeId × Value → H} {P : Program} (hl : laidOutB P = true) {W W' : World} {sp : Nat → Bool} (hb : ∀ b, b < W.heap.size → W'.heap[b]? = W.heap[b]?) :
    ∀ {ts : List TypeId} {vs : List Value} {ds : List (DataW H)} {ps : List MemPlace}, (ts.all fun t => P.readableRec t && decide (t < P.types.size)) = true →
      DataW.TrodAll enc P W 0 (fun _ => true) true ts vs ds ps → (∀ x ∈ ps, x.block < W.heap.size) → (∀ x ∈ ps, sp x.block = true) → DataW.TrodAll enc P W' 0 sp true ts vs ds ps
  | [], [], [], ps, _, h, _, _ => h
  | t :: ts, v :: vs, d :: ds, ps, hr, ⟨p, q, h1, h2, e⟩, hlt, hs => by
    subst e
    simp only [List.all_cons, Bool.and_eq_true, decide_eq_true_eq] at hr
    refine ⟨p, q, WideElems.Trod_stays hl hr.1.1 hr.1.2 h1 (fun x hx => ?_) (fun x hx => hs x (List.mem_append_left _ hx)),
      trodAll_stays hl hb hr.2 h2 (fun x hx => hlt x (List.mem_append_right _ hx)) (fun x hx => hs x (List.mem_append_right _ hx)), rfl⟩
    have hx' := hb x.block (hlt x (List.mem_append_left _ hx))
    cases x with
    | cell b o => exact World.cell?_of_block (w := W) hx'
    | map b => exact hx'
  | [], _ :: _, _, _, _, h, _, _ => h.elim
  | [], [], _ :: _, _, _, h, _, _ => h.elim
  | _ :: _, [], _, _, _, h, _, _ => h.elim
  | _ :: _, _ :: _, [], _, _, h, _, _ => h.elim

theorem old_same {w w' : World} (hk : Keeps w w') {cs : List Assn} (hs : Sat w'.heap (old w.heap :: cs)) {b : Nat} (hb : b < w.heap.size) : w'.heap[b]? = w.heap[b]? := by
  have e : w.heap[b]? = some w.heap[b] := Array.getElem?_eq_getElem hb
  cases hv : vis w.heap[b] with
  | true => rw [e]; exact hs.getOld e hv
  | false =>
    cases ho : w.heap[b] with
    | deferred ds => rw [e, ho]; exact hk.dfr _ _ (by rw [e, ho])
    | _ => rw [ho] at hv; cases hv

/-- What is asked behind a call that leaves all that was as it was. -/
theorem post_same {H : Type} {enc : TypeId × Value → H} {P : Program} {f : Func} {s : ChangeSpec} {apart fresh handsOn again : Bool} {W W' : World} {args : Array Value} {v : Value} {ds gs : List (DataW H)} {before pa pv : List MemPlace}
    (hW : DataW.Whole enc P f.params.toList s.vars apart W args.toList ds gs before)
    (hres : ∀ (b : Nat) (sp : Nat → Bool) (hd : Bool), DataW.TrodAll enc P W' b sp hd f.resultTypes.toList (v.resultList f.resultTypes.size) (s.fn H (ds ++ gs)).results [])
    (hargs : ∀ sp : Nat → Bool, (∀ p ∈ before, sp p.block = true) → DataW.TrodAll enc P W' 0 sp true f.params.toList args.toList (s.fn H (ds ++ gs)).args pa)
    (hvars : ∀ sp : Nat → Bool, (∀ p ∈ before, sp p.block = true) → DataW.TrodVars enc P W' sp s.vars (s.fn H (ds ++ gs)).vars pv)
    (hps : before = pa ++ pv) (hk : W.keptBut W' (· ∈ before)) (hfz : ∀ b off, b < W.heap.size → W'.frozen? ⟨b, off, none⟩ = W.frozen? ⟨b, off, none⟩)
    (hok : ∀ (j : Nat) (t : TypeId) (r : Value), f.resultTypes[j]? = some t → (v.resultList f.resultTypes.size)[j]? = some r → Value.okWide P W' .any 0 t r) :
    s.post enc P f apart fresh handsOn again W args v W' := by
  have hold : ∀ p ∈ before, (fun b => decide (b < W.heap.size)) p.block = true := fun p hp => by simpa using hW.lt p hp
  refine ⟨ds, gs, before, [], pa, pv, hW, hres _ _ _, hargs _ hold, hvars _ hold, World.keptBut_mono (fun p hp => ⟨hp, ?_⟩) hk, fun _ => ?_⟩
  · rw [hps, List.mem_append] at hp
    exact Or.inr hp
  · have hlt := hW.lt
    obtain ⟨_, _, _, _, _, hz, hn⟩ := hW
    refine ⟨hok, _, _, ([] ++ pa) ++ pv, ⟨[] ++ pa, pv, trodAll_append (hargs _ (fun _ _ => rfl)) (hres _ _ _), hvars _ (fun _ _ => rfl), rfl, ?_, ?_⟩, ?_⟩
    · intro b off hp
      have hp' : MemPlace.cell b off ∈ before := by rw [hps]; simpa using hp
      rw [hfz b off (hlt _ hp')]
      exact hz b off hp'
    · intro ha
      have := hn ha
      rw [hps] at this
      simpa using this
    · intro p hp _
      rw [hps]
      simpa using hp

/-- What a law's statement asks, from what its function does. -/
theorem law_post {H : Type} {enc : TypeId × Value → H} {P : Program} {fid tb : Nat} {f : Func} {s : ChangeSpec} {W : World} {args : Array Value} {ds gs : List (DataW H)} {before : List MemPlace} {cs r : List Assn}
    (hl : laidOutB P = true) (hr : (f.params.toList.all fun t => P.readableRec t && decide (t < P.types.size)) = true) (hv : s.vars = [])
    (hfn : s.fn H (ds ++ gs) = { results := [.lit (.bool true)], args := ds }) (hres : f.resultTypes = #[tb]) (htb : P.underlying tb = some .bool)
    (hW : DataW.Whole enc P f.params.toList s.vars false W args.toList ds gs before)
    (hF : Imp [old W.heap] cs) (ho : Has cs (old W.heap) r) (hm : Meets P fid args.toList cs (Det (.bool true) cs)) :
    Calls P fid args W fun e W' => ∃ v, e = .returned v ∧ s.post enc P f false true false false W args v W' := by
  refine (hm.2 W ((Sat.start _).imp hF)).mono fun e W' ⟨v, cs', he, hk, hs, hv', hcs⟩ => ?_
  subst hv'; subst hcs
  replace hs := hs.imp ho
  have hb : ∀ b, b < W.heap.size → W'.heap[b]? = W.heap[b]? := fun b hb => old_same hk hs hb
  have hW' := hW
  obtain ⟨p, q, hA, hV, hpq, hfz, hnd⟩ := hW
  have hq : q = [] := by rw [hv] at hV; cases gs with
    | nil => exact hV
    | cons _ _ => exact hV.elim
  subst hq
  rw [List.append_nil] at hpq
  subst hpq
  refine ⟨_, he, post_same (pa := before) (pv := []) hW' (fun b sp hd => ?_) (fun sp hsp => ?_) (fun sp _ => ?_) (by simp) ⟨hk.os, hk.output, fun i hi => ?_⟩ (fun b off hlt => by unfold World.frozen?; rw [hb b hlt]) (ok_one hres rfl (okWide_bool_mk htb _))⟩
  · rw [hres, hfn]
    exact trodAll_mk1 (shut_bool htb _)
  · rw [hfn]
    exact trodAll_stays hl hb hr hA (fun x hx => hW'.lt x hx) hsp
  · rw [hv, hfn]; rfl
  · rw [hb i hi]
    split <;> simp_all

end Go.SL

set_option linter.unusedSimpArgs false
set_option linter.unusedVariables false
namespace Go.SL
open Go Go.ChangeShapes Go.WideShapes Go.ChangeAt Go.RowKit

/-- What a cell of a flat type may be. -/
inductive FK where
  | int (k : IntKind)
  | bool
  | str
  deriving DecidableEq

def FK.ok : FK → Value → Prop
  | .int k, v => ∃ n, v = .int k n ∧ (Lit.int k n).wf = true
  | .bool, v => ∃ b, v = .bool b
  | .str, v => ∃ s, v = .string s ∧ s.size ≤ maxLen

def okCells : List FK → List Value → Prop
  | [], [] => True
  | k :: ks, v :: vs => k.ok v ∧ okCells ks vs
  | _, _ => False

theorem okCells_len : ∀ {ks : List FK} {cs : List Value}, okCells ks cs → cs.length = ks.length
  | [], [], _ => rfl
  | _ :: ks, _ :: cs, h => by simp [okCells_len h.2]
  | [], _ :: _, h => h.elim
  | _ :: _, [], h => h.elim

theorem okCells_app : ∀ {ks ls : List FK} {cs ds : List Value}, okCells ks cs → okCells ls ds → okCells (ks ++ ls) (cs ++ ds)
  | [], _, [], _, _, h => h
  | _ :: _, _, _ :: _, _, h, h' => ⟨h.1, okCells_app h.2 h'⟩
  | [], _, _ :: _, _, h, _ => h.elim
  | _ :: _, _, [], _, h, _ => h.elim

theorem okCells_one : ∀ {ks : List FK} {cs : List Value}, okCells ks cs → ∀ v ∈ cs, isOne v = true
  | [], [], _, v, hv => by cases hv
  | k :: ks, c :: cs, h, v, hv => by
    rcases List.mem_cons.1 hv with rfl | hv
    · have h1 := h.1
      cases k with
      | int k => obtain ⟨n, rfl, _⟩ := h1; rfl
      | bool => obtain ⟨b, rfl⟩ := h1; rfl
      | str => obtain ⟨s, rfl, _⟩ := h1; rfl
    · exact okCells_one h.2 v hv
  | [], _ :: _, h, _, _ => h.elim
  | _ :: _, [], h, _, _ => h.elim

theorem okCells_cons {k : FK} {ks : List FK} {cs : List Value} (h : okCells (k :: ks) cs) : ∃ v r, cs = v :: r ∧ k.ok v ∧ okCells ks r := by
  cases cs with
  | nil => exact h.elim
  | cons v r => exact ⟨v, r, rfl, h.1, h.2⟩
theorem okCells_int {k : IntKind} {ks : List FK} {cs : List Value} (h : okCells (.int k :: ks) cs) : ∃ n r, cs = .int k n :: r ∧ (Lit.int k n).wf = true ∧ okCells ks r := by
  obtain ⟨v, r, rfl, ⟨n, rfl, hn⟩, hr⟩ := okCells_cons h
  exact ⟨n, r, rfl, hn, hr⟩
theorem okCells_bool {ks : List FK} {cs : List Value} (h : okCells (.bool :: ks) cs) : ∃ b r, cs = .bool b :: r ∧ okCells ks r := by
  obtain ⟨v, r, rfl, ⟨b, rfl⟩, hr⟩ := okCells_cons h
  exact ⟨b, r, rfl, hr⟩
theorem okCells_nil {cs : List Value} (h : okCells [] cs) : cs = [] := by
  cases cs with
  | nil => rfl
  | cons v r => exact h.elim
theorem wf_i64 {n : Int} (h : (Lit.int .i64 n).wf = true) : -9223372036854775808 ≤ n ∧ n ≤ 9223372036854775807 := by
  simpa [Lit.wf, IntKind.min, IntKind.max, IntKind.signed, IntKind.bits] using h
theorem wf_u64 {n : Int} (h : (Lit.int .u64 n).wf = true) : 0 ≤ n ∧ n ≤ 18446744073709551615 := by
  simpa [Lit.wf, IntKind.min, IntKind.max, IntKind.signed, IntKind.bits] using h

def flatFs (P : Program) (g : TypeId → Option (List FK)) : Nat → List Field → Option (List FK)
  | _, [] => some []
  | o, f :: r => match g f.type, flatFs P g (o + P.cellsOf f.type) r with
    | some a, some b => if f.offset = o ∧ a.length = P.cellsOf f.type then some (a ++ b) else none
    | _, _ => none

def flatT (P : Program) : Nat → TypeId → Option (List FK)
  | 0, _ => none
  | n + 1, t => match P.underlying t with
    | some (.int k) => some [.int k]
    | some .bool => some [.bool]
    | some .string => some [.str]
    | some (.struct fs) => match flatFs P (flatT P n) 0 fs.toList with
      | some ks => if ks.length = P.cellsOf t then some ks else none
      | none => none
    | _ => none

section
variable {H : Type} {enc : TypeId × Value → H} {P : Program} {w : World} {base : Nat} {spare : Nat → Bool} {held : Bool}

theorem flatFs_ok {g : TypeId → Option (List FK)} {cs : List Value} : ∀ {l : List Field} {o : Nat} {ks : List FK}, flatFs P g o l = some ks →
    (∀ f ∈ l, ∀ a, g f.type = some a → okCells a ((cs.drop f.offset).take (P.cellsOf f.type))) → cs.length = o + ks.length → okCells ks (cs.drop o)
  | [], o, ks, h, _, hl => by
    simp only [flatFs, Option.some.injEq] at h; subst h
    simp only [List.length_nil, Nat.add_zero] at hl
    rw [List.drop_eq_nil_of_le (by omega)]; trivial
  | f :: r, o, ks, h, hf, hl => by
    simp only [flatFs] at h
    split at h
    · rename_i a b ha hb
      split at h
      · rename_i hc
        cases h
        have h1 := hf f List.mem_cons_self a ha
        rw [hc.1] at h1
        have h2 := flatFs_ok hb (fun f' hf' => hf f' (List.mem_cons_of_mem _ hf')) (by rw [hl, List.length_append, hc.2]; omega)
        have e : cs.drop o = (cs.drop o).take (P.cellsOf f.type) ++ cs.drop (o + P.cellsOf f.type) := by
          rw [← List.drop_drop, List.take_append_drop]
        rw [e]; exact okCells_app h1 h2
      · cases h
    · cases h

theorem trod_flat : ∀ {n : Nat} {t : TypeId} {ks : List FK}, flatT P n t = some ks → ∀ {fuel : Nat} {cs : List Value} {x : DataW H × List MemPlace}, DataW.trod enc P w base spare held fuel t cs = some x → okCells ks cs
  | 0, _, _, h, _, _, _, _ => by cases h
  | n + 1, t, ks, h, fuel, cs, x, hx => by
    simp only [flatT] at h
    split at h
    · rename_i k hu; cases h
      obtain ⟨m, rfl, _, hw⟩ := DataW.trod_int hu hx
      exact ⟨⟨m, rfl, hw⟩, trivial⟩
    · rename_i hu; cases h
      obtain ⟨b, rfl, _⟩ := DataW.trod_bool hu hx
      exact ⟨⟨b, rfl⟩, trivial⟩
    · rename_i hu; cases h
      obtain ⟨s, rfl, _, hs⟩ := DataW.trod_string hu hx
      exact ⟨⟨s, rfl, hs⟩, trivial⟩
    · rename_i fs hu
      split at h
      · rename_i ks' hks
        split at h
        · rename_i hlen
          cases h
          obtain ⟨xs, m, rfl, _, hl, hn, hx'⟩ := DataW.trod_struct hu hx
          have := flatFs_ok (cs := cs) hks (fun f hf a ha => by
            obtain ⟨i, hi, rfl⟩ := List.getElem_of_mem hf
            have hi' : i < fs.size := by simpa using hi
            have h1 := hx' i fs[i] (by simp [hi'])
            have h2 : xs[i]? = some (xs[i]'(by omega)) := List.getElem?_eq_getElem (by omega)
            rw [h2] at h1
            exact trod_flat ha (by simpa using h1)) (by omega)
          simpa using this
        · cases h
      · cases h
    · cases h

/-- A struct of numbers. -/
theorem open_flat {r : Reach} {b0 n : Nat} {t : TypeId} {fs : Array Field} {ks : List FK} {v : Value} {d : DataW H} {ps : List MemPlace} (ht : P.underlying t = some (.struct fs)) (hk : flatT P n t = some ks)
    (hval : Value.okWide P w r b0 t v) (hd : DataW.Trod enc P w base spare held t v d ps) : ∃ cs : List Value, v = .agg cs.toArray ∧ okCells ks cs := by
  unfold Value.okWide at hval
  rw [ht] at hval
  obtain ⟨cs, rfl, _⟩ := hval
  obtain ⟨fuel, hf⟩ := hd
  exact ⟨cs.toList, rfl, trod_flat hk hf⟩

theorem flat_at {sz : Nat} {es : List (List Value)} (h : ∀ e ∈ es, e.length = sz) {k j : Nat} (hk : k < es.length) (hj : j < sz) : es.flatten[k * sz + j]? = es[k][j]? := by
  have h1 : (es.flatten.drop (k * sz))[j]? = es.flatten[k * sz + j]? := by rw [List.getElem?_drop]
  rw [← h1, flat_drop h k (by omega), List.drop_eq_getElem_cons hk, List.flatten_cons, List.getElem?_append_left (by rw [h _ (List.getElem_mem hk)]; exact hj)]

theorem Imp.old {h0 : Heap} {A : Assn} {cs : List Assn} (h : ∀ S : Hp, (∀ b o, hv h0 b = some o → S b = some o) → A.holds S (fun _ => none)) : Imp (old h0 :: cs) (A :: old h0 :: cs) := by
  rintro S H ⟨H1, H2, h1, h2, hd, hc, hr⟩
  exact ⟨fun _ => none, H, fun b o e => (by cases e), Hp.le_refl _, fun b => .inl rfl, h S hc, H1, H2, h1, h2, hd, hc, hr⟩

/-- A slice of such. -/
theorem open_row {α : Type} {r : Reach} {b0 n sz : Nat} {t e : TypeId} {ks : List FK} {v : Value} {d : DataW H} {ps : List MemPlace} {ec : α → List Value} {ok : α → Prop} (ht : P.underlying t = some (.slice e)) (hk : flatT P n e = some ks)
    (hsz : P.cellsOf e = sz) (h0 : 0 < sz) (hoc : ∀ cs, okCells ks cs → ∃ a, cs = ec a ∧ ok a) (hval : Value.okWide P w r b0 t v) (hd : DataW.Trod enc P w base spare held t v d ps) :
    ∃ (a : Option Addr) (c : Nat) (xs : List α), v = .slice a xs.length c ∧ (∀ x ∈ xs, ok x) ∧ (d = .nil ∧ xs = [] ∨ ∃ ds ds', d = .slice ds ds' ∧ ds.length = xs.length) ∧
      (xs.length ≤ 140737488355328 → ∀ cs, Imp (old w.heap :: cs) (SlT false ec sz v c xs :: old w.heap :: cs)) := by
  obtain ⟨fuel, hf⟩ := hd
  have hv : ∀ u, v.cells.toList = [u] → v = u := by
    unfold Value.okWide at hval
    rw [ht] at hval
    simp only [Cell.okWide, ht, Cell.ok] at hval
    intro u hu
    cases v <;> simp_all [Value.cells]
  rcases DataW.trod_slice ht hf with ⟨h1, h2⟩ | ⟨a, len, cap, elems, rest, m, _, h1, h2, _, hlc, hcm, hel, hat, _, _⟩
  · obtain rfl := hv _ h1
    refine ⟨none, 0, [], rfl, (by simp), .inl ⟨by injection h2, rfl⟩, fun _ cs => Imp.old fun S hS => ⟨⟨h0, by simp⟩, by simp, .inl ⟨rfl, none, rfl, fun _ => rfl⟩⟩⟩
  · obtain rfl := hv _ h1
    rw [hsz] at hat
    have hx : ∀ i, i < len → ∃ x : α, ok x ∧ okCells ks (ec x) ∧ w.cells? base (a.add (i * sz)) sz = some (ec x) := by
      intro i hi
      have h3 := hat i hi
      rw [List.getElem?_eq_getElem (by omega), Option.bind_eq_some_iff] at h3
      obtain ⟨csi, h4, h5⟩ := h3
      have h6 := trod_flat hk h5
      obtain ⟨x, rfl, hx⟩ := hoc _ h6
      exact ⟨x, hx, h6, h4⟩
    let f : Fin len → α := fun i => Classical.choose (hx i.1 i.2)
    have hfs : ∀ i (hi : i < len), ok (f ⟨i, hi⟩) ∧ okCells ks (ec (f ⟨i, hi⟩)) ∧ w.cells? base (a.add (i * sz)) sz = some (ec (f ⟨i, hi⟩)) := fun i hi => Classical.choose_spec (hx i hi)
    have hlen : (List.ofFn f).length = len := List.length_ofFn
    have hxs : ∀ i (hi : i < (List.ofFn f).length), ok (List.ofFn f)[i] ∧ okCells ks (ec (List.ofFn f)[i]) ∧ w.cells? base (a.add (i * sz)) sz = some (ec (List.ofFn f)[i]) := by
      intro i hi
      rw [List.getElem_ofFn]
      exact hfs i (by omega)
    generalize List.ofFn f = xs at hlen hxs
    refine ⟨some a, cap, xs, by rw [hlen], fun x hx => ?_, .inr ⟨_, _, by injection h2, by rw [List.length_map]; omega⟩, fun hL cs => Imp.old fun S hS => ?_⟩
    · obtain ⟨i, hi, rfl⟩ := List.getElem_of_mem hx
      exact (hxs i hi).1
    have hel2 : ∀ x ∈ xs.map ec, x.length = sz ∧ ∀ v ∈ x, isOne v = true := by
      intro x hx
      obtain ⟨y, hy, rfl⟩ := List.mem_map.1 hx
      obtain ⟨i, hi, rfl⟩ := List.getElem_of_mem hy
      exact ⟨(World.cells?_some (hxs i hi).2.2).2.1, okCells_one (hxs i hi).2.1⟩
    refine ⟨⟨h0, by simpa using hL⟩, hel2, ?_⟩
    rcases Nat.eq_zero_or_pos len with hz | hz
    · subst hz
      left
      obtain rfl : xs = [] := List.eq_nil_of_length_eq_zero hlen
      exact ⟨rfl, some a, rfl, fun e => by cases e⟩
    · right
      have hcell : ∀ i (hi : i < xs.length) j, j < sz → w.cell? ((a.add (i * sz)).add j) = (ec xs[i])[j]? := fun i hi j hj => (World.cells?_some (hxs i hi).2.2).2.2 j hj
      have hc0 := hcell 0 (by omega) 0 h0
      have hl0 : (ec xs[0]).length = sz := (hel2 _ (List.mem_map.2 ⟨_, List.getElem_mem (by omega), rfl⟩)).1
      rw [List.getElem?_eq_getElem (by omega)] at hc0
      simp only [Nat.zero_mul, Addr.add, if_true] at hc0
      obtain ⟨b, off, sp⟩ := a
      unfold World.cell? at hc0
      split at hc0
      · rename_i C T fz hb
        cases sp with
        | some q => simp at hc0
        | none =>
          refine ⟨b, off, T, fz, C, by simp [hlen], by simpa [hlen] using hlc, hS _ _ (hv_iff.2 ⟨hb, rfl⟩), fun i hi => ?_⟩
          have hfl := flat_len (fun e he => (hel2 e he).1)
          rw [hfl] at hi
          have hsz0 : i % sz < sz := Nat.mod_lt _ h0
          have hk' : i / sz < (xs.map ec).length := by rw [Nat.div_lt_iff_lt_mul h0]; exact hi
          have e1 : i = i / sz * sz + i % sz := by rw [Nat.mul_comm]; exact (Nat.div_add_mod i sz).symm
          have h7 := flat_at (fun e he => (hel2 e he).1) hk' hsz0
          rw [← e1] at h7
          rw [h7, List.getElem_map]
          have h8 := hcell (i / sz) (by simpa using hk') (i % sz) hsz0
          rw [← h8]
          have h9 : (Addr.add ⟨b, off, none⟩ (i / sz * sz)).add (i % sz) = ⟨b, off + i, none⟩ := by
            rw [Addr.add_none, Addr.add_none]
            congr 1; omega
          rw [h9]
          simp only [World.cell?]
          rw [show w.heap[b]? = some (Obj.cells C T fz) from hb]
          rfl
      · cases hc0
end

end Go.SL

set_option linter.unusedSimpArgs false
set_option linter.unusedVariables false
set_option linter.unusedSectionVars false
namespace Go.SL
open Go Go.ChangeShapes Go.WideShapes Go.Proofs.Ytgcmglieciaifaa

/-- A value of a type that is read whole: B bounds the lengths of what it holds. -/
inductive Ok (P : Program) (S : Hp) (B : Nat) : TypeId → List Value → Prop
  | int {t k n} (hu : P.underlying t = some (.int k)) (hw : (Lit.int k n).wf = true) : Ok P S B t [.int k n]
  | bool {t b} (hu : P.underlying t = some .bool) : Ok P S B t [.bool b]
  | str {t s} (hu : P.underlying t = some .string) (hs : s.size ≤ B) : Ok P S B t [.string s]
  | struct {t fs cs} (hu : P.underlying t = some (.struct fs)) (hl : cs.length = P.cellsOf t) (hf : ∀ f ∈ fs.toList, Ok P S B f.type ((cs.drop f.offset).take (P.cellsOf f.type))) : Ok P S B t cs
  | nil {t e} (hu : P.underlying t = some (.slice e)) : Ok P S B t [.slice none 0 0]
  | row {t e a c es} (hu : P.underlying t = some (.slice e)) (hB : es.length ≤ B) (hS : (0 < P.cellsOf e ∧ ∀ x ∈ es, ∀ v ∈ x, isOne v = true) → B ≤ 140737488355328 → slH false (P.cellsOf e) (.slice (some a) es.length c) c es S (fun _ => none)) (he : ∀ x ∈ es, Ok P S B e x) : Ok P S B t [.slice (some a) es.length c]

section
variable {P : Program} {S : Hp} {B : Nat}

theorem slH_of_cells {w : World} {base sz len cap : Nat} {a : Addr} {es : List (List Value)} (hlen : es.length = len) (hlc : len ≤ cap) (hS : ∀ b o, w.heap[b]? = some o → S b = some o)
    (hx : ∀ i (hi : i < es.length), w.cells? base (a.add (i * sz)) sz = some es[i]) (h0 : 0 < sz) (h1 : ∀ x ∈ es, ∀ v ∈ x, isOne v = true) (hL : len ≤ 140737488355328) :
    slH false sz (.slice (some a) es.length cap) cap es S (fun _ => none) := by
  have hel2 : ∀ x ∈ es, x.length = sz ∧ ∀ v ∈ x, isOne v = true := by
    intro x hx'
    obtain ⟨i, hi, rfl⟩ := List.getElem_of_mem hx'
    exact ⟨(World.cells?_some (hx i hi)).2.1, h1 _ hx'⟩
  refine ⟨⟨h0, by omega⟩, hel2, ?_⟩
  rcases Nat.eq_zero_or_pos len with hz | hz
  · left
    obtain rfl : es = [] := List.eq_nil_of_length_eq_zero (by omega)
    exact ⟨rfl, some a, rfl, fun e => by cases e⟩
  · right
    have hcell : ∀ i (hi : i < es.length) j, j < sz → w.cell? ((a.add (i * sz)).add j) = es[i][j]? := fun i hi j hj => (World.cells?_some (hx i hi)).2.2 j hj
    have hc0 := hcell 0 (by omega) 0 h0
    have hl0 : es[0].length = sz := (hel2 _ (List.getElem_mem (by omega))).1
    rw [List.getElem?_eq_getElem (by omega)] at hc0
    simp only [Nat.zero_mul, Addr.add, if_true] at hc0
    obtain ⟨b, off, sp⟩ := a
    unfold World.cell? at hc0
    split at hc0
    · rename_i C T fz hb
      cases sp with
      | some q => simp at hc0
      | none =>
        refine ⟨b, off, T, fz, C, rfl, by omega, hS _ _ hb, fun i hi => ?_⟩
        have hfl := flat_len (fun e he => (hel2 e he).1)
        rw [hfl] at hi
        have hsz0 : i % sz < sz := Nat.mod_lt _ h0
        have hk' : i / sz < es.length := by rw [Nat.div_lt_iff_lt_mul h0]; exact hi
        have e1 : i = i / sz * sz + i % sz := by rw [Nat.mul_comm]; exact (Nat.div_add_mod i sz).symm
        have h7 := flat_at (fun e he => (hel2 e he).1) hk' hsz0
        rw [← e1] at h7
        rw [h7]
        have h8 := hcell (i / sz) hk' (i % sz) hsz0
        rw [← h8]
        have h9 : (Addr.add ⟨b, off, none⟩ (i / sz * sz)).add (i % sz) = ⟨b, off + i, none⟩ := by
          rw [Addr.add_none, Addr.add_none]
          congr 1; omega
        rw [h9]
        simp only [World.cell?]
        rw [show w.heap[b]? = some (Obj.cells C T fz) from hb]
        rfl
    · cases hc0

theorem bulkAll_mem {H : Type} {d : DataW H} : ∀ {l : List (DataW H)}, d ∈ l → Rows.uptoBulk d ≤ Rows.uptoBulkAll l
  | x :: r, h => by
    simp only [Rows.uptoBulkAll]
    rcases List.mem_cons.1 h with rfl | h
    · omega
    · have := bulkAll_mem h; omega
theorem bulk_pos {H : Type} (d : DataW H) : 1 ≤ Rows.uptoBulk d := by
  cases d with
  | lit l => cases l <;> simp [Rows.uptoBulk]
  | _ => simp [Rows.uptoBulk]
theorem bulkAll_len {H : Type} : ∀ l : List (DataW H), l.length ≤ Rows.uptoBulkAll l
  | [] => by simp [Rows.uptoBulkAll]
  | x :: r => by have := bulk_pos x; have := bulkAll_len r; simp only [Rows.uptoBulkAll, List.length_cons]; omega

/-- The types that are read so. -/
def okTy (P : Program) : Nat → TypeId → Bool
  | 0, _ => false
  | n + 1, t => match P.underlying t with
    | some (.int _) => true
    | some .bool => true
    | some .string => true
    | some (.slice e) => okTy P n e
    | some (.struct fs) => fs.toList.all fun f => okTy P n f.type
    | _ => false

theorem trod_ok {H : Type} {enc : TypeId × Value → H} {w : World} {base : Nat} {spare : Nat → Bool} {held : Bool} (hS : ∀ b o, w.heap[b]? = some o → S b = some o) :
    ∀ {n : Nat} {t : TypeId}, okTy P n t = true → ∀ {fuel : Nat} {cs : List Value} {x : DataW H × List MemPlace}, DataW.trod enc P w base spare held fuel t cs = some x → Rows.uptoBulk x.1 ≤ B → Ok P S B t cs
  | 0, _, h, _, _, _, _, _ => by cases h
  | n + 1, t, h, fuel, cs, x, hx, hb => by
    simp only [okTy] at h
    split at h
    · rename_i k hu
      obtain ⟨m, rfl, _, hw⟩ := DataW.trod_int hu hx
      exact .int hu hw
    · rename_i hu
      obtain ⟨b, rfl, _⟩ := DataW.trod_bool hu hx
      exact .bool hu
    · rename_i hu
      obtain ⟨s, rfl, rfl, hs⟩ := DataW.trod_string hu hx
      refine .str hu ?_
      simp only [Rows.uptoBulk] at hb
      have : s.size = s.data.toList.length := by simp
      omega
    · rename_i e hu
      rcases DataW.trod_slice hu hx with ⟨rfl, _⟩ | ⟨a, len, cap, elems, rest, m, _, rfl, rfl, _, hlc, hcm, hel, hat, _, _⟩
      · exact .nil hu
      · have hbe : Rows.uptoBulkAll (elems.map (·.1)) ≤ B := by simp only [Rows.uptoBulk] at hb; omega
        have hcl : ∀ i (hi : i < len), ∃ csi, w.cells? base (a.add (i * P.cellsOf e)) (P.cellsOf e) = some csi ∧ DataW.trod enc P w base spare held m e csi = elems[i]? := by
          intro i hi
          have h3 := hat i hi
          have h4 : elems[i]? = some (elems[i]'(by omega)) := List.getElem?_eq_getElem (by omega)
          rw [h4, Option.bind_eq_some_iff] at h3
          obtain ⟨c, g1, g2⟩ := h3
          exact ⟨c, g1, by rw [h4]; exact g2⟩
        let f : Fin len → List Value := fun i => Classical.choose (hcl i.1 i.2)
        have hf : ∀ i (hi : i < len), w.cells? base (a.add (i * P.cellsOf e)) (P.cellsOf e) = some (f ⟨i, hi⟩) ∧ DataW.trod enc P w base spare held m e (f ⟨i, hi⟩) = elems[i]? := fun i hi => Classical.choose_spec (hcl i hi)
        have hlen : (List.ofFn f).length = len := List.length_ofFn
        have hes : ∀ i (hi : i < (List.ofFn f).length), w.cells? base (a.add (i * P.cellsOf e)) (P.cellsOf e) = some (List.ofFn f)[i] ∧ DataW.trod enc P w base spare held m e (List.ofFn f)[i] = elems[i]? := by
          intro i hi
          rw [List.getElem_ofFn]
          exact hf i (by omega)
        generalize List.ofFn f = es at hlen hes
        subst hlen
        have hB : es.length ≤ B := by have := bulkAll_len (elems.map (·.1)); rw [List.length_map] at this; omega
        refine .row hu hB (fun ⟨h0, h1⟩ hL => slH_of_cells rfl hlc hS (fun i hi => (hes i hi).1) h0 h1 (by omega)) (fun y hy => ?_)
        obtain ⟨i, hi, rfl⟩ := List.getElem_of_mem hy
        have h4 : elems[i]? = some (elems[i]'(by omega)) := List.getElem?_eq_getElem (by omega)
        refine trod_ok hS h ((hes i hi).2.trans h4) ?_
        have := bulkAll_mem (d := (elems[i]'(by omega)).1) (l := elems.map (·.1)) (List.mem_map.2 ⟨_, List.getElem_mem (by omega), rfl⟩)
        omega
    · rename_i fs hu
      obtain ⟨xs, m, rfl, rfl, hl, hn, hx'⟩ := DataW.trod_struct hu hx
      refine .struct hu hl fun f hf => ?_
      obtain ⟨i, hi, rfl⟩ := List.getElem_of_mem hf
      have hi' : i < fs.size := by simpa using hi
      have h1 := hx' i fs[i] (by simp [hi'])
      have h2 : xs[i]? = some (xs[i]'(by omega)) := List.getElem?_eq_getElem (by omega)
      rw [h2] at h1
      have hb' : Rows.uptoBulk (xs[i]'(by omega)).1 ≤ B := by
        have := bulkAll_mem (d := (xs[i]'(by omega)).1) (l := xs.map (·.1)) (List.mem_map.2 ⟨_, List.getElem_mem (by omega), rfl⟩)
        simp only [Rows.uptoBulk] at hb
        omega
      have := trod_ok hS (List.all_eq_true.1 h _ hf) h1 hb'
      simpa using this
    · cases h

/-! ### Taking them apart -/
theorem Ok.intI {t : TypeId} {k : IntKind} {cs : List Value} (hu : P.underlying t = some (.int k)) (h : Ok P S B t cs) : ∃ n, cs = [.int k n] ∧ (Lit.int k n).wf = true := by
  cases h with
  | int hu' hw => rw [hu] at hu'; cases hu'; exact ⟨_, rfl, hw⟩
  | _ hu' => rw [hu] at hu'; cases hu'
theorem Ok.boolI {t : TypeId} {cs : List Value} (hu : P.underlying t = some .bool) (h : Ok P S B t cs) : ∃ b, cs = [.bool b] := by
  cases h with
  | bool hu' => exact ⟨_, rfl⟩
  | _ hu' => rw [hu] at hu'; cases hu'
theorem Ok.strI {t : TypeId} {cs : List Value} (hu : P.underlying t = some .string) (h : Ok P S B t cs) : ∃ s, cs = [.string s] ∧ s.size ≤ B := by
  cases h with
  | str hu' hs => exact ⟨_, rfl, hs⟩
  | _ hu' => rw [hu] at hu'; cases hu'
/-- A struct's fields, one behind the other. -/
def OkFs (P : Program) (S : Hp) (B : Nat) : List TypeId → List Value → Prop
  | [], cs => cs = []
  | t :: ts, cs => ∃ a b, cs = a ++ b ∧ Ok P S B t a ∧ OkFs P S B ts b
def offsOk (P : Program) : Nat → List Field → Nat → Bool
  | o, [], n => Nat.beq o n
  | o, f :: r, n => Nat.beq f.offset o && offsOk P (o + P.cellsOf f.type) r n
theorem offs_split {cs : List Value} : ∀ {l : List Field} {o n : Nat}, offsOk P o l n = true → cs.length = n → (∀ f ∈ l, Ok P S B f.type ((cs.drop f.offset).take (P.cellsOf f.type))) → OkFs P S B (l.map (·.type)) (cs.drop o)
  | [], o, n, h, hl, _ => by
    have : o = n := Nat.eq_of_beq_eq_true h
    simp only [List.map_nil, OkFs]
    rw [List.drop_eq_nil_of_le (by omega)]
  | f :: r, o, n, h, hl, hf => by
    simp only [offsOk, Bool.and_eq_true] at h
    have ho : f.offset = o := Nat.eq_of_beq_eq_true h.1
    have h1 := hf f List.mem_cons_self
    rw [ho] at h1
    refine ⟨_, _, ?_, h1, offs_split h.2 hl (fun f' hf' => hf f' (List.mem_cons_of_mem _ hf'))⟩
    rw [← List.drop_drop, List.take_append_drop]
theorem Ok.structI {t : TypeId} {fs : Array Field} {cs : List Value} {ts : List TypeId} (hu : P.underlying t = some (.struct fs)) (ho : offsOk P 0 fs.toList (P.cellsOf t) = true) (ht : fs.toList.map (·.type) = ts) (h : Ok P S B t cs) : OkFs P S B ts cs := by
  cases h with
  | struct hu' hl hf => rw [hu] at hu'; cases hu'; have := offs_split ho hl hf; rw [ht] at this; simpa using this
  | _ hu' => rw [hu] at hu'; cases hu'
theorem Ok.flat (hB : B ≤ maxLen) : ∀ {n : Nat} {t : TypeId} {ks : List FK} {cs : List Value}, flatT P n t = some ks → Ok P S B t cs → okCells ks cs
  | 0, _, _, _, h, _ => by cases h
  | n + 1, t, ks, cs, h, hk => by
    simp only [flatT] at h
    split at h
    · rename_i k hu; cases h
      obtain ⟨m, rfl, hw⟩ := hk.intI hu
      exact ⟨⟨m, rfl, hw⟩, trivial⟩
    · rename_i hu; cases h
      obtain ⟨b, rfl⟩ := hk.boolI hu
      exact ⟨⟨b, rfl⟩, trivial⟩
    · rename_i hu; cases h
      obtain ⟨s, rfl, hs⟩ := hk.strI hu
      exact ⟨⟨s, rfl, Nat.le_trans hs hB⟩, trivial⟩
    · rename_i fs hu
      split at h
      · rename_i ks' hks
        split at h
        · rename_i hlen
          cases h
          cases hk with
          | struct hu' hl hf =>
            rw [hu] at hu'; cases hu'
            have := flatFs_ok (cs := cs) hks (fun f hf' a ha => Ok.flat hB ha (hf f hf')) (by omega)
            simpa using this
          | _ hu' => rw [hu] at hu'; cases hu'
        · cases h
      · cases h
    · cases h
theorem Ok.mono {B' : Nat} (hB : B ≤ B') (hB' : B' ≤ 140737488355328) {t : TypeId} {cs : List Value} (h : Ok P S B t cs) : Ok P S B' t cs := by
  induction h with
  | int hu hw => exact .int hu hw
  | bool hu => exact .bool hu
  | str hu hs => exact .str hu (by omega)
  | struct hu hl hf ih => exact .struct hu hl ih
  | nil hu => exact .nil hu
  | row hu hb hS he ih => exact .row hu (by omega) (fun h1 _ => hS h1 (by omega)) ih
theorem Ok.rowI {α : Type} {t e sz : Nat} {ec : α → List Value} {ok : α → Prop} {cs : List Value} (hu : P.underlying t = some (.slice e)) (hsz : P.cellsOf e = sz) (h0 : 0 < sz) (hB : B ≤ 140737488355328)
    (hone : ∀ a, ∀ v ∈ ec a, isOne v = true) (hoc : ∀ x, Ok P S B e x → ∃ a, x = ec a ∧ ok a) (h : Ok P S B t cs) :
    ∃ (a : Option Addr) (c : Nat) (xs : List α), cs = [.slice a xs.length c] ∧ (∀ x ∈ xs, ok x) ∧ xs.length ≤ B ∧ slH false sz (.slice a xs.length c) c (xs.map ec) S (fun _ => none) := by
  cases h with
  | nil hu' => exact ⟨none, 0, [], rfl, by simp, by simp, ⟨h0, by simp⟩, by simp, .inl ⟨rfl, none, rfl, fun _ => rfl⟩⟩
  | @row _ e' a c es hu' hb hS he =>
    rw [hu] at hu'; cases hu'
    subst hsz
    have : ∃ xs : List α, es = xs.map ec ∧ ∀ x ∈ xs, ok x := by
      clear hS hb
      induction es with
      | nil => exact ⟨[], rfl, by simp⟩
      | cons y es ih =>
        obtain ⟨x, rfl, hx⟩ := hoc y (he y (by simp))
        obtain ⟨xs, rfl, hxs⟩ := ih (fun z hz => he z (by simp [hz]))
        exact ⟨x :: xs, rfl, fun z hz => by rcases List.mem_cons.1 hz with rfl | hz; exact hx; exact hxs z hz⟩
    obtain ⟨xs, rfl, hxs⟩ := this
    have hS' := hS ⟨h0, fun x hx v hv => by obtain ⟨y, _, rfl⟩ := List.mem_map.1 hx; exact hone y v hv⟩ hB
    rw [List.length_map] at hS' hb ⊢
    exact ⟨some a, c, xs, rfl, hxs, hb, hS'⟩
  | _ hu' => rw [hu] at hu'; cases hu'

theorem bulk_le {H : Type} {ds gs : List (DataW H)} {d : DataW H} (hk : Rows.uptoSmall H (ds ++ gs) = true) (hd : d ∈ ds) : Rows.uptoBulk d ≤ 1048576 := by
  have h1 : Rows.uptoBulkAll (ds ++ gs) ≤ 1048576 := by simpa [Rows.uptoSmall] using hk
  have h2 := bulkAll_mem (List.mem_append_left gs hd)
  omega
theorem open_ok {H : Type} {enc : TypeId × Value → H} {w : World} {base : Nat} {spare : Nat → Bool} {held : Bool} {r : Reach} {b0 n : Nat} {t : TypeId} {fs : Array Field} {v : Value} {d : DataW H} {ps : List MemPlace} (ht : P.underlying t = some (.struct fs)) (hty : okTy P n t = true)
    (hval : Value.okWide P w r b0 t v) (hd : DataW.Trod enc P w base spare held t v d ps) (hb : Rows.uptoBulk d ≤ B) : ∃ cs : List Value, v = .agg cs.toArray ∧ Ok P (fun b => w.heap[b]?) B t cs := by
  unfold Value.okWide at hval
  rw [ht] at hval
  obtain ⟨cs, rfl, _⟩ := hval
  obtain ⟨fuel, hf⟩ := hd
  exact ⟨cs.toList, rfl, trod_ok (fun b o h => h) hty hf hb⟩
theorem open_okS {H : Type} {enc : TypeId × Value → H} {w : World} {base : Nat} {spare : Nat → Bool} {held : Bool} {r : Reach} {b0 n : Nat} {t e : TypeId} {v : Value} {d : DataW H} {ps : List MemPlace} (ht : P.underlying t = some (.slice e)) (hty : okTy P n t = true)
    (hval : Value.okWide P w r b0 t v) (hd : DataW.Trod enc P w base spare held t v d ps) (hb : Rows.uptoBulk d ≤ B) : Ok P (fun b => w.heap[b]?) B t [v] := by
  have hv : ∀ u, v.cells.toList = [u] → v = u := by
    unfold Value.okWide at hval
    rw [ht] at hval
    simp only [Cell.okWide, ht, Cell.ok] at hval
    intro u hu
    cases v <;> simp_all [Value.cells]
  obtain ⟨fuel, hf⟩ := hd
  have hk := trod_ok (B := B) (S := fun b => w.heap[b]?) (fun b o h => h) hty hf hb
  have : v.cells.toList = [v] := by
    rcases DataW.trod_slice ht hf with ⟨h1, _⟩ | ⟨a, len, cap, elems, rest, m, _, h1, _⟩
    · rw [h1, hv _ h1]
    · rw [h1, hv _ h1]
  rw [this] at hk; exact hk
theorem Ok.flatB {n : Nat} {t : TypeId} {ks : List FK} {cs : List Value} (hf : flatT P n t = some ks) (hB : B ≤ 1048576) (h : Ok P S B t cs) : okCells ks cs :=
  Ok.flat (Nat.le_trans hB (by decide)) hf h
/-- From memory at the start. -/
theorem Imp.oldSl {α : Type} {h0 : Heap} {ec : α → List Value} {sz c : Nat} {sv : Value} {xs : List α} (h : slH false sz sv c (xs.map ec) (fun b => h0[b]?) (fun _ => none)) {cs : List Assn} : Imp (Go.SL.old h0 :: cs) (SlT false ec sz sv c xs :: Go.SL.old h0 :: cs) :=
  Imp.old fun S hS => by
    obtain ⟨hz, hl, h⟩ := h
    refine ⟨hz, hl, ?_⟩
    rcases h with h | ⟨b, off, T, fz, C, h1, h2, h3, h4⟩
    · exact .inl h
    · exact .inr ⟨b, off, T, fz, C, h1, h2, hS _ _ (hv_iff.2 ⟨h3, rfl⟩), h4⟩
end
end Go.SL
