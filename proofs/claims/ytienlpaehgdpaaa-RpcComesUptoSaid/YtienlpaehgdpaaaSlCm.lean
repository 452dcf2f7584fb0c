/- The walk's own words: the runs of the operations on maps, and of some builtins. Conditions: none. -/
import Derived.Test.YtienlpaehgdpaaaSlB
set_option linter.unusedSimpArgs false
set_option linter.unusedVariables false
namespace Go.SL
open Go

section
variable {P : Program} {w : World}

theorem run_getO {r : Nat} {o : Obj} (h : w.heap[r]? = some o) (ho : ∀ c T fz, o ≠ .cells c T fz) : (getObj r).run P w = .ok o w := by
  cases o <;> first | exact absurd rfl (ho _ _ _) | simp [getObj, Sem.run, h]
theorem run_setO {r : Nat} {o o' : Obj} (h : w.heap[r]? = some o) (ho : ∀ c T fz, o ≠ .cells c T fz) : (setObj r o').run P w = .ok () { w with heap := w.heap.setIfInBounds r o' } := by
  cases o <;> first | exact absurd rfl (ho _ _ _) | simp [setObj, Sem.run, h]
theorem run_map {r c : Nat} {es : Array MapEntry} (h : w.heap[r]? = some (.map es c)) : (getObj r).run P w = .ok (.map es c) w := run_getO h (by simp)
theorem run_setmap {r c : Nat} {es : Array MapEntry} {o' : Obj} (h : w.heap[r]? = some (.map es c)) : (setObj r o').run P w = .ok () { w with heap := w.heap.setIfInBounds r o' } := run_setO h (by simp)
theorem Keeps.map {b c c' : Nat} {es es' : Array MapEntry} (h : w.heap[b]? = some (.map es c)) : Keeps w { w with heap := w.heap.setIfInBounds b (.map es' c') } :=
  Keeps.obj h (by simp) (by simp) w.drawn (Nat.le_refl _)

theorem run_newO {o : Obj} : (newObj o).run P w = .ok w.heap.size { w with heap := w.heap.push o } := by simp [newObj, Sem.run]

theorem run_lookup {t kt et : TypeId} {z : Value} {m key : Value} {es : Array MapEntry} {r : Option (Nat × Value)} {ok : Bool} (ht : P.underlying t = some (.map kt et)) (hz : (P.info? et).bind (·.zero) = some z)
    (hm : mapOf w.heap m es) (hk : KeyAt P kt es key r) : (Instr.lookup t m key ok).run P w = .ok (if ok then .tuple #[(r.map (·.2)).getD z, .bool r.isSome] else (r.map (·.2)).getD z) w := by
  obtain ⟨i, hi, hzi⟩ := Option.bind_eq_some_iff.1 hz
  obtain ⟨h1, h2, _⟩ := hk
  unfold Instr.lookup
  simp only [Sem.run_bind, run_underlying ht, Result.andThen]
  cases m <;> simp only [mapOf] at hm
  rename_i o
  cases o with
  | none =>
    simp only [] at hm
    subst hm
    have h2' : ∀ w : World, (Instr.findKey kt key []).run P w = .ok r w := h2
    cases r with
    | none => cases ok <;> simp [run_zeroValue hi hzi, Sem.run_bind, Result.andThen, h1, h2']
    | some x => cases ok <;> simp [Sem.run_bind, Result.andThen, h1, h2']
  | some b =>
    obtain ⟨c, hb⟩ := hm
    simp only [run_map hb, Sem.run_bind, Sem.run_pure, Result.andThen, h1, h2]
    cases r with
    | none => cases ok <;> simp [run_zeroValue hi hzi, Sem.run_bind, Result.andThen]
    | some x => cases ok <;> simp

theorem run_keep {old new : Value} (h : Instr.sameBits 10000 old new = true) : (Instr.keyThatStays old new).run P w = .ok new w := by
  simp [Instr.keyThatStays, h]

theorem run_mapUpdate {t kt et : TypeId} {b c : Nat} {key v : Value} {es : Array MapEntry} {r : Option (Nat × Value)} (ht : P.underlying t = some (.map kt et))
    (hb : w.heap[b]? = some (.map es c)) (hk : KeyAt P kt es key r) : (Instr.mapUpdate t (.map (some b)) key v).run P w = .ok () { w with heap := w.heap.setIfInBounds b (mapPut es c key v r) } := by
  obtain ⟨h1, h2, h3⟩ := hk
  unfold Instr.mapUpdate
  simp only [Sem.run_bind, run_underlying ht, Result.andThen, run_map hb, h1, h2]
  cases r with
  | none => simp only [run_setmap hb, mapPut]
  | some x => simp only [Sem.run_bind, run_keep (h3 x.1 x.2 rfl), Result.andThen, run_setmap hb, mapPut]

theorem run_mapEntry {t kt et : TypeId} {z : Value} {b c : Nat} {key : Value} {es : Array MapEntry} {r : Option (Nat × Value)} (ht : P.underlying t = some (.map kt et)) (hz : (P.info? et).bind (·.zero) = some z)
    (hb : w.heap[b]? = some (.map es c)) (hk : KeyAt P kt es key r) : (Instr.mapEntry t (.map (some b)) key).run P w = .ok (entVal es c z r) { w with heap := w.heap.setIfInBounds b (entPut es c key z r) } := by
  obtain ⟨i, hi, hzi⟩ := Option.bind_eq_some_iff.1 hz
  obtain ⟨h1, h2, h3⟩ := hk
  unfold Instr.mapEntry
  simp only [Sem.run_bind, run_underlying ht, Result.andThen, run_map hb, h1, h2]
  cases r with
  | none => simp only [Sem.run_bind, run_zeroValue hi hzi, Result.andThen, run_setmap hb, entPut, entVal, Sem.run_pure, goInt]
  | some x => simp only [Sem.run_bind, run_keep (h3 x.1 x.2 rfl), Result.andThen, run_setmap hb, entPut, entVal, Sem.run_pure, goInt]

theorem run_entryStore {t b c i : Nat} {born : Int} {k : IntKind} {v : Value} {es : Array MapEntry} (hb : w.heap[b]? = some (.map es c)) (hi : es.findIdx? (fun e => (e.born : Int) == born) = some i) :
    (Instr.entryStore t (.map (some b)) (.int k born) v).run P w = .ok () { w with heap := w.heap.setIfInBounds b (.map (es.modify i fun e => { e with val := v }) c) } := by
  unfold Instr.entryStore
  simp only [Sem.run_bind, run_map hb, Result.andThen, asInt, asIntOf, Sem.run_pure, hi, run_setmap hb]

theorem run_delete {t kt et ty : TypeId} {ts : List TypeId} {b c : Nat} {key : Value} {es : Array MapEntry} {r : Option (Nat × Value)} (ht : P.underlying t = some (.map kt et))
    (hb : w.heap[b]? = some (.map es c)) (hk : KeyAt P kt es key r) : (Builtin.delete_ (t :: ts).toArray ty #[.map (some b), key]).run P w = .ok (.tuple #[]) { w with heap := w.heap.setIfInBounds b (mapDel es c r) } := by
  obtain ⟨h1, h2, h3⟩ := hk
  unfold Builtin.delete_
  simp only [List.getElem?_toArray, List.getElem?_cons_zero, show (#[Value.map (some b), key] : Array Value)[0]? = some (.map (some b)) from rfl, show (#[Value.map (some b), key] : Array Value)[1]? = some key from rfl, Sem.run_bind, Sem.run_pure, Result.andThen, run_underlying ht, run_map hb, h1, h2]
  cases r with
  | none => simp only [Sem.run_bind, Result.andThen, Sem.run_pure, run_setmap hb, mapDel]
  | some x => simp only [Sem.run_bind, Result.andThen, Sem.run_pure, run_setmap hb, mapDel]

theorem run_range {t kt et : TypeId} {b c : Nat} {es : Array MapEntry} (ht : P.underlying t = some (.map kt et)) (hb : w.heap[b]? = some (.map es c)) :
    (Instr.range t (.map (some b))).run P w = .ok (.pointer (some ⟨w.heap.size, 0, none⟩)) { w with heap := w.heap.push (.mapIter (some b) c #[] c) } := by
  unfold Instr.range
  simp only [Sem.run_bind, run_underlying ht, Result.andThen, run_map hb, Sem.run_pure, run_newO]

theorem run_entry {r m c last : Nat} {since stamp : Nat} {seen : Array Nat} {es : Array MapEntry} {e : MapEntry} (hr : w.heap[r]? = some (.mapIter (some m) since seen last)) (hs : seen.back? = some stamp)
    (hm : w.heap[m]? = some (.map es c)) (hc : c = last) (he : es.find? (·.born == stamp) = some e) : (Instr.entry (.pointer (some ⟨r, 0, none⟩))).run P w = .ok (.tuple #[e.key, e.val]) w := by
  subst hc
  unfold Instr.entry
  simp [Sem.run_bind, run_getO hr (by simp), Result.andThen, hs, run_map hm, he]

theorem run_choose {q : Question} : ∃ n w', (choose q).run P w = .ok n w' ∧ w'.heap = w.heap ∧ Keeps w w' ∧ (n = 0 ∧ q.forced = true ∨ ∃ t, n = q.cut t) := by
  by_cases h : q.forced = true
  · exact ⟨0, w, by simp [choose, Sem.run, h], rfl, Keeps.refl _, .inl ⟨rfl, h⟩⟩
  · refine ⟨q.cut (w.tape w.drawn q), { w with drawn := w.drawn + 1 }, by simp [choose, Sem.run, h], rfl, ⟨rfl, rfl, rfl, Nat.le_succ _⟩, .inr ⟨_, rfl⟩⟩

theorem run_next {r m c last since : Nat} {seen : Array Nat} {es : Array MapEntry} {ty : TypeId} {K : Value → Heap → Prop} (hr : w.heap[r]? = some (.mapIter (some m) since seen last))
    (hm : w.heap[m]? = some (.map es c)) (hg : (!seen.isEmpty && !es.isEmpty && es.all (·.born ≥ last)) = false)
    (h1 : ∀ e ∈ es.toList, seen.contains e.born = false → K (.tuple #[.bool true, e.key, e.val]) (w.heap.setIfInBounds r (.mapIter (some m) since (seen.push e.born) c)))
    (h2 : (∀ e ∈ es.toList, seen.contains e.born = false → since ≤ e.born) → K (.tuple #[.bool false]) w.heap) :
    ∃ v w', (Instr.next (.pointer (some ⟨r, 0, none⟩)) false ty).run P w = .ok v w' ∧ Keeps w w' ∧ K v w'.heap := by
  unfold Instr.next
  simp only [Sem.run_bind, run_getO hr (by simp), Result.andThen, run_map hm, hg, Bool.false_eq_true, if_false]
  generalize hleft : es.filter (fun e => !seen.contains e.born) = left
  generalize hold : left.filter (·.born < since) = old
  generalize hnew : left.filter (·.born ≥ since) = new
  generalize hcs : (if old.isEmpty then #[none] else #[]) ++ (old ++ new).map some = cands
  have hmem : ∀ e, some e ∈ cands → e ∈ es.toList ∧ seen.contains e.born = false := by
    intro e he
    subst hcs
    have : e ∈ old ++ new := by
      rcases Array.mem_append.1 he with h | h
      · split at h <;> simp at h
      · simpa using h
    have : e ∈ left := by
      rcases Array.mem_append.1 this with h | h
      · subst hold; exact (Array.mem_filter.1 h).1
      · subst hnew; exact (Array.mem_filter.1 h).1
    subst hleft
    obtain ⟨a, b⟩ := Array.mem_filter.1 this
    exact ⟨by simpa using a, by simpa using b⟩
  have hnone : none ∈ cands → ∀ e ∈ es.toList, seen.contains e.born = false → since ≤ e.born := by
    intro hn e he hs
    subst hcs
    rcases Array.mem_append.1 hn with h | h
    · split at h
      · rename_i hemp
        have : old = #[] := by simpa using hemp
        rcases Nat.lt_or_ge e.born since with h' | h'
        · exfalso
          have : e ∈ old := by
            subst hold hleft
            exact Array.mem_filter.2 ⟨Array.mem_filter.2 ⟨by simpa using he, by simp only [hs]; rfl⟩, by simpa using h'⟩
          rw [‹old = #[]›] at this
          simp at this
        · exact h'
      · simp at h
    · simp at h
  have hpos : 0 < cands.size := by
    subst hcs
    by_cases h : old.isEmpty = true
    · simp [h]; omega
    · have : old.size ≠ 0 := by simpa using h
      simp; omega
  obtain ⟨n, w', hrun, hheap, hkp, hn⟩ := run_choose (P := P) (w := w) (q := .mapNext cands.size)
  have hlt : n < cands.size := by
    rcases hn with ⟨rfl, _⟩ | ⟨t, rfl⟩
    · exact hpos
    · exact Nat.mod_lt _ hpos
  simp only [hrun, Array.getElem?_eq_getElem hlt]
  have hin : cands[n] ∈ cands := Array.getElem_mem hlt
  cases hc : cands[n] with
  | none =>
    rw [hc] at hin
    exact ⟨_, _, rfl, hkp, by rw [hheap]; exact h2 (hnone hin)⟩
  | some e =>
    rw [hc] at hin
    obtain ⟨a, b⟩ := hmem e hin
    have hr' : w'.heap[r]? = some (.mapIter (some m) since seen last) := by rw [hheap]; exact hr
    have := h1 e a b
    refine ⟨_, { w' with heap := w'.heap.setIfInBounds r (.mapIter (some m) since (seen.push e.born) c) }, ?_, ?_, by simp only []; rw [hheap]; exact this⟩
    · simp only [Sem.run_bind, run_setO hr' (by simp), Result.andThen, Sem.run_pure]
    · exact hkp.trans (Keeps.obj hr' (by simp) (by simp) w'.drawn (Nat.le_refl _))

theorem wrap_small {n : Int} (h1 : -9223372036854775808 ≤ n) (h2 : n ≤ 9223372036854775807) : IntKind.i64.wrap n = n := by
  unfold IntKind.wrap; simp [IntKind.min, IntKind.max, IntKind.bits, IntKind.signed]; omega

theorem run_makeSlice {t e : TypeId} {i : TypeInfo} {z : Value} {n m : Nat} (ht : P.underlying t = some (.slice e)) (hi : P.info? e = some i) (hz : i.zero = some z) (hsz : z.cells.size = i.size)
    (hn : n ≤ m) (hb : m * i.bytes ≤ 2 ^ 47) (hm : m ≤ 2 ^ 47) : (Instr.makeSlice t (.int .i64 n) (.int .i64 m)).run P w =
      .ok (.slice (some ⟨w.heap.size, 0, none⟩) n m) { w with heap := w.heap.push (.cells (Builtin.zeroCells z.cells m) e) } := by
  have wr : ∀ k : Nat, k ≤ m → IntKind.i64.wrap (k : Int) = k := by
    intro k hk
    have hm' : m ≤ 140737488355328 := hm
    exact wrap_small (by omega) (by omega)
  have h1 : (i.bytes : Int) * m ≤ 140737488355328 := by have : i.bytes * m ≤ 140737488355328 := by rw [Nat.mul_comm]; exact hb
                                                        have := Int.ofNat_le.2 this
                                                        rw [Int.natCast_mul] at this
                                                        exact this
  have hz' : Builtin.zeroCells z.cells m = (Array.range (m * i.size)).map ((if m * i.size = 0 then #[] else z.cells)[· % (if m * i.size = 0 then #[] else z.cells).size]!) := by
    unfold Builtin.zeroCells
    rw [hsz]
    by_cases h0 : m * i.size = 0
    · simp [h0]
    · simp [h0, hsz]
  have hroom : ∀ n : Nat, (askRoom n).run P w = .ok () w := by intro n; unfold askRoom; split <;> rfl
  have hlarge : ∀ k : Nat, k ≤ m → (decide ((k : Int) < 0) || decide ((i.bytes : Int) * k > 2 ^ 48)) = false := by
    intro k hk
    have e48 : (2 : Int) ^ 48 = 281474976710656 := by decide
    rw [e48]
    have : i.bytes * k ≤ i.bytes * m := Nat.mul_le_mul_left _ hk
    have := Int.ofNat_le.2 this
    rw [Int.natCast_mul, Int.natCast_mul] at this
    simp; omega
  unfold Instr.makeSlice
  simp only [Sem.run_bind, run_underlying ht, Result.andThen, asInt, asIntOf, Sem.run_pure, run_typeInfo hi, wr n hn, wr m (Nat.le_refl _)]
  rw [if_neg (by have := hlarge m (Nat.le_refl _); rw [this]; simp only [Bool.false_or, Bool.or_eq_true, decide_eq_true_eq]; omega)]
  simp only [Sem.run_bind, Result.andThen, run_sizeOf hi, Int.toNat_natCast, hroom]
  by_cases h0 : m * i.size = 0
  · simp only [if_pos h0, Sem.run_bind, Result.andThen, Sem.run_pure, hz', run_newRow]
  · simp only [if_neg h0, Sem.run_bind, run_zeroValue hi hz, Result.andThen, Sem.run_pure, hz', run_newRow]

end
end Go.SL
