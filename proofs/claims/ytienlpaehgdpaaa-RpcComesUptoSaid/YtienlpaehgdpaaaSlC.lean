/- The walk's own words, part C: the model's operation does what 'Kd.sem' says. Conditions: none. -/
import Derived.Test.YtienlpaehgdpaaaSlCm
set_option linter.unusedSimpArgs false
set_option linter.unusedVariables false
namespace Go.SL
open Go

section
variable {P : Program}

theorem map_parts {a : Act} (parts : Array (Nat × Operand)) :
    (parts.map fun (p : Nat × Operand) => (p.1, a.eval p.2)).toList = parts.toList.map fun (p : Nat × Operand) => (p.1, a.eval p.2) := by simp

theorem map_z (l : List Value) (a : Act) : (l.map Src.z).map (evS a) = l := by
  induction l with
  | nil => rfl
  | cons v r ih => simp only [List.map_cons, evS, ih]

theorem slice_lo {a : Act} {ρ : Env} {N : Nat} (ha : Agrees a ρ N) {x : Option Operand} {d y : Nat} {code : BoundsCode} {r : Nat} {w : World}
    (h : sliceLo x ρ d = some r) (hy : x.isSome = true → r ≤ y) :
    (match x.map a.eval with | some v => Instr.sliceBound v y code | none => pure d : Sem Nat).run P w = .ok r w := by
  cases x with
  | none => simp [sliceLo] at h; subst h; simp
  | some o =>
    simp only [sliceLo] at h
    split at h
    · rename_i k n hev
      split at h
      · rename_i h0
        simp at h
        subst h
        have := hy rfl
        simp only [Option.map_some, ha.ev hev, Instr.sliceBound, asIntOf, Sem.run_bind, Sem.run_pure, Result.andThen]
        rw [if_pos ⟨h0, by omega⟩]
        simp
      · simp at h
    · simp at h

theorem run_slice {a : Act} {ρ : Env} {N : Nat} (ha : Agrees a ρ N) {t e : TypeId} {i : TypeInfo} {x : Operand} {lo hi mx : Option Operand} {b : Option Addr} {len cap l u m : Nat} {w : World}
    (hu : P.underlying t = some (.slice e)) (hI : P.info? e = some i) (hx : ρ.ev x = some (.slice b len cap))
    (hm : sliceLo mx ρ cap = some m) (hmc : m ≤ cap) (hmh : mx.isSome = true → hi.isSome = true)
    (hh : sliceLo hi ρ len = some u) (hum : hi.isSome = true → u ≤ m) (hl : sliceLo lo ρ 0 = some l) (hlu : lo.isSome = true → l ≤ u) :
    (Instr.sliceAt t (a.eval x) (lo.map a.eval) (hi.map a.eval) (mx.map a.eval)).run P w =
      .ok (.slice (if m = l then b else b.map (·.add (l * i.size))) (u - l) (m - l)) w := by
  have hM := fun code => slice_lo (P := P) ha (code := code) (y := cap) (w := w) hm (fun _ => hmc)
  have hH := fun code => slice_lo (P := P) ha (code := code) (y := m) (w := w) hh hum
  have hL := fun code => slice_lo (P := P) ha (code := code) (y := u) (w := w) hl hlu
  have hb : (Instr.sliceBounds true len cap (lo.map a.eval) (hi.map a.eval) (mx.map a.eval)).run P w = .ok (l, u, m) w := by
    unfold Instr.sliceBounds
    cases mx with
    | none =>
      cases hi with
      | none =>
        cases lo with
        | none => simp_all [sliceLo]
        | some lo => simp_all [sliceLo, Sem.run_bind, Result.andThen]
      | some hi =>
        cases lo with
        | none => simp_all [sliceLo, Sem.run_bind, Result.andThen]
        | some lo => simp_all [sliceLo, Sem.run_bind, Result.andThen]
    | some mx =>
      cases hi with
      | none => simp at hmh
      | some hi =>
        cases lo with
        | none => simp_all [sliceLo, Sem.run_bind, Result.andThen]
        | some lo => simp_all [sliceLo, Sem.run_bind, Result.andThen]
  simp only [Instr.sliceAt, Sem.run_bind, run_underlying hu, Result.andThen, Instr.slice, ha.ev hx, hb, run_sizeOf hI, Sem.run_pure]

theorem run_sls {a : Act} {ρ : Env} {N : Nat} (ha : Agrees a ρ N) {t : TypeId} {x : Operand} {lo hi : Option Operand} {s : ByteArray} {l u : Nat} {w : World}
    (hu : P.underlying t = some .string) (hx : ρ.ev x = some (.string s)) (hh : sliceLo hi ρ s.size = some u) (hus : hi.isSome = true → u ≤ s.size) (hl : sliceLo lo ρ 0 = some l) (hlu : lo.isSome = true → l ≤ u) :
    (Instr.sliceAt t (a.eval x) (lo.map a.eval) (hi.map a.eval) (none.map a.eval)).run P w = .ok (.string (s.extract l u)) w := by
  have hH := fun code => slice_lo (P := P) ha (code := code) (y := s.size) (w := w) hh hus
  have hL := fun code => slice_lo (P := P) ha (code := code) (y := u) (w := w) hl hlu
  have hb : (Instr.sliceBounds false s.size s.size (lo.map a.eval) (hi.map a.eval) none).run P w = .ok (l, u, s.size) w := by
    unfold Instr.sliceBounds
    cases hi with
    | none =>
      cases lo with
      | none => simp_all [sliceLo]
      | some lo => simp_all [sliceLo, Sem.run_bind, Result.andThen]
    | some hi =>
      cases lo with
      | none => simp_all [sliceLo, Sem.run_bind, Result.andThen]
      | some lo => simp_all [sliceLo, Sem.run_bind, Result.andThen]
  simp only [Instr.sliceAt, Instr.slice, Sem.run_bind, run_underlying hu, Result.andThen, ha.ev hx, Option.map_none, hb, Option.isSome_none, Bool.false_eq_true, if_false, Sem.run_pure]

theorem run_firstCells {sz n : Nat} {v : Value} {vs : List Value} {w : World} (h : firstList w.heap sz n v = some vs) :
    (Builtin.firstCells sz n v).run P w = .ok vs.toArray w := by
  unfold firstList at h
  split at h
  · simp [Builtin.firstCells, loadCells, run_loadCells _ _ _ _ _ h]
  · simp at h; subst h; simp [Builtin.firstCells]
  · simp at h; subst h
    simp [Builtin.firstCells]
    rw [← Array.toList_inj]; simp
  · simp at h

theorem run_lenOf {v : Value} {n : Nat} {w : World} (h : lenVal v = some n) : (Builtin.lenOf v).run P w = .ok n w := by
  cases v <;> simp [lenVal] at h <;> simp [Builtin.lenOf, h]

theorem growBy_le (n : Nat) : ∀ (k c : Nat), c < n → Builtin.growBy n k c ≤ n + (n + 768) / 4
  | 0, c, h => by simp only [Builtin.growBy]; omega
  | k + 1, c, h => by
    simp only [Builtin.growBy]
    rw [if_neg (by omega)]
    by_cases h2 : c + (c + 768) / 4 < n
    · exact growBy_le n k _ h2
    · cases k with
      | zero => simp [Builtin.growBy]; try omega
      | succ k => simp only [Builtin.growBy]; rw [if_pos (by omega)]; omega

theorem nextcap_le {n c : Nat} (h : ¬ n ≤ c) : Builtin.nextslicecap n c ≤ 2 * n := by
  unfold Builtin.nextslicecap
  split
  · omega
  · split
    · omega
    · have := growBy_le n 4 c (by omega)
      omega

theorem Keeps.drewC (w : World) (c : Array Value) (T : TypeId) : Keeps w { heap := w.drew.heap.push (.cells c T), tape := w.drew.tape, drawn := w.drew.drawn, os := w.drew.os, output := w.drew.output } :=
  ⟨rfl, rfl, rfl, Nat.le_succ _⟩

theorem run_append {t u e : Nat} {ty : TypeId} {d : TypeDesc} {i : TypeInfo} {z : Value} {a : Option Addr} {n c m : Nat} {v : Value} {w : World} {K : Value → Heap → Prop}
    (ht : P.underlying t = some (.slice e)) (hu : P.underlying u = some d) (hd : ∀ k, d ≠ .int k) (hi : P.info? e = some i) (hz : i.zero = some z)
    (hm : lenVal v = some m) (hb : (n + m) * i.bytes ≤ 2 ^ 47) (hb0 : 0 < i.bytes)
    (hs : if n + m ≤ c then ∃ vs h', firstList w.heap i.size m v = some vs ∧ storeAt a (n * i.size) vs w.heap h' ∧ K (.slice a (n + m) c) h'
       else ∃ us vs, firstList w.heap i.size n (.slice a n c) = some us ∧ firstList w.heap i.size m v = some vs ∧
         ∀ c', n + m ≤ c' → K (.slice (some ⟨w.heap.size, 0, none⟩) (n + m) c') (w.heap.push (.cells (us.toArray ++ vs.toArray ++ Builtin.zeroCells z.cells (c' - (n + m))) e))) :
    ∃ r w', (Builtin.append_ #[t, u] ty #[.slice a n c, v]).run P w = .ok r w' ∧ Keeps w w' ∧ K r w'.heap := by
  have hN : (n + m) * i.bytes ≤ 140737488355328 := hb
  simp [Builtin.append_, Sem.run_bind, run_underlying ht, run_underlying hu, Result.andThen, run_sizeOf hi, run_lenOf hm]
  by_cases hc : n + m ≤ c
  · rw [if_pos hc] at hs
    obtain ⟨vs, h', hf, hst, hk⟩ := hs
    simp only [if_pos hc, run_firstCells hf]
    cases a with
    | none => simp only [storeAt] at hst; subst hst; exact ⟨_, _, rfl, Keeps.refl _, hk⟩
    | some ad =>
      simp only [storeAt] at hst
      refine ⟨_, { w with heap := h' }, ?_, Keeps.store hst, hk⟩
      simp [Sem.run_bind, Result.andThen, run_storeCells _ _ _ _ _ hst]
  · rw [if_neg hc] at hs
    obtain ⟨us, vs, hf1, hf2, hk⟩ := hs
    have hcap := nextcap_le hc
    have h1 : Builtin.nextslicecap (n + m) c * i.bytes ≤ 281474976710656 := by
      have := Nat.mul_le_mul_right i.bytes hcap
      rw [Nat.mul_assoc] at this
      omega
    have h2 : ¬ i.bytes = 0 := by omega
    simp only [if_neg hc, run_typeInfo hi, h2, and_false, if_false, if_neg (show ¬ 281474976710656 < Builtin.nextslicecap (n + m) c * i.bytes by omega), Question.forced, Bool.false_eq_true,
      run_firstCells (w := w.drew) hf1, run_firstCells (w := w.drew) hf2, run_zeroValue hi hz, run_newRow]
    refine ⟨_, _, rfl, Keeps.drewC w _ _, ?_⟩
    have := hk (Question.cut (.appendCap (n + m) c e) (w.tape w.drawn (.appendCap (n + m) c e))) (by simp [Question.cut])
    rw [Array.append_assoc] at this
    exact this

theorem run_clear {t e ty : TypeId} {z : Value} {a : Option Addr} {n c : Nat} {h' : Heap} {w : World} (ht : P.underlying t = some (.slice e)) (hz : (P.info? e).bind (·.zero) = some z)
    (hst : if n = 0 then h' = w.heap else storeAt a 0 (Builtin.zeroCells z.cells n).toList w.heap h') :
    Keeps w { w with heap := h' } ∧ (Builtin.clear_ #[t] ty #[.slice a n c]).run P w = .ok (.tuple #[]) { w with heap := h' } := by
  obtain ⟨i, hi, hzi⟩ := Option.bind_eq_some_iff.1 hz
  by_cases h0 : n = 0
  · subst h0
    rw [if_pos rfl] at hst
    subst hst
    refine ⟨Keeps.refl _, ?_⟩
    cases a <;> simp [Builtin.clear_, Sem.run_bind, run_underlying ht, Result.andThen]
  · rw [if_neg h0] at hst
    refine ⟨Keeps.storeAt hst, ?_⟩
    cases a with
    | none => simp only [storeAt] at hst; subst hst; simp [Builtin.clear_, Sem.run_bind, run_underlying ht, Result.andThen]
    | some ad =>
      simp only [storeAt] at hst
      have hs := run_storeCells (P := P) _ _ _ w _ hst
      have : ad.add 0 = ad := by simp [Addr.add]
      rw [this] at hs
      obtain ⟨n, rfl⟩ : ∃ m, n = m + 1 := ⟨n - 1, by omega⟩
      simp [Builtin.clear_, Sem.run_bind, run_underlying ht, Result.andThen, run_zeroValue hi hzi, hs]

theorem run_copy {t e ty : TypeId} {ts : List TypeId} {i : TypeInfo} {a : Option Addr} {n c m : Nat} {v : Value} {vs : List Value} {h' : Heap} {w : World} (ht : P.underlying t = some (.slice e)) (hi : P.info? e = some i)
    (hm : lenVal v = some m) (hf : firstList w.heap i.size (Nat.min m n) v = some vs) (hst : storeAt a 0 vs w.heap h') :
    (Builtin.copy_ (t :: ts).toArray ty #[.slice a n c, v]).run P w = .ok (.int .i64 (Nat.min m n : Nat)) { w with heap := h' } := by
  unfold Builtin.copy_
  simp only [List.getElem?_toArray, List.getElem?_cons_zero, show (#[Value.slice a n c, v] : Array Value)[0]? = some (.slice a n c) from rfl, show (#[Value.slice a n c, v] : Array Value)[1]? = some v from rfl,
    Sem.run_bind, Sem.run_pure, Result.andThen, run_underlying ht, run_lenOf hm, run_sizeOf hi, run_firstCells hf]
  cases a with
  | none => simp only [storeAt] at hst; subst hst; simp [goInt]
  | some ad =>
    simp only [storeAt] at hst
    have hs := run_storeCells (P := P) _ _ _ w _ hst
    have : ad.add 0 = ad := by simp [Addr.add]
    rw [this] at hs
    simp [Sem.run_bind, Result.andThen, hs, goInt]

theorem keeps_put {w : World} {b c : Nat} {es : Array MapEntry} {key v : Value} {r : Option (Nat × Value)} (h : w.heap[b]? = some (.map es c)) : Keeps w { w with heap := w.heap.setIfInBounds b (mapPut es c key v r) } := by
  cases r <;> exact Keeps.map h
theorem keeps_ent {w : World} {b c : Nat} {es : Array MapEntry} {key v : Value} {r : Option (Nat × Value)} (h : w.heap[b]? = some (.map es c)) : Keeps w { w with heap := w.heap.setIfInBounds b (entPut es c key v r) } := by
  cases r <;> exact Keeps.map h
theorem keeps_del {w : World} {b c : Nat} {es : Array MapEntry} {r : Option (Nat × Value)} (h : w.heap[b]? = some (.map es c)) : Keeps w { w with heap := w.heap.setIfInBounds b (mapDel es c r) } := by
  cases r <;> exact Keeps.map h

theorem run_fieldAt {s f : Nat} {fs : Array Field} {fd : Field} {i : TypeInfo} {ad : Addr} {w : World} (hu : P.underlying s = some (.struct fs)) (hf : fs[f]? = some fd)
    (hi : P.info? fd.type = some i) (h0 : ¬ i.size = 0) : (Instr.fieldAt s (.pointer (some ad)) f).run P w = .ok (.pointer (some (ad.add fd.offset))) w := by
  simp [Instr.fieldAt, Sem.run_bind, run_underlying hu, Result.andThen, hf, Instr.sureAddr, fieldPlace, run_sizeOf hi, h0]

theorem run_field {s f : Nat} {fs : Array Field} {fd : Field} {i : TypeInfo} {b : Bool} {cs : Array Value} {v : Value} {w : World} (hu : P.underlying s = some (.struct fs)) (hf : fs[f]? = some fd)
    (hA : isAggT P fd.type = some b) (hi : P.info? fd.type = some i) (hv : if b then v = .agg (cs.extract fd.offset (fd.offset + i.size)) else cs[fd.offset]? = some v) :
    (Instr.field s (.agg cs) f).run P w = .ok v w := by
  cases b
  · simp at hv
    simp [Instr.field, Sem.run_bind, run_underlying hu, Result.andThen, hf, part, run_isAgg hA, asAgg, hv]
  · simp at hv
    simp [Instr.field, Sem.run_bind, run_underlying hu, Result.andThen, hf, part, run_isAgg hA, asAgg, hv, run_sizeOf hi]

theorem run_indexAt {t e : Nat} {i : TypeInfo} {ad : Addr} {len cap : Nat} {k : IntKind} {n : Int} {w : World} (hu : P.underlying t = some (.slice e)) (hi : P.info? e = some i)
    (h0 : 0 ≤ n) (h1 : n < len) : (Instr.indexAt t (.slice (some ad) len cap) (.int k n)).run P w = .ok (.pointer (some (ad.add (n.toNat * i.size)))) w := by
  simp [Instr.indexAt, asIntOf, Sem.run_bind, run_underlying hu, Result.andThen, h0, h1, run_sizeOf hi]

theorem run_indexAtA {t e : Nat} {i : TypeInfo} {ad : Addr} {len : Nat} {k : IntKind} {n : Int} {w : World} (hu : P.underlying t = some (.array len e)) (hi : P.info? e = some i)
    (h0 : 0 ≤ n) (h1 : n < len) : (Instr.indexAt t (.pointer (some ad)) (.int k n)).run P w = .ok (.pointer (some (ad.add (n.toNat * i.size)))) w := by
  simp [Instr.indexAt, asIntOf, Sem.run_bind, run_underlying hu, Result.andThen, h0, h1, run_sizeOf hi, Instr.sureAddr]

theorem run_callFunc {f : Nat} {args : Array Value} {w : World} (h : (P.funcs[f]?.any fun fn => fn.body.isSome && fn.name != "runtime.NumGoroutine") = true) :
    (callFunc f args).run P w = .ok (.enter f args) w := by
  cases hf : P.funcs[f]? with
  | none => simp [hf] at h
  | some fn =>
    simp [hf] at h
    obtain ⟨h1, h2⟩ := h
    have h3 : fn.body.isNone = false := by cases hb : fn.body <;> simp_all
    have h4 : (fn.name == "runtime.NumGoroutine") = false := by simpa using h2
    simp only [callFunc, Sem.run_bind, run_program, Result.andThen, hf, h4, h3, Bool.false_eq_true, if_false, Sem.run_pure]

theorem run_mkI {t : Nat} {d : TypeDesc} {v : Value} {w : World} (hu : P.underlying t = some d) (hd : ∀ ms, d ≠ .interface ms) :
    (Instr.makeInterface t v).run P w = .ok (.iface t v) w := by
  cases d <;> simp_all [Instr.makeInterface, Sem.run_bind, run_underlying hu, Result.andThen]

theorem run_convInt {s d k k' : Nat} {ds : TypeDesc} {kk : IntKind} {k0 : IntKind} {n : Int} {w : World} (hs : P.underlying s = some ds) (hd : P.underlying d = some (.int kk)) :
    (convert s d (.int k0 n)).run P w = .ok (.int kk (kk.wrap n)) w := by
  simp only [convert, Sem.run_bind, run_underlying hs, run_underlying hd, Result.andThen]
  cases ds <;> simp [Conv.intToInt]

theorem EqC.len {fl : List Fl} {u v : List Value} {b : Bool} (h : EqC fl u v b) : u.length = fl.length ∧ v.length = fl.length := by
  induction h with
  | nil => simp
  | i _ ih => simp [ih.1, ih.2]
  | b _ ih => simp [ih.1, ih.2]
  | s _ ih => simp [ih.1, ih.2]

theorem EqC.split {fa : List Fl} : ∀ {fb : List Fl} {u v : List Value} {b : Bool}, EqC (fa ++ fb) u v b →
    ∃ b1 b2, EqC fa (u.take fa.length) (v.take fa.length) b1 ∧ EqC fb (u.drop fa.length) (v.drop fa.length) b2 ∧ b = (b1 && b2) := by
  induction fa with
  | nil => intro fb u v b h; exact ⟨true, b, by simpa using EqC.nil, by simpa using h, by simp⟩
  | cons f fa ih =>
    intro fb u v b h
    rw [List.cons_append] at h
    cases h with
    | i h => obtain ⟨b1, b2, h1, h2, rfl⟩ := ih h; exact ⟨_, b2, .i h1, h2, by simp [Bool.and_assoc]⟩
    | b h => obtain ⟨b1, b2, h1, h2, rfl⟩ := ih h; exact ⟨_, b2, .b h1, h2, by simp [Bool.and_assoc]⟩
    | s h => obtain ⟨b1, b2, h1, h2, rfl⟩ := ih h; exact ⟨_, b2, .s h1, h2, by simp [Bool.and_assoc]⟩

/-- The value of a plain type out of its cells. -/
def asVal (agg : Bool) (u : List Value) : Value := if agg then .agg u.toArray else u.headD undef

theorem flat_agg {d t : Nat} {fl : List Fl} (h : flatF P d t = some fl) : isAggT P t = some true ∨ (isAggT P t = some false ∧ fl.length = 1) := by
  cases d with
  | zero => simp [flatF] at h
  | succ d =>
    simp only [flatF] at h
    unfold isAggT
    split at h
    · rename_i h1; simp [h1] at h ⊢; simp [← h]
    · rename_i h1; simp [h1] at h ⊢; simp [← h]
    · rename_i h1; simp [h1] at h ⊢; simp [← h]
    · rename_i h1; simp [h1]
    · simp at h

theorem run_part {t off : Nat} {i : TypeInfo} {fl : List Fl} {ag : Bool} {u : List Value} {w : World} (hA : isAggT P t = some ag) (hi : P.info? t = some i) (hsz : i.size = fl.length) (h1 : ag = false → fl.length = 1)
    (hl : off + fl.length ≤ u.length) : (part t u.toArray off).run P w = .ok (asVal ag ((u.drop off).take fl.length)) w := by
  cases ag
  · have h1 := h1 rfl
    have hlt : off < u.length := by omega
    have hd : (u.drop off).take fl.length = [u[off]] := by rw [h1, List.drop_eq_getElem_cons hlt]; rfl
    simp only [part, Sem.run_bind, run_isAgg hA, Result.andThen, Bool.false_eq_true, if_false, List.getElem?_toArray, List.getElem?_eq_getElem hlt, Sem.run_pure, hd, asVal, List.headD]
  · simp only [part, Sem.run_bind, run_isAgg hA, Result.andThen, if_true, run_sizeOf hi, Sem.run_pure, asVal, hsz]
    congr 2
    rw [← Array.toList_inj]; simp [List.drop_take]

theorem run_flat : ∀ (d : Nat) (t : TypeId) (fl : List Fl), flatF P d t = some fl → ∀ (ag : Bool), isAggT P t = some ag → ∀ (u v : List Value) (b : Bool), EqC fl u v b → ∀ (e : Nat) (w : World), d ≤ e →
    (Op.equalIn e t (asVal ag u) (asVal ag v)).run P w = .ok b w := by
  intro d
  induction d with
  | zero => intro t fl h; simp [flatF] at h
  | succ d ih =>
    intro t fl h ag hA u v b hE e w he
    obtain ⟨e, rfl⟩ : ∃ e', e = e' + 1 := ⟨e - 1, by omega⟩
    simp only [flatF] at h
    split at h
    · rename_i k hu
      simp at h; subst h
      have : ag = false := by simp [isAggT, hu] at hA; exact hA
      subst this
      cases hE with
      | i h => cases h; simp only [asVal, Bool.false_eq_true, if_false, List.headD]; rw [run_equalIn_int w e t _ _ _ _ hu]; simp; rfl
    · rename_i hu
      simp at h; subst h
      have : ag = false := by simp [isAggT, hu] at hA; exact hA
      subst this
      cases hE with
      | b h => cases h; simp only [asVal, Bool.false_eq_true, if_false, List.headD]; rw [run_equalIn_bool' w e t _ _ hu]; simp
    · rename_i hu
      simp at h; subst h
      have : ag = false := by simp [isAggT, hu] at hA; exact hA
      subst this
      cases hE with
      | s h => cases h; simp only [asVal, Bool.false_eq_true, if_false, List.headD]; rw [run_equalIn_string w e t _ _ hu]; simp
    · rename_i fs hu
      split at h
      · simp at h
      · rename_i hst
        have : ag = true := by simp [isAggT, hu] at hA; exact hA
        subst this
        have hf : P.fieldsOf t = fs := by simp [Program.fieldsOf, hu]
        simp only [asVal, if_true]
        rw [run_equalIn_struct w e t _ _ (by rw [hf]; exact hu) (by simpa using hst), hf]
        have key : ∀ (l : List Field) (off : Nat) (fl : List Fl) (b : Bool), goF P (flatF P d) l off = some fl → EqC fl (u.drop off) (v.drop off) b → (Op.eqFields e u.toArray v.toArray l).run P w = .ok b w := by
          intro l
          induction l with
          | nil => intro off fl b hg hE; simp [goF] at hg; subst hg; generalize List.drop off u = x at hE; generalize List.drop off v = y at hE; cases hE; simp [Op.eqFields]
          | cons f r ihl =>
            intro off fl b hg hE
            simp only [goF] at hg
            split at hg
            · rename_i hc
              split at hg
              · rename_i a i ha hi
                split at hg
                · rename_i hsz
                  simp only [Option.map_eq_some_iff] at hg
                  obtain ⟨fr, hr, rfl⟩ := hg
                  obtain ⟨b1, b2, h1, h2, rfl⟩ := EqC.split hE
                  obtain ⟨l1, l2⟩ := EqC.len h1
                  rw [List.drop_drop, List.drop_drop] at h2
                  obtain ⟨agf, hAf, h1f⟩ : ∃ agf, isAggT P f.type = some agf ∧ (agf = false → a.length = 1) := by
                    rcases flat_agg ha with h | ⟨h, h'⟩
                    · exact ⟨true, h, by simp⟩
                    · exact ⟨false, h, fun _ => h'⟩
                  have hlu : off + a.length ≤ u.length ∨ a.length = 0 := by simp at l1; omega
                  have hlv : off + a.length ≤ v.length ∨ a.length = 0 := by simp at l2; omega
                  have hpu : (part f.type u.toArray f.offset).run P w = .ok (asVal agf ((u.drop off).take a.length)) w := by
                    rw [hc.2]
                    rcases hlu with h | h
                    · exact run_part hAf hi hsz h1f h
                    · cases agf
                      · have := h1f rfl; omega
                      · simp only [part, Sem.run_bind, run_isAgg hAf, Result.andThen, if_true, run_sizeOf hi, Sem.run_pure, asVal, hsz, h]
                        congr 2; rw [← Array.toList_inj]; simp
                  have hpv : (part f.type v.toArray f.offset).run P w = .ok (asVal agf ((v.drop off).take a.length)) w := by
                    rw [hc.2]
                    rcases hlv with h | h
                    · exact run_part hAf hi hsz h1f h
                    · cases agf
                      · have := h1f rfl; omega
                      · simp only [part, Sem.run_bind, run_isAgg hAf, Result.andThen, if_true, run_sizeOf hi, Sem.run_pure, asVal, hsz, h]
                        congr 2; rw [← Array.toList_inj]; simp
                  have heq := ih f.type a ha agf hAf _ _ b1 h1 e w (by omega)
                  simp only [Op.eqFields, if_pos hc.1, Sem.run_bind, hpu, hpv, Result.andThen, heq]
                  cases b1
                  · simp
                  · simp only [Bool.not_true, Bool.false_eq_true, if_false, Bool.true_and]
                    exact ihl _ _ _ hr h2
                · simp at hg
              · simp at hg
            · simp at hg
        exact key fs.toList 0 fl b h (by simpa using hE)
    · simp at h

theorem run_eqs {t : TypeId} {fl : List Fl} {fs : Array Field} {x y : Operand} {u v : Array Value} {b neg : Bool} {w : World} (hu : P.underlying t = some (.struct fs)) (hf : flatF P 20 t = some fl) (hg : ¬ P.eqGuardType P.depth t = true) (h : EqC fl u.toList v.toList b) :
    (do eqGuard (if neg then .neq else .eql) t x y (.agg u) (.agg v); binOp (if neg then .neq else .eql) t (.agg u) (.agg v) : Sem Value).run P w = .ok (.bool (b != neg)) w := by
  have hA : isAggT P t = some true := by simp [isAggT, hu]
  have := run_flat 20 t fl hf true hA u.toList v.toList b h 10000 w (by omega)
  simp only [asVal, if_true, Array.toArray_toList] at this
  rw [Sem.run_bind, run_eqGuard_agg w _ t x y u v (by simpa using hg)]
  cases neg
  · simp only [Bool.false_eq_true, if_false, Result.andThen, run_eql_struct, this]; simp
  · simp only [if_true, Result.andThen, run_neq_struct, this]; simp

theorem run_scalEq {sc : Sc} {t : TypeId} {d : TypeDesc} {u v : Value} {b : Bool} {w : World} (n : Nat) (hu : P.underlying t = some d) (hd : scalT d = some sc) (h : scalEq sc u v = some b) :
    (Op.equalIn (n + 1) t u v).run P w = .ok b w := by
  unfold scalEq at h
  split at h <;> (try (split at h <;> (try split at h))) <;> simp only [Option.some.injEq, reduceCtorEq] at h <;> subst h <;> cases d <;> simp only [scalT, Option.some.injEq, reduceCtorEq] at hd <;>
    simp only [Op.equalIn, Sem.run_bind, run_underlying hu, Result.andThen] <;> first | rfl | (simp; done) | (simp [beq_toListBytes]; done) | (cases ‹Option Addr› <;> rfl) | (cases ‹Option Nat› <;> rfl) | (cases ‹Option Addr› <;> cases ‹Option Addr› <;> rfl) | (cases ‹Option Nat› <;> cases ‹Option Nat› <;> rfl)

theorem run_scal {op : BinOp} {sc : Sc} {t : TypeId} {d : TypeDesc} {x y : Operand} {u v : Value} {b : Bool} {w : World} (hu : P.underlying t = some d) (hd : scalT d = some sc) (ho : op = .eql ∨ op = .neq) (h : scalEq sc u v = some b) :
    (do eqGuard op t x y u v; binOp op t u v : Sem Value).run P w = .ok (.bool (b != (op == .neq))) w := by
  have he := run_scalEq (P := P) (w := w) 9999 hu hd h
  have e2 : Op.equal t u v = Op.equalIn (9999 + 1) t u v := rfl
  unfold scalEq at h
  split at h <;> (try (split at h <;> (try split at h))) <;> simp only [Option.some.injEq, reduceCtorEq] at h <;> subst h <;> rcases ho with rfl | rfl <;>
    simp only [eqGuard, binOp, Op.stringOp, Sem.run_bind, Result.andThen, Sem.run_pure, e2, he] <;> first | rfl | (simp [Sem.run_bind, Result.andThen, e2, he]; done) | (simp [Sem.run_bind, Result.andThen, e2, he, show (BinOp.eql == BinOp.neq) = false from rfl]; done)

theorem run_intBin {op : BinOp} {k k' : IntKind} {n m : Int} {r : Value} {t : TypeId} {x y : Operand} {w : World} (hkk : isShift op = true ∨ k = k') (h : intBin op k n m = some r) :
    (do eqGuard op t x y (.int k n) (.int k' m); binOp op t (.int k n) (.int k' m) : Sem Value).run P w = .ok r w := by
  have hg : (eqGuard op t x y (.int k n) (.int k' m)).run P w = .ok () w := by
    cases op <;> simp [eqGuard]
  rw [Sem.run_bind, hg]
  simp only [Result.andThen]
  cases op <;> simp only [isShift, Bool.false_eq_true, false_or, true_or] at hkk <;> (try subst hkk) <;>
    simp [intBin] at h <;>
    (try (obtain ⟨h0, h⟩ := h)) <;> (try subst h) <;>
    simp_all [binOp, Op.intArith, Op.intDiv, Op.intBits, Op.intCmp, Op.shift] <;> (try rfl) <;> (intro hlt; omega)

set_option maxHeartbeats 1000000 in
theorem K_sound {o : Oper} {k : Kd} {a : Act} {ρ : Env} {N : Nat} {w : World} {Kt : Value → Heap → Prop} 
    (hk : cleanK P o = some k) (ha : Agrees a ρ N) (hs : k.sem P ρ w.heap Kt) : RunOk P (execOp a.eval o) w Kt := by
  obtain ⟨dst, op, type, pos, after, guard⟩ := o
  have raw : ∀ o' : Oper, o'.dst = dst → (Kd.raw o').sem P ρ w.heap Kt → RunOk P (execOp a.eval o') w Kt := by
    intro o' hd h
    obtain ⟨v, w', hr, hkp, hK⟩ := h a w N ha rfl
    exact .value hr hkp hK
  cases op <;> simp only [cleanK] at hk
  case move x =>
    cases hk
    obtain ⟨v, hv, hK⟩ := hs
    exact RunOk.same (by simp [execOp, ha.ev hv]) hK
  case assign x =>
    cases hk
    obtain ⟨v, hv, hK⟩ := hs
    exact RunOk.same (by simp [execOp, ha.ev hv]) hK
  case pick c x y =>
    cases hk
    obtain ⟨t, v, hc, hv, hK⟩ := hs
    refine RunOk.same (v := v) ?_ hK
    cases t
    · simp at hv; simp [execOp, ha.ev hc, ha.ev hv, asBool]
    · simp at hv; simp [execOp, ha.ev hc, ha.ev hv, asBool]
  case alloc T =>
    simp only [Option.bind_eq_some_iff, Option.map_eq_some_iff] at hk
    obtain ⟨i, hi, z, hz, rfl⟩ := hk
    refine RunOk.value (w' := { w with heap := w.heap.push (.cells z.cells T) }) (run_v ?_) (Keeps.cells _ _ _) hs
    simp [Instr.alloc, Sem.run_bind, run_zeroValue hi hz, Result.andThen, newVar, run_newRow]
  case box T x =>
    cases hk
    obtain ⟨v, hv, hK⟩ := hs
    refine RunOk.value (w' := { w with heap := w.heap.push (.cells v.cells T) }) (run_v ?_) (Keeps.cells _ _ _) hK
    simp [Instr.box, Sem.run_bind, Result.andThen, newVar, run_newRow, ha.ev hv]
  case load t x =>
    split at hk
    · rename_i i hA hi
      cases hk
      obtain ⟨ad, vs, hx, hc, hK⟩ := hs
      refine RunOk.same (run_v ?_) hK
      simp [Instr.loadAt, Sem.run_bind, ha.ev hx, Instr.sureAddr, Result.andThen, run_loadVar hA hi hc]
    · rename_i hA hi
      cases hk
      obtain ⟨ad, v, hx, hc, hK⟩ := hs
      refine RunOk.same (run_v ?_) hK
      simp [Instr.loadAt, Sem.run_bind, ha.ev hx, Instr.sureAddr, Result.andThen, run_loadVar1 hA hc]
    · simp at hk
  case store t x y =>
    simp only [Option.map_eq_some_iff] at hk
    obtain ⟨i, hi, rfl⟩ := hk
    obtain ⟨ad, v, h', hx, hy, hsz, hst, hK⟩ := hs
    refine RunOk.skip (w' := { w with heap := h' }) (run_u ?_) (Keeps.store hst) hK
    simp [Instr.storeAt, Sem.run_bind, ha.ev hx, Instr.sureAddr, Result.andThen, ha.ev hy, run_storeVar hi hsz hst]
  case nilCheck x =>
    cases hk
    obtain ⟨v, hv, hm, hK⟩ := hs
    refine RunOk.same ?_ hK
    simp only [execOp, ha.ev hv]
    split at hm
    · simp
    · simp
    · exact hm.elim
  case binOp op t x y u =>
    split at hk
    · split at hk
      · cases hk
        obtain ⟨k, n, k', m, r, hx, hy, hkk, hr, hK⟩ := hs
        refine RunOk.same (run_v ?_) hK
        simp only [ha.ev hx, ha.ev hy]
        exact run_intBin hkk hr
      · have gen : k = .bin op t x y → RunOk P (execOp a.eval { dst := dst, op := Op.binOp op t x y u, type := type, pos := pos, after := after, guard := guard }) w Kt := by
          intro hk
          subst hk
          obtain ⟨p, q, r, hx, hy, hr, hK⟩ := hs
          refine RunOk.same (run_v ?_) hK
          simp only [ha.ev hx, ha.ev hy]
          exact hr w rfl
        split at hk
        · rename_i sc hsc
          cases hk
          obtain ⟨p, q, bb, hx, hy, hE, hK⟩ := hs
          refine RunOk.same (run_v ?_) hK
          simp only [ha.ev hx, ha.ev hy]
          exact run_scal (op := .eql) (by assumption) hsc (.inl rfl) hE
        · rename_i sc hsc
          cases hk
          obtain ⟨p, q, bb, hx, hy, hE, hK⟩ := hs
          refine RunOk.same (run_v ?_) hK
          simp only [ha.ev hx, ha.ev hy]
          exact run_scal (op := .neq) (by assumption) hsc (.inr rfl) hE
        split at hk
        · rename_i hd
          split at hk
          · rename_i fl hfl
            split at hk
            · simp at hk
            · rename_i hg
              cases hk
              obtain ⟨p, q, b, hx, hy, hE, hK⟩ := hs
              refine RunOk.same (run_v ?_) hK
              simp only [ha.ev hx, ha.ev hy]
              exact run_eqs (neg := false) (by assumption) hfl hg hE
          · cases hk; exact gen rfl
        · rename_i hd
          split at hk
          · rename_i fl hfl
            split at hk
            · simp at hk
            · rename_i hg
              cases hk
              obtain ⟨p, q, b, hx, hy, hE, hK⟩ := hs
              refine RunOk.same (run_v ?_) hK
              simp only [ha.ev hx, ha.ev hy]
              exact run_eqs (neg := true) (by assumption) hfl hg hE
          · cases hk; exact gen rfl
        · cases hk; exact gen rfl
    · simp at hk
  case unOp op t x =>
    cases hk
    obtain ⟨u, r, hx, hr, hK⟩ := hs
    refine RunOk.same (run_v ?_) hK
    rw [ha.ev hx]; exact hr w
  case convert s d x =>
    split at hk
    · rename_i ds kk h1 h2
      cases hk
      obtain ⟨k', n, hx, hK⟩ := hs
      refine RunOk.same (run_v ?_) hK
      rw [ha.ev hx]
      exact run_convInt (k := 0) (k' := 0) h1 h2
    · cases hk; exact raw _ rfl hs
  case fieldAddr s x f =>
    split at hk
    · rename_i fs hu
      split at hk
      · rename_i fd hf
        split at hk
        · rename_i i hi
          split at hk
          · simp at hk
          · rename_i h0
            cases hk
            obtain ⟨ad, hx, hK⟩ := hs
            refine RunOk.same (run_v ?_) hK
            rw [ha.ev hx]
            exact run_fieldAt hu hf hi h0
        · simp at hk
      · simp at hk
    · simp at hk
  case field s x f =>
    split at hk
    · rename_i fs hu
      split at hk
      · rename_i fd hf
        split at hk
        · rename_i b i hA hi
          cases hk
          obtain ⟨cs, v, hx, hv, hK⟩ := hs
          refine RunOk.same (run_v ?_) hK
          rw [ha.ev hx]
          exact run_field hu hf hA hi hv
        · simp at hk
      · simp at hk
    · simp at hk
  case indexAddr t x y =>
    split at hk
    · rename_i e hu
      simp only [Option.map_eq_some_iff] at hk
      obtain ⟨i, hi, rfl⟩ := hk
      obtain ⟨ad, len, cap, k, n, hx, hy, h0, h1, hK⟩ := hs
      refine RunOk.same (run_v ?_) hK
      rw [ha.ev hx, ha.ev hy]
      exact run_indexAt hu hi h0 h1
    · rename_i len e hu
      simp only [Option.map_eq_some_iff] at hk
      obtain ⟨i, hi, rfl⟩ := hk
      obtain ⟨ad, k, n, hx, hy, h0, h1, hK⟩ := hs
      refine RunOk.same (run_v ?_) hK
      rw [ha.ev hx, ha.ev hy]
      exact run_indexAtA hu hi h0 h1
    · simp at hk
  case slice t x lo hi mx =>
    split at hk
    · rename_i e hu
      simp only [Option.map_eq_some_iff] at hk
      obtain ⟨i, hI, rfl⟩ := hk
      obtain ⟨b, len, cap, l, u, m, hx, hm, hmc, hmh, hh, hum, hl, hlu, hK⟩ := hs
      refine RunOk.same (run_v ?_) hK
      exact run_slice ha hu hI hx hm hmc hmh hh hum hl hlu
    · rename_i hu
      by_cases hmx : mx.isNone = true
      · rw [if_pos hmx] at hk
        cases hk
        have hmx' : mx = none := by simpa using hmx
        subst hmx'
        obtain ⟨s, l, u, hx, hh, hus, hl, hlu, hK⟩ := hs
        refine RunOk.same (run_v ?_) hK
        exact run_sls ha hu hx hh hus hl hlu
      · rw [if_neg hmx] at hk; cases hk; exact raw _ rfl hs
    · cases hk; exact raw _ rfl hs
  case index t x i =>
    split at hk
    · rename_i hu
      cases hk
      obtain ⟨s, kk, n, b, hx, hi, h0, hb, hK⟩ := hs
      refine RunOk.same (run_v ?_) hK
      rw [ha.ev hx, ha.ev hi]
      simp [Instr.index, asIntOf, Sem.run_bind, Result.andThen, run_underlying hu, h0, hb]
    · cases hk; exact raw _ rfl hs
  case lookup t x i ok =>
    split at hk
    · rename_i kt et hu
      split at hk
      · rename_i z hz
        cases hk
        obtain ⟨m, key, es, r, hx, hi, hm, hkey, hK⟩ := hs
        refine RunOk.same (run_v ?_) hK
        rw [ha.ev hx, ha.ev hi]
        exact run_lookup hu hz hm hkey
      · cases hk; exact raw _ rfl hs
    · cases hk; exact raw _ rfl hs
  case mapUpdate t m k v =>
    split at hk
    · rename_i kt et hu
      cases hk
      obtain ⟨b, es, c, key, val, r, hm, hkk, hv, hb, hkey, hK⟩ := hs
      refine RunOk.skip (w' := { w with heap := w.heap.setIfInBounds b (mapPut es c key val r) }) (run_u ?_) (keeps_put hb) hK
      rw [ha.ev hm, ha.ev hkk, ha.ev hv]
      exact run_mapUpdate hu hb hkey
    · cases hk; exact raw _ rfl hs
  case insert t m k v =>
    split at hk
    · rename_i kt et hu
      cases hk
      obtain ⟨b, es, c, key, val, r, hm, hkk, hv, hb, hkey, hK⟩ := hs
      refine RunOk.skip (w' := { w with heap := w.heap.setIfInBounds b (mapPut es c key val r) }) (run_u ?_) (keeps_put hb) hK
      rw [ha.ev hm, ha.ev hkk, ha.ev hv]
      exact run_mapUpdate hu hb hkey
    · cases hk; exact raw _ rfl hs
  case mapEntry t m k =>
    split at hk
    · rename_i kt et hu
      split at hk
      · rename_i z hz
        cases hk
        obtain ⟨b, es, c, key, r, hm, hkk, hb, hkey, hK⟩ := hs
        refine RunOk.value (w' := { w with heap := w.heap.setIfInBounds b (entPut es c key z r) }) (run_v ?_) (keeps_ent hb) hK
        rw [ha.ev hm, ha.ev hkk]
        exact run_mapEntry hu hz hb hkey
      · cases hk; exact raw _ rfl hs
    · cases hk; exact raw _ rfl hs
  case entryStore t m s v =>
    cases hk
    obtain ⟨b, es, c, kk, born, val, i, hm, hss, hv, hb, hi, hK⟩ := hs
    refine RunOk.skip (w' := { w with heap := w.heap.setIfInBounds b (.map (es.modify i fun e => { e with val := val }) c) }) (run_u ?_) (Keeps.map hb) hK
    rw [ha.ev hm, ha.ev hss, ha.ev hv]
    exact run_entryStore hb hi
  case makeMap t res =>
    cases res with
    | none =>
      cases hk
      refine RunOk.value (w' := { w with heap := w.heap.push (.map #[] 0) }) (run_v ?_) (Keeps.push _ _ (by simp)) hs
      simp [Instr.makeMap, Sem.run_bind, Result.andThen, run_newO]
    | some _ => cases hk; exact raw _ rfl hs
  case range t x =>
    split at hk
    · rename_i kt et hu
      cases hk
      obtain ⟨b, es, c, hx, hb, hK⟩ := hs
      refine RunOk.value (w' := { w with heap := w.heap.push (.mapIter (some b) c #[] c) }) (run_v ?_) (Keeps.push _ _ (by simp)) hK
      rw [ha.ev hx]
      exact run_range hu hb
    · cases hk; exact raw _ rfl hs
  case next it isS =>
    cases isS with
    | false =>
      cases hk
      obtain ⟨r, m, since, seen, last, es, c, hx, hr, hm, hg, h1, h2⟩ := hs
      obtain ⟨v, w', hrun, hkp, hK⟩ := run_next (ty := type) hr hm hg h1 h2
      refine RunOk.value (w' := w') (v := v) (run_v ?_) hkp hK
      rw [ha.ev hx]; exact hrun
    | true => cases hk; exact raw _ rfl hs
  case entry it =>
    cases hk
    obtain ⟨r, m, since, seen, last, es, c, stamp, e, hx, hr, hst, hm, hc, he, hK⟩ := hs
    refine RunOk.same (run_v ?_) hK
    rw [ha.ev hx]
    exact run_entry hr hst hm hc he
  case makeSlice t l c =>
    split at hk
    · rename_i e hu
      split at hk
      · rename_i i hi
        split at hk
        · rename_i z hz
          by_cases hsz : z.cells.size = i.size
          · rw [if_pos hsz] at hk
            cases hk
            obtain ⟨n, m, hl, hc, hnm, hb, hm, hK⟩ := hs
            refine RunOk.value (w' := { w with heap := w.heap.push (.cells (Builtin.zeroCells z.cells m) e) }) (run_v ?_) (Keeps.cells _ _ _) hK
            rw [ha.ev hl, ha.ev hc]
            exact run_makeSlice hu hi hz hsz hnm hb hm
          · rw [if_neg hsz] at hk; cases hk; exact raw _ rfl hs
        · cases hk; exact raw _ rfl hs
      · cases hk; exact raw _ rfl hs
    · cases hk; exact raw _ rfl hs
  case extract x i =>
    cases hk
    obtain ⟨vs, v, hx, hv, hK⟩ := hs
    refine RunOk.same (run_v ?_) hK
    simp [ha.ev hx, Instr.extract, hv]
  case makeInterface t x =>
    split at hk
    · simp at hk
    · rename_i d hd hu
      cases hk
      obtain ⟨v, hx, hK⟩ := hs
      refine RunOk.same (run_v ?_) hK
      rw [ha.ev hx]
      exact run_mkI hu (fun ms hms => hd ms hms)
    · simp at hk
  case makeFunc fn first captured =>
    split at hk
    · rename_i f
      split at hk
      · rename_i h0
        cases hk
        obtain ⟨vs, hvs, hK⟩ := hs
        refine RunOk.same (run_v ?_) hK
        have e1 : first = #[] := Array.eq_empty_of_size_eq_zero h0
        have e2 : captured.map a.eval = vs.toArray := by rw [← Array.toList_inj]; simpa using ha.evs hvs
        simp [e1, Instr.makeFunc, e2]
      · simp at hk
    · simp at hk
  case build t parts =>
    have main : ∀ {place : Nat → Option (Nat × Nat)} {z : Value} {src : List Src}, buildSrc place (z.cells.toList.map .z) parts.toList = some src →
        k = .agg src → (∀ cells, Instr.fill place z.cells (parts.map fun (i, x) => (i, a.eval x)).toList = some cells → P.built t (parts.map fun (i, x) => (i, a.eval x)).toList = some cells) →
        RunOk P (execOp a.eval { dst := dst, op := Op.build t parts, type := type, pos := pos, after := after, guard := guard }) w Kt := by
      intro place z src hb hk hcells
      subst hk
      obtain ⟨cs, hcs, hK⟩ := hs
      obtain ⟨e1, e2⟩ := Cells.spec ha hcs
      have hf := fill_src (a := a) hb e2
      rw [map_z, Array.toArray_toList, ← e1] at hf
      refine RunOk.same (run_v ?_) hK
      exact run_build w t _ _ (hcells _ (by rw [← hf]; congr 1; simp))
    split at hk
    · rename_i it fs hit hu
      split at hk
      · rename_i z ss hz hp
        simp only [Option.map_eq_some_iff] at hk
        obtain ⟨src, hb, hk⟩ := hk
        exact main hb hk.symm (fun cells h => by simp only [Program.built, hit, hu, hz, hp]; exact h)
      · simp at hk
    · rename_i it l e hit hu
      split at hk
      · rename_i z i hz hi
        simp only [Option.map_eq_some_iff] at hk
        obtain ⟨src, hb, hk⟩ := hk
        exact main hb hk.symm (fun cells h => by simp only [Program.built, hit, hu, hz, hi]; exact h)
      · simp at hk
    · simp at hk
  case buildSlice t len parts =>
    split at hk
    · rename_i e hu
      split at hk
      · rename_i i hi
        split at hk
        · rename_i z hz
          split at hk
          · rename_i hlim
            simp only [Option.map_eq_some_iff] at hk
            obtain ⟨src, hb, rfl⟩ := hk
            obtain ⟨cs, hcs, hK⟩ := hs
            obtain ⟨e1, e2⟩ := Cells.spec ha hcs
            have hf := fill_src (a := a) hb e2
            rw [map_z, Array.toArray_toList, ← e1] at hf
            refine RunOk.value (w' := { w with heap := w.heap.push (.cells cs.toArray e) }) (run_v ?_) (Keeps.cells _ _ _) hK
            have hf' : Instr.fill (fun j => some (j * i.size, i.size)) ((Array.range (len * i.size)).map fun j => z.cells[j % z.cells.size]!) (parts.map fun (i, x) => (i, a.eval x)).toList = some cs.toArray := by
              rw [← hf]; congr 1; simp
            by_cases h0 : len * i.size = 0
            · have hf0 : Instr.fill (fun j => some (j * i.size, i.size)) #[] (parts.map fun (i, x) => (i, a.eval x)).toList = some cs.toArray := by
                rw [h0, show Array.range 0 = #[] from rfl, Array.map_empty] at hf'; exact hf'
              simp only [Instr.buildSlice, Sem.run_bind, run_underlying hu, Result.andThen, run_sizeOf hi, h0, if_true, show ¬ (0 > 2 ^ 24) by omega, if_false, Sem.run_pure,
                show Array.range 0 = #[] from rfl, Array.map_empty, hf0, run_newRow]
            · simp only [Instr.buildSlice, Sem.run_bind, run_underlying hu, Result.andThen, run_sizeOf hi]
              rw [if_neg (by omega)]
              simp only [if_neg h0, Sem.run_bind, run_zeroValue hi hz, Result.andThen, Sem.run_pure, hf', run_newRow]
          · simp at hk
        · simp at hk
      · simp at hk
    · simp at hk
  case call c =>
    obtain ⟨callee, args, argTypes⟩ := c
    simp only [cleanCall] at hk
    split at hk
    · rename_i f
      cases hk
      obtain ⟨fid, cap, vs, hf, hvs, hok, hC⟩ := hs
      have e2 : args.map a.eval = vs.toArray := by rw [← Array.toList_inj]; simpa using ha.evs hvs
      simp only [RunOk, execOp, resolve, ha.ev hf, e2, Deferred.ofValue, Sem.run_bind, Sem.run_pure, Result.andThen, invoke, Array.empty_append, run_callFunc hok]
      exact ⟨trivial, hC w rfl⟩
    · rename_i b
      split at hk
      · rename_i x t h1 h2
        have e1 : args = #[x] := by rw [← Array.toList_inj]; exact h1
        have e2 : argTypes = #[t] := by rw [← Array.toList_inj]; exact h2
        subst e1 e2
        split at hk
        · rename_i e hu
          cases hk
          obtain ⟨b, n, c, hx, hK⟩ := hs
          refine RunOk.same ?_ hK
          simp [execOp, resolve, Sem.run_bind, Result.andThen, invoke, builtin, ha.ev hx, Builtin.len_, run_underlying hu, goInt]
        · rename_i hu
          cases hk
          obtain ⟨s, hx, hK⟩ := hs
          refine RunOk.same ?_ hK
          simp [execOp, resolve, Sem.run_bind, Result.andThen, invoke, builtin, ha.ev hx, Builtin.len_, run_underlying hu, goInt]
        · rename_i kt et hu
          cases hk
          obtain ⟨r, hx, hK⟩ := hs
          cases r with
          | none =>
            refine RunOk.same (v := .int .i64 0) ?_ hK
            simp [execOp, resolve, Sem.run_bind, Result.andThen, invoke, builtin, ha.ev hx, Builtin.len_, run_underlying hu, goInt]
          | some r =>
            obtain ⟨es, c, hh, hK⟩ := hK
            refine RunOk.same (v := .int .i64 es.size) ?_ hK
            have hg : (getObj r).run P w = .ok (.map es c) w := by simp [getObj, Sem.run, hh]
            simp [execOp, resolve, Sem.run_bind, Result.andThen, invoke, builtin, ha.ev hx, Builtin.len_, run_underlying hu, goInt, hg]
        · cases hk; exact raw _ rfl hs
      · rename_i x y t u h1 h2
        have e1 : args = #[x, y] := by rw [← Array.toList_inj]; exact h1
        have e2 : argTypes = #[t, u] := by rw [← Array.toList_inj]; exact h2
        subst e1 e2
        split at hk
        · rename_i e d ht hu
          split at hk
          · cases hk; exact raw _ rfl hs
          · rename_i hd
            split at hk
            · rename_i i hi
              split at hk
              · rename_i z hz
                split at hk
                rotate_left
                · simp at hk
                cases hk
                obtain ⟨b, n, c, v, m, hx, hy, hm, hb, hb0, hs⟩ := hs
                obtain ⟨r, w', hr, hkp, hK⟩ := run_append (ty := type) ht hu (by intro k hk; subst hk; simp [isIntT] at hd) hi hz hm hb hb0 hs
                refine RunOk.value ?_ hkp hK
                simp only [execOp, resolve, Sem.run_bind, Sem.run_pure, Result.andThen, invoke, builtin, List.map_toArray, List.map_cons, List.map_nil, ha.ev hx, ha.ev hy, hr]
              · simp at hk
            · simp at hk
        · cases hk; exact raw _ rfl hs
      · rename_i x t h1 h2
        have e1 : args = #[x] := by rw [← Array.toList_inj]; exact h1
        have e2 : argTypes = #[t] := by rw [← Array.toList_inj]; exact h2
        subst e1 e2
        split at hk
        · rename_i e hu
          cases hk
          obtain ⟨b, n, c, hx, hK⟩ := hs
          refine RunOk.same ?_ hK
          simp [execOp, resolve, Sem.run_bind, Result.andThen, invoke, builtin, ha.ev hx, Builtin.cap_, run_underlying hu, goInt]
        · cases hk; exact raw _ rfl hs
      · rename_i x y h1
        have e1 : args = #[x, y] := by rw [← Array.toList_inj]; exact h1
        subst e1
        cases hk
        obtain ⟨k, n, k', m, hx, hy, hK⟩ := hs
        refine RunOk.same ?_ hK
        simp [execOp, resolve, Sem.run_bind, Result.andThen, invoke, builtin, ha.ev hx, ha.ev hy, Builtin.min_, Builtin.min2]
      · rename_i x y h1
        have e1 : args = #[x, y] := by rw [← Array.toList_inj]; exact h1
        subst e1
        cases hk
        obtain ⟨k, n, k', m, hx, hy, hK⟩ := hs
        refine RunOk.same ?_ hK
        simp [execOp, resolve, Sem.run_bind, Result.andThen, invoke, builtin, ha.ev hx, ha.ev hy, Builtin.max_, Builtin.max2]
      · rename_i m k t tl h1 h2
        have e1 : args = #[m, k] := by rw [← Array.toList_inj]; exact h1
        have e2 : argTypes = (t :: tl).toArray := by rw [← Array.toList_inj]; simpa using h2
        subst e1 e2
        split at hk
        · rename_i kt et hu
          cases hk
          obtain ⟨b, es, c, key, r, hm, hkk, hb, hkey, hK⟩ := hs
          refine RunOk.value (w' := { w with heap := w.heap.setIfInBounds b (mapDel es c r) }) ?_ (keeps_del hb) hK
          have := run_delete (ty := type) (ts := tl) hu hb hkey
          simp only [execOp, resolve, Sem.run_bind, Sem.run_pure, Result.andThen, invoke, builtin, List.map_toArray, List.map_cons, List.map_nil, ha.ev hm, ha.ev hkk, this]
        · cases hk; exact raw _ rfl hs
      · rename_i x t h1 h2
        have e1 : args = #[x] := by rw [← Array.toList_inj]; exact h1
        have e2 : argTypes = #[t] := by rw [← Array.toList_inj]; exact h2
        subst e1 e2
        split at hk
        · rename_i e hu
          split at hk
          · rename_i z hz
            cases hk
            obtain ⟨b, n, c, h', hx, hst, hK⟩ := hs
            obtain ⟨hkp, hrun⟩ := run_clear (ty := type) (c := c) hu hz hst
            refine RunOk.value (w' := { w with heap := h' }) ?_ hkp hK
            simp only [execOp, resolve, Sem.run_bind, Sem.run_pure, Result.andThen, invoke, builtin, List.map_toArray, List.map_cons, List.map_nil, ha.ev hx, hrun]
          · cases hk; exact raw _ rfl hs
        · cases hk; exact raw _ rfl hs
      · rename_i x y t tl h1 h2
        have e1 : args = #[x, y] := by rw [← Array.toList_inj]; exact h1
        have e2 : argTypes = (t :: tl).toArray := by rw [← Array.toList_inj]; simpa using h2
        subst e1 e2
        split at hk
        · rename_i e hu
          split at hk
          · rename_i i hi
            cases hk
            obtain ⟨b, n, c, v, m, vs, h', hx, hy, hm, hf, hst, hK⟩ := hs
            have hrun := run_copy (ty := type) (ts := tl) (c := c) hu hi hm hf hst
            refine RunOk.value (w' := { w with heap := h' }) ?_ (Keeps.storeAt hst) hK
            simp only [execOp, resolve, Sem.run_bind, Sem.run_pure, Result.andThen, invoke, builtin, List.map_toArray, List.map_cons, List.map_nil, ha.ev hx, ha.ev hy, hrun]
          · cases hk; exact raw _ rfl hs
        · cases hk; exact raw _ rfl hs
      · cases hk; exact raw _ rfl hs
    · cases hk; exact raw _ rfl hs
  all_goals first | (cases hk; exact raw _ rfl hs) | (simp at hk; done)

end
end Go.SL
