/- The walk's own words, part U: an entry of a map that is looked through; an entry that is assigned to. Conditions: none. -/
import Derived.Test.YtgcmglieciaifaaSlQ
set_option linter.unusedSimpArgs false
set_option linter.unusedVariables false
namespace Go.SL
open Go

section
variable {P : Program} {ρ : Env} {cs r : List Assn} {t : Tr} {K : Env → List Assn → Prop} {κ β : Type} [DecidableEq κ] {ke : κ → Value} {ve : β → Value}

theorem JT.ent {d : Nat} {x : Operand} {it b c i : Nat} {es : Array MapEntry} {m : List (κ × β)} {done : List Nat} {r1 : List Assn} (hx : ρ.ev x = some (ptr it)) (hi : Has cs (It it b c es (done ++ [i])) r) (hh : Has r (Me b es c ke ve m) r1)
    (hlt : i < m.length) (h : JT P t ((d, .tuple [ke (m[i]).1, ve (m[i]).2].toArray) :: ρ) cs K) : JT P (.st ⟨some d, .ent x, none⟩ t) ρ cs K := ⟨by
  intro w hs
  obtain ⟨hb, hm⟩ := (hs.imp (Imp.trans hi Imp.drop)).me hh
  have hsz := hm.size
  have hv := hm.val i
  obtain ⟨e1, e2, e3⟩ := hm
  obtain ⟨S, H, _, hH, hc⟩ := hs.mem hi
  obtain ⟨hit, hnd, hl⟩ : H it = some (.mapIter (some b) c ((done ++ [i]).map fun i => (es[i]?.map (·.born)).getD 0).toArray c) ∧ (done ++ [i]).Nodup ∧ ∀ j ∈ done ++ [i], j < es.size := hc
  have hit' := hH _ _ hit
  have his : i < es.size := by omega
  rw [Array.getElem?_eq_getElem his, List.getElem?_eq_getElem hlt] at hv
  simp only [Option.map_some, Option.some.injEq, Prod.mk.injEq] at hv
  simp only [runT, semG, Kd.sem]
  refine ⟨it, b, c, _, c, es, c, es[i].born, es[i], hx, hit', ?_, hb, rfl, ?_, ?_⟩
  · simp [his]
  · rw [← Array.find?_toList, List.find?_eq_some_iff_getElem]
    refine ⟨by simp, i, by simpa using his, by simp, fun j hj => ?_⟩
    have key := (List.getElem_inj (i := j) (j := i) (h₀ := by simp; omega) (h₁ := by simpa using his) e3).1
    simp only [List.getElem_map, Array.getElem_toList] at key
    simp only [Array.getElem_toList, Bool.not_eq_true', beq_eq_false_iff_ne, ne_eq]
    intro he
    have := key he; omega
  · rw [hv.1, hv.2]
    exact h.run _ hs⟩

theorem mapOk.ens {es : Array MapEntry} {c : Nat} {m : List (κ × β)} (hm : mapOk es c (m.map fun x => (ke x.1, ve x.2))) (k : κ) (v zero : Value) :
    ∃ es1 c1 v0, ∃ born i : Nat, entPut es c (ke k) zero (found ve m k) = .map es1 c1 ∧ entVal es c zero (found ve m k) = .tuple #[v0, .int .i64 born] ∧ es1.findIdx? (fun e => (e.born : Int) == (born : Int)) = some i ∧
      Obj.map (es1.modify i fun e => { e with val := v }) c1 = mapPut es c (ke k) v (found ve m k) := by
  have hsz := hm.size
  obtain ⟨h1, h2, h3⟩ := hm
  unfold found
  cases h : aix m k with
  | none =>
    refine ⟨_, _, _, c, es.size, rfl, rfl, ?_, ?_⟩
    · rw [Array.findIdx?_eq_some_iff_getElem]
      refine ⟨by simp, by simp, fun j hj => ?_⟩
      have hj' : j < es.size := hj
      have := h2 es[j] (by simp)
      simp [Array.getElem_push, hj']; omega
    · simp only [mapPut, Option.map_none]
      congr 1
      apply Array.ext
      · simp
      · intro j h4 h5
        simp only [Array.size_modify, Array.size_push] at h4
        simp only [Array.getElem_modify, Array.getElem_push]
        split <;> split <;> first | rfl | omega
  | some i =>
    obtain ⟨hlt, _⟩ := aix_some h
    have his : i < es.size := by omega
    refine ⟨_, _, _, es[i].born, i, rfl, by simp only [Option.map_some, entVal]; rw [Array.getElem?_eq_getElem his]; rfl, ?_, ?_⟩
    · rw [Array.findIdx?_eq_some_iff_getElem]
      refine ⟨by simpa using his, by simp [Array.getElem_modify], fun j hj => ?_⟩
      have key := (List.getElem_inj (i := j) (j := i) (h₀ := by simp; omega) (h₁ := by simpa using his) h3).1
      simp only [List.getElem_map, Array.getElem_toList] at key
      have hne : i ≠ j := by omega
      simp only [Array.getElem_modify, hne, if_false, Bool.not_eq_true, beq_eq_false_iff_ne, ne_eq]
      intro he
      have := key (by exact_mod_cast he); omega
    · simp only [mapPut, Option.map_some]
      congr 1
      apply Array.ext
      · simp
      · intro j h4 h5
        simp only [Array.getElem_modify]
        split <;> rfl

/-- An entry that is assigned to through its place: as if it were put. -/
theorem JT.mpes {b d d2 : Nat} {kt : TypeId} {zero : Value} {mo k v : Operand} {m : List (κ × β)} {kk : κ} {vv : β} (hx : ρ.ev mo = some (.map (some b))) (hi : ρ.ev k = some (ke kk)) (hx2 : ∀ x y, Env.ev ((d2, y) :: (d, x) :: ρ) mo = some (.map (some b)))
    (hv : ∀ x y, Env.ev ((d2, y) :: (d, x) :: ρ) v = some (ve vv)) (hd : (d = d2) = False) (hh : Has cs (Mt b ke ve m) r) (hk : KeyOk P kt ke) (h : ∀ x y, JT P t ((d2, y) :: (d, x) :: ρ) (Mt b ke ve (aput m kk vv) :: r) K) :
    JT P (.st ⟨some d, .mpe kt zero mo k, none⟩ (.st ⟨some d2, .ext (.tmp d) 1, none⟩ (.st ⟨none, .ens mo (.tmp d2) v, none⟩ t))) ρ cs K := ⟨by
  intro w hs
  obtain ⟨es, c, hs', hm⟩ := (hs.imp hh).mtPt
  obtain ⟨es', c', e1, e2⟩ := hm.put kk vv
  obtain ⟨es1, c1, v0, born, i, f1, f2, f3, f4⟩ := hm.ens kk (ve vv) zero
  have hg := hs'.get
  have hlt := (Array.getElem?_eq_some_iff.1 hg).1
  simp only [runT, semG, Kd.sem]
  refine ⟨b, es, c, _, _, hx, hi, hg, hk.at_ hm kk, ?_⟩
  rw [f1, f2]
  refine ⟨#[v0, .int .i64 born], .int .i64 born, ?_, rfl, ?_⟩
  · simp [Env.ev, Env.put, Env.lk]
  refine ⟨b, es1, c1, .i64, (born : Int), _, i, hx2 _ _, ?_, hv _ _, Array.getElem?_setIfInBounds_self_of_lt hlt, f3, ?_⟩
  · simp [Env.ev, Env.put, Env.lk]
  refine (h _ _).run _ ?_
  rw [f4, e1, Array.setIfInBounds_setIfInBounds]
  exact (hs'.setM).mtMk e2⟩

theorem zeroCells_list (zero : Array Value) (n : Nat) : (Builtin.zeroCells zero n).toList = (List.replicate n zero.toList).flatten := by
  simp only [Builtin.zeroCells, Array.toList_map, Array.toList_range]
  induction n with
  | zero => simp
  | succ n ih =>
    rw [Nat.succ_mul, List.range_add, List.map_append, ih, List.replicate_succ', List.flatten_append]
    congr 1
    apply List.ext_getElem (by simp)
    intro i h1 h2
    have hi : i < zero.size := by simpa using h1
    have e : (n * zero.size + i) % zero.size = i := by rw [Nat.mul_add_mod_self_right, Nat.mod_eq_of_lt hi]
    simp only [List.map_map, List.getElem_map, List.getElem_range, Function.comp_apply, e]
    simp [hi]

/-- What is cleared of an own slice, through a part of it. -/
theorem JT.clrV {α : Type} {sz c k m : Nat} {zero : Array Value} {x : Operand} {enc : α → List Value} {sv sv' : Value} {xs : List α} {z : α} {dst : Option Nat} {r1 : List Assn} (hx : ρ.ev x = some sv') (hv : Has cs (vw sv' sv k xs.length m sz) r1)
    (hh : Has cs (SlT true enc sz sv c xs) r) (hzero : zero.toList = enc z) (hone : (enc z).all isOne = true) (hlz : (enc z).length = sz)
    (h : JT P t (ρ.put dst (.tuple #[])) (SlT true enc sz sv c (xs.take k ++ List.replicate (xs.length - k) z) :: r) K) : JT P (.st ⟨dst, .clr zero x, none⟩ t) ρ cs K := ⟨by
  intro w hs
  obtain ⟨a, n', c', hsv, hsv', k0, k1, k2, k3⟩ := hs.vw hv
  obtain ⟨hz, h0, hlc, ad, e0, hf⟩ := hs.slice hh
  have hLx := hs.lenF hh
  simp only [runT, semG, Kd.sem]
  rw [e0] at hsv
  obtain ⟨rfl, rfl, rfl⟩ := Value.slice.inj hsv
  refine ⟨if m = k then ad else ad.map (·.add (k * sz)), xs.length - k, m - k, ?_⟩
  by_cases hk : xs.length - k = 0
  · refine ⟨w, by rw [hx, hsv']; rfl, by rw [if_pos hk], h.run _ ?_⟩
    rw [hk, List.take_of_length_le (by omega)]
    simpa using hs.imp hh
  · rcases (hs.imp hh).ownS with ⟨e1, e2, e3⟩ | ⟨b, T, pre, rest, e1, e2, e3, hs'⟩
    · subst e2; simp at hk
    · rw [e0] at e1
      obtain ⟨rfl, _, _⟩ := Value.slice.inj e1
      have hmk : ¬ m = k := by omega
      have lt : ((xs.take k).map enc).flatten.length = k * sz := by
        rw [flat_len (sz := sz)]
        · simp only [List.length_map, List.length_take]; rw [Nat.min_eq_left (by omega)]
        · intro e he
          obtain ⟨y, hy, rfl⟩ := List.mem_map.1 he
          exact (h0 _ (List.mem_map.2 ⟨y, List.mem_of_mem_take hy, rfl⟩)).1
      have ld : ((xs.drop k).map enc).flatten.length = (xs.length - k) * sz := by
        rw [flat_len (sz := sz)]
        · simp only [List.length_map, List.length_drop]
        · intro e he
          obtain ⟨y, hy, rfl⟩ := List.mem_map.1 he
          exact (h0 _ (List.mem_map.2 ⟨y, List.mem_of_mem_drop hy, rfl⟩)).1
      have split : (xs.map enc).flatten = ((xs.take k).map enc).flatten ++ ((xs.drop k).map enc).flatten := by
        rw [← List.flatten_append, ← List.map_append, List.take_append_drop]
      have hus : (Builtin.zeroCells zero (xs.length - k)).toList = ((List.replicate (xs.length - k) z).map enc).flatten := by
        rw [zeroCells_list, hzero, List.map_replicate]
      have lz : ((List.replicate (xs.length - k) z).map enc).flatten.length = (xs.length - k) * sz := by
        rw [flat_len (sz := sz)]
        · simp
        · intro e he
          obtain ⟨y, hy, rfl⟩ := List.mem_map.1 he
          rw [List.eq_of_mem_replicate hy]; exact hlz
      obtain ⟨h', s1, s2, s3⟩ := storeList_cells (b := b) (T := T) (((List.replicate (xs.length - k) z).map enc).flatten) (pre ++ ((xs.map enc).flatten ++ rest)) (pre.length + k * sz) 0 w hs'.get
        (by rw [split]; simp only [List.length_append, lt, ld, lz]; omega) (by
          intro u hu
          obtain ⟨e, he1, he2⟩ := List.mem_flatten.1 hu
          obtain ⟨y, hy, rfl⟩ := List.mem_map.1 he1
          rw [List.eq_of_mem_replicate hy] at he2
          exact List.all_eq_true.1 hone u he2)
      refine ⟨h', by rw [hx, hsv']; rfl, ?_, h.run _ ?_⟩
      · rw [if_neg hk, hus, if_neg hmk]
        simp only [storeAt, Option.map_some, Addr.add_none]
        exact s1
      have hset := hs'.set s2 s3
      have e9 : (xs.take k ++ List.replicate (xs.length - k) z).length = xs.length := by simp; omega
      rw [e0]
      refine hset.mkOwn (pre := pre) (rest := rest) (xs := xs.take k ++ List.replicate (xs.length - k) z) (n := xs.length) (c := c) hz (by rw [e9]; exact hLx) ?_ ?_ e9.symm (by omega) (by rw [e9]; exact e3)
      · intro e hm
        rw [List.map_append] at hm
        rcases List.mem_append.1 hm with hm | hm
        · obtain ⟨y, hy, rfl⟩ := List.mem_map.1 hm
          exact h0 _ (List.mem_map.2 ⟨y, List.mem_of_mem_take hy, rfl⟩)
        · obtain ⟨y, hy, rfl⟩ := List.mem_map.1 hm
          rw [List.eq_of_mem_replicate hy]
          exact ⟨hlz, fun u hu => List.all_eq_true.1 hone u hu⟩
      · rw [split, Nat.add_zero]
        have e5 : pre.length + k * sz = (pre ++ ((xs.take k).map enc).flatten).length := by simp only [List.length_append, lt]
        rw [e5, show pre ++ (((xs.take k).map enc).flatten ++ ((xs.drop k).map enc).flatten ++ rest) = (pre ++ ((xs.take k).map enc).flatten) ++ (((xs.drop k).map enc).flatten ++ rest) by simp [List.append_assoc]]
        rw [lput_app _ _ _ _ (by rw [lz, ld])]
        simp [List.append_assoc]⟩

/-- The first of an own slice's elements, as an own slice. -/
theorem Sat.shrink {α : Type} {h : Heap} {enc : α → List Value} {sz c k : Nat} {a : Option Addr} {xs : List α} {n : Nat} (hs : Sat h (SlT true enc sz (.slice a n c) c xs :: cs)) (hk : k ≤ xs.length) :
    Sat h (SlT true enc sz (.slice a k c) c (xs.take k) :: cs) := by
  obtain ⟨hz, h0, hlc, ad, e0, hf⟩ := hs.slice Has.here
  have hLx := hs.lenF Has.here
  rcases hs.ownS with ⟨e1, e2, e3⟩ | ⟨b, T, pre, rest, e1, e2, e3, hs'⟩
  · subst e2
    obtain rfl : k = 0 := by simpa using hk
    obtain ⟨rfl, rfl, rfl⟩ := Value.slice.inj e1
    simpa using hs
  · obtain ⟨rfl, rfl, _⟩ := Value.slice.inj e1
    have ld : ((xs.drop k).map enc).flatten.length = (xs.length - k) * sz := by
      rw [flat_len (sz := sz)]
      · simp only [List.length_map, List.length_drop]
      · intro e he
        obtain ⟨y, hy, rfl⟩ := List.mem_map.1 he
        exact (h0 _ (List.mem_map.2 ⟨y, List.mem_of_mem_drop hy, rfl⟩)).1
    refine hs'.mkOwn (rest := ((xs.drop k).map enc).flatten ++ rest) hz (by simp; omega) ?_ ?_ (by simp; omega) (by simp; omega) ?_
    · intro e hm
      obtain ⟨y, hy, rfl⟩ := List.mem_map.1 hm
      exact h0 _ (List.mem_map.2 ⟨y, List.mem_of_mem_take hy, rfl⟩)
    · rw [← List.append_assoc ((xs.take k).map enc).flatten, ← List.flatten_append, ← List.map_append, List.take_append_drop]
    · rw [List.length_append, ld, List.length_take, Nat.min_eq_left hk]
      have : c - k = (xs.length - k) + (c - xs.length) := by omega
      rw [this, Nat.add_mul]; omega
end
theorem Mt.fold {κ β : Type} [DecidableEq κ] {b c : Nat} {ke : κ → Value} {ve : β → Value} {es : Array MapEntry} {m : List (κ × β)} {cs r ds : List Assn} (h : Has cs (Me b es c ke ve m) r) (h3 : Imp r ds) : Imp cs (Mt b ke ve m :: ds) := Imp.me h h3
end Go.SL
