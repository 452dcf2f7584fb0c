/- The walk's own words, part Q: maps. Conditions: none. -/
import Derived.Test.YtienlpaehgdpaaaSlP
set_option linter.unusedSimpArgs false
set_option linter.unusedVariables false
set_option linter.unusedSectionVars false
namespace Go.SL
open Go

/-! ### Looking for a key -/

/-- The keys of a kind: how a map's rows are looked through for one. -/
structure KeyOk (P : Program) (kt : TypeId) {κ : Type} [DecidableEq κ] (ke : κ → Value) : Prop where
  chk : ∀ (k : κ) (e : Bool) (w : World), (Instr.checkKey e 10000 kt (ke k)).run P w = .ok () w
  find : ∀ (es : List MapEntry) (ks : List κ) (k : κ) (w : World), es.map (·.key) = ks.map ke → (Instr.findKey kt (ke k) es).run P w = .ok ((ks.findIdx? (fun x => decide (k = x))).map fun i => (i, ((es[i]?).map (·.val)).getD undef)) w
  same : ∀ k : κ, Instr.sameBits 10000 (ke k) (ke k) = true

section
variable {P : Program}

theorem findAsking_ok {kt : TypeId} {κ : Type} [DecidableEq κ] {ke : κ → Value} (heq : ∀ (a b : κ) (w : World), (Op.equal kt (ke a) (ke b)).run P w = .ok (decide (a = b)) w) (k : κ) (w : World) :
    ∀ (es : List MapEntry) (ks : List κ) (i : Nat), es.map (·.key) = ks.map ke →
      (Instr.findAsking kt (ke k) es i).run P w = .ok ((ks.findIdx? (fun x => decide (k = x))).map fun j => (i + j, ((es[j]?).map (·.val)).getD undef)) w
  | [], [], i, _ => by simp [Instr.findAsking]
  | [], _ :: _, i, h => by simp at h
  | _ :: _, [], i, h => by simp at h
  | e :: es, a :: ks, i, h => by
    simp only [List.map_cons, List.cons.injEq] at h
    obtain ⟨h1, h2⟩ := h
    have ih := findAsking_ok heq k w es ks (i + 1) h2
    simp only [Instr.findAsking, Sem.run_bind, h1, heq, Result.andThen, List.findIdx?_cons]
    by_cases hk : k = a
    · subst hk; simp
    · simp only [hk, decide_false, Bool.false_eq_true, if_false, ih]
      congr 1
      cases List.findIdx? (fun x => decide (k = x)) ks <;> simp; omega

theorem findNow_ok {kind : TypeDesc} {κ : Type} [DecidableEq κ] {ke : κ → Value} (heq : ∀ a b : κ, Instr.sameNow kind (ke a) (ke b) = some (decide (a = b))) (k : κ) :
    ∀ (es : List MapEntry) (ks : List κ) (i : Nat), es.map (·.key) = ks.map ke →
      Instr.findNow kind (ke k) es i = some ((ks.findIdx? (fun x => decide (k = x))).map fun j => (i + j, ((es[j]?).map (·.val)).getD undef))
  | [], [], i, _ => by simp [Instr.findNow]
  | [], _ :: _, i, h => by simp at h
  | _ :: _, [], i, h => by simp at h
  | e :: es, a :: ks, i, h => by
    simp only [List.map_cons, List.cons.injEq] at h
    obtain ⟨h1, h2⟩ := h
    have ih := findNow_ok heq k es ks (i + 1) h2
    simp only [Instr.findNow, h1, heq, List.findIdx?_cons]
    by_cases hk : k = a
    · subst hk; simp
    · simp only [hk, decide_false, Bool.false_eq_true, if_false, ih]
      congr 1
      cases List.findIdx? (fun x => decide (k = x)) ks <;> simp; omega

theorem run_check1 {kt : TypeId} {d : TypeDesc} {v : Value} {e : Bool} {n : Nat} {w : World} (hu : P.underlying kt = some d) (hd : match d with | .interface _ | .array _ _ | .struct _ => False | _ => True) :
    (Instr.checkKey e (n + 1) kt v).run P w = .ok () w := by
  cases d <;> simp only [] at hd <;> simp [Instr.checkKey, Sem.run_bind, run_underlying hu, Result.andThen]

theorem KeyOk.int {kt : TypeId} {k' : IntKind} (k : IntKind) (hu : P.underlying kt = some (.int k')) : KeyOk P kt (fun n : Int => .int k n) := by
  refine ⟨fun n e w => run_check1 (n := 9999) hu trivial, fun es ks n w h => ?_, fun n => by simp [Instr.sameBits]⟩
  have hn := findNow_ok (kind := .int k') (ke := fun n : Int => Value.int k n) (fun a b => by simp [Instr.sameNow]; rfl) n es ks 0 h
  simp only [Instr.findKey, Sem.run_bind, run_underlying hu, Result.andThen, hn, Sem.run_pure, Nat.zero_add]

theorem KeyOk.str {kt : TypeId} (hu : P.underlying kt = some .string) : KeyOk P kt (fun s : ByteArray => .string s) := by
  refine ⟨fun n e w => run_check1 (n := 9999) hu trivial, fun es ks n w h => ?_, fun n => by simp [Instr.sameBits, beq_toListBytes]⟩
  have hn := findNow_ok (kind := .string) (ke := fun s : ByteArray => Value.string s) (fun a b => by simp [Instr.sameNow, beq_toListBytes, ByteArray.toList_eq, ByteArray.ext_iff]; rw [Bool.eq_iff_iff]; simp) n es ks 0 h
  simp only [Instr.findKey, Sem.run_bind, run_underlying hu, Result.andThen, hn, Sem.run_pure, Nat.zero_add]

/-- The cells fit the kinds. -/
inductive CellsOf : List Fl → List Value → Prop
  | nil : CellsOf [] []
  | i {k n r u} (h : CellsOf r u) : CellsOf (.i :: r) (.int k n :: u)
  | b {n r u} (h : CellsOf r u) : CellsOf (.b :: r) (.bool n :: u)
  | s {n r u} (h : CellsOf r u) : CellsOf (.s :: r) (.string n :: u)

theorem EqC.left {fl : List Fl} {u v : List Value} {b : Bool} (h : EqC fl u v b) : CellsOf fl u := by
  induction h with
  | nil => exact .nil
  | i _ ih => exact .i ih
  | b _ ih => exact .b ih
  | s _ ih => exact .s ih

theorem CellsOf.same {fl : List Fl} {u : List Value} (h : CellsOf fl u) : ∀ v ∈ u, Instr.sameBits 9999 v v = true := by
  induction h with
  | nil => simp
  | i _ ih => intro v hv; rcases List.mem_cons.1 hv with rfl | hv; (simp [Instr.sameBits]); exact ih v hv
  | b _ ih => intro v hv; rcases List.mem_cons.1 hv with rfl | hv; (simp [Instr.sameBits]); exact ih v hv
  | s _ ih => intro v hv; rcases List.mem_cons.1 hv with rfl | hv; (simp [Instr.sameBits, beq_toListBytes]); exact ih v hv

theorem CellsOf.len {fl : List Fl} {u : List Value} (h : CellsOf fl u) : u.length = fl.length := by
  induction h <;> simp_all

theorem CellsOf.split {fa : List Fl} : ∀ {fb : List Fl} {u : List Value}, CellsOf (fa ++ fb) u → CellsOf fa (u.take fa.length) ∧ CellsOf fb (u.drop fa.length) := by
  induction fa with
  | nil => intro fb u h; exact ⟨by simpa using CellsOf.nil, by simpa using h⟩
  | cons f fa ih =>
    intro fb u h
    rw [List.cons_append] at h
    cases h with
    | i h => obtain ⟨h1, h2⟩ := ih h; exact ⟨.i h1, h2⟩
    | b h => obtain ⟨h1, h2⟩ := ih h; exact ⟨.b h1, h2⟩
    | s h => obtain ⟨h1, h2⟩ := ih h; exact ⟨.s h1, h2⟩

theorem run_for_unit {α : Type} {g : α → Sem (ForInStep PUnit)} {w : World} : ∀ (l : List α), (∀ x ∈ l, (g x).run P w = .ok (.yield PUnit.unit) w) → (forIn l PUnit.unit (fun x _ => g x)).run P w = .ok PUnit.unit w
  | [], _ => by simp
  | x :: l, h => by
    have ih := run_for_unit l fun y hy => h y (by simp [hy])
    simp only [List.forIn_cons, Sem.run_bind, h x (by simp), Result.andThen]
    exact ih

theorem run_check : ∀ (d : Nat) (t : TypeId) (fl : List Fl), flatF P d t = some fl → ∀ (ag : Bool), isAggT P t = some ag → ∀ (u : List Value), CellsOf fl u → ∀ (e : Bool) (n : Nat) (w : World), d ≤ n →
    (Instr.checkKey e n t (asVal ag u)).run P w = .ok () w := by
  intro d
  induction d with
  | zero => intro t fl h; simp [flatF] at h
  | succ d ih =>
    intro t fl h ag hA u hE e n w he
    obtain ⟨n, rfl⟩ : ∃ e', n = e' + 1 := ⟨n - 1, by omega⟩
    simp only [flatF] at h
    split at h
    · rename_i k hu; exact run_check1 hu trivial
    · rename_i hu; exact run_check1 hu trivial
    · rename_i hu; exact run_check1 hu trivial
    · rename_i fs hu
      split at h
      · simp at h
      · have : ag = true := by simp [isAggT, hu] at hA; exact hA
        subst this
        simp only [asVal, if_true, Instr.checkKey, Sem.run_bind, run_underlying hu, Result.andThen]
        have key : ∀ (l : List Field) (off : Nat) (fl : List Fl), goF P (flatF P d) l off = some fl → CellsOf fl (u.drop off) →
            ∀ f ∈ l, (if f.name = "_" then pure (ForInStep.yield PUnit.unit) else (do let x ← part f.type u.toArray f.offset; Instr.checkKey e n f.type x; pure (ForInStep.yield PUnit.unit)) : Sem (ForInStep PUnit)).run P w = .ok (.yield PUnit.unit) w := by
          intro l
          induction l with
          | nil => intro off fl hg hE f hf; cases hf
          | cons f r ihl =>
            intro off fl hg hE g hgm
            simp only [goF] at hg
            split at hg
            · rename_i hc
              split at hg
              · rename_i a i ha hi
                split at hg
                · rename_i hsz
                  simp only [Option.map_eq_some_iff] at hg
                  obtain ⟨fr, hr, rfl⟩ := hg
                  obtain ⟨h1, h2⟩ := CellsOf.split hE
                  have l1 := h1.len
                  rw [List.drop_drop] at h2
                  rcases List.mem_cons.1 hgm with rfl | hgm
                  · obtain ⟨agf, hAf, h1f⟩ : ∃ agf, isAggT P g.type = some agf ∧ (agf = false → a.length = 1) := by
                      rcases flat_agg ha with h | ⟨h, h'⟩
                      · exact ⟨true, h, by simp⟩
                      · exact ⟨false, h, fun _ => h'⟩
                    have hlu : off + a.length ≤ u.length ∨ a.length = 0 := by simp at l1; omega
                    have hpu : (part g.type u.toArray g.offset).run P w = .ok (asVal agf ((u.drop off).take a.length)) w := by
                      rw [hc.2]
                      rcases hlu with h | h
                      · exact run_part hAf hi hsz h1f h
                      · cases agf
                        · have := h1f rfl; omega
                        · simp only [part, Sem.run_bind, run_isAgg hAf, Result.andThen, if_true, run_sizeOf hi, Sem.run_pure, asVal, hsz, h]
                          congr 2; rw [← Array.toList_inj]; simp
                    simp only [if_neg hc.1, Sem.run_bind, hpu, Result.andThen, ih g.type a ha agf hAf _ h1 e n w (by omega), Sem.run_pure]
                  · exact ihl _ _ hr h2 g hgm
                · simp at hg
              · simp at hg
            · simp at hg
        have hall := key fs.toList 0 fl h (by simpa using hE)
        rw [← Array.forIn_toList]
        have := run_for_unit (P := P) (w := w) fs.toList hall
        simp only [ne_eq, ite_not] at this ⊢
        rw [this]; rfl
    · simp at h

theorem KeyOk.flat {kt : TypeId} {fl : List Fl} {κ : Type} [DecidableEq κ] {enc : κ → List Value} (hf : flatF P 20 kt = some fl) (hA : isAggT P kt = some true) [E : EqEnc fl enc] : KeyOk P kt (fun k : κ => .agg (enc k).toArray) := by
  have hco : ∀ k : κ, CellsOf fl (enc k) := fun k => (E.eq k k).left
  refine ⟨fun k e w => ?_, fun es ks k w h => ?_, fun k => ?_⟩
  · have := run_check 20 kt fl hf true hA (enc k) (hco k) e 10000 w (by omega)
    simpa [asVal] using this
  · have heq : ∀ (a b : κ) (w : World), (Op.equal kt (.agg (enc a).toArray) (.agg (enc b).toArray)).run P w = .ok (decide (a = b)) w := by
      intro a b w
      have := run_flat 20 kt fl hf true hA (enc a) (enc b) _ (E.eq a b) 10000 w (by omega)
      simp only [asVal, if_true] at this; exact this
    have hfa := findAsking_ok (P := P) (ke := fun k : κ => Value.agg (enc k).toArray) heq k w es ks 0 h
    unfold isAggT at hA
    split at hA
    · rename_i fs hu
      simp only [Instr.findKey, Sem.run_bind, run_underlying hu, Result.andThen]
      cases es with
      | nil => cases ks with
        | nil => simp [Instr.findNow]
        | cons => simp at h
      | cons e es => simp only [Instr.findNow, Instr.sameNow, hfa, Nat.zero_add]
    · rename_i n e hu
      simp only [Instr.findKey, Sem.run_bind, run_underlying hu, Result.andThen]
      cases es with
      | nil => cases ks with
        | nil => simp [Instr.findNow]
        | cons => simp at h
      | cons e es => simp only [Instr.findNow, Instr.sameNow, hfa, Nat.zero_add]
    · simp at hA
    · simp at hA
  · have := (hco k).same
    simp only [Instr.sameBits, beq_self_eq_true, Bool.true_and, List.all_eq_true]
    rintro ⟨x, y⟩ hxy
    have hz : ∀ (l : List Value) (x y : Value), (x, y) ∈ l.zip l → x = y ∧ x ∈ l := by
      intro l
      induction l with
      | nil => intro x y h; simp at h
      | cons a l ih =>
        intro x y h
        simp only [List.zip_cons_cons, List.mem_cons, Prod.mk.injEq] at h
        rcases h with ⟨rfl, rfl⟩ | h
        · exact ⟨rfl, by simp⟩
        · obtain ⟨h1, h2⟩ := ih x y h; exact ⟨h1, by simp [h2]⟩
    obtain ⟨rfl, hm⟩ := hz _ x y (by simpa using hxy)
    exact this x hm

end

/-! ### Maps as lists -/

section
variable {κ β : Type} [DecidableEq κ]

def alk (m : List (κ × β)) (k : κ) : Option β := (m.find? fun x => decide (k = x.1)).map (·.2)
def aix (m : List (κ × β)) (k : κ) : Option Nat := (m.map (·.1)).findIdx? fun x => decide (k = x)
def aput (m : List (κ × β)) (k : κ) (v : β) : List (κ × β) := match aix m k with
  | some i => m.set i (k, v)
  | none => m ++ [(k, v)]
def adel (m : List (κ × β)) (k : κ) : List (κ × β) := match aix m k with
  | some i => m.eraseIdx i
  | none => m

theorem aix_some {m : List (κ × β)} {k : κ} {i : Nat} (h : aix m k = some i) : ∃ (hi : i < m.length), m[i].1 = k := by
  unfold aix at h
  rw [List.findIdx?_eq_some_iff_getElem] at h
  obtain ⟨h1, h2, _⟩ := h
  exact ⟨by simpa using h1, by simpa using (of_decide_eq_true h2).symm⟩

theorem alk_aix {m : List (κ × β)} {k : κ} : alk m k = (aix m k).bind fun i => (m[i]?).map (·.2) := by
  induction m with
  | nil => simp [alk, aix]
  | cons x m ih =>
    simp only [alk, aix, List.map_cons, List.findIdx?_cons, List.find?_cons] at ih ⊢
    by_cases h : k = x.1
    · simp [h]
    · simp only [h, decide_false, Bool.false_eq_true, if_false]
      rw [ih]
      cases List.findIdx? (fun x => decide (k = x)) (m.map (·.1)) <;> simp

end

def mapOk (es : Array MapEntry) (c : Nat) (l : List (Value × Value)) : Prop :=
  es.toList.map (fun e => (e.key, e.val)) = l ∧ (∀ e ∈ es.toList, e.born < c) ∧ (es.toList.map (·.born)).Nodup

/-- A map's rows, as they lie. -/
def Me {κ β : Type} (b : Nat) (es : Array MapEntry) (c : Nat) (ke : κ → Value) (ve : β → Value) (m : List (κ × β)) : Assn :=
  ⟨fun S H => H b = some (.map es c) ∧ mapOk es c (m.map fun x => (ke x.1, ve x.2)), by rintro S S' H H' _ hH ⟨h1, h2⟩; exact ⟨hH _ _ h1, h2⟩⟩
/-- A map. -/
def Mt {κ β : Type} (b : Nat) (ke : κ → Value) (ve : β → Value) (m : List (κ × β)) : Assn := ex fun x : Array MapEntry × Nat => Me b x.1 x.2 ke ve m
/-- A look through a map: which places it has been at. -/
def It (it b c : Nat) (es : Array MapEntry) (done : List Nat) : Assn :=
  ⟨fun S H => H it = some (.mapIter (some b) c (done.map fun i => (es[i]?.map (·.born)).getD 0).toArray c) ∧ done.Nodup ∧ ∀ i ∈ done, i < es.size, by rintro S S' H H' _ hH ⟨h1, h2⟩; exact ⟨hH _ _ h1, h2⟩⟩

section
variable {P : Program} {ρ : Env} {cs r : List Assn} {t : Tr} {K : Env → List Assn → Prop} {κ β : Type} [DecidableEq κ] {ke : κ → Value} {ve : β → Value}

theorem Sat.me {h : Heap} {b c : Nat} {es : Array MapEntry} {m : List (κ × β)} (hs : Sat h cs) (hh : Has cs (Me b es c ke ve m) r) : h[b]? = some (.map es c) ∧ mapOk es c (m.map fun x => (ke x.1, ve x.2)) := by
  obtain ⟨S, H, _, hH, hc⟩ := hs.mem hh; exact ⟨hH _ _ hc.1, hc.2⟩
theorem Sat.mt {h : Heap} {b : Nat} {m : List (κ × β)} (hs : Sat h cs) (hh : Has cs (Mt b ke ve m) r) : ∃ es c, h[b]? = some (.map es c) ∧ mapOk es c (m.map fun x => (ke x.1, ve x.2)) := by
  obtain ⟨S, H, _, hH, ⟨x, hc⟩⟩ := hs.mem hh
  have hc : H b = some (.map x.1 x.2) ∧ mapOk x.1 x.2 (m.map fun x => (ke x.1, ve x.2)) := hc
  exact ⟨_, _, hH _ _ hc.1, hc.2⟩

theorem mapOk.keys {es : Array MapEntry} {c : Nat} {m : List (κ × β)} (h : mapOk es c (m.map fun x => (ke x.1, ve x.2))) : es.toList.map (·.key) = (m.map (·.1)).map ke := by
  have := congrArg (List.map (·.1)) h.1
  simpa [List.map_map, Function.comp_def] using this
theorem mapOk.size {es : Array MapEntry} {c : Nat} {m : List (κ × β)} (h : mapOk es c (m.map fun x => (ke x.1, ve x.2))) : es.size = m.length := by
  have := congrArg List.length h.1
  simpa using this
theorem mapOk.val {es : Array MapEntry} {c : Nat} {m : List (κ × β)} (h : mapOk es c (m.map fun x => (ke x.1, ve x.2))) (i : Nat) : (es[i]?).map (fun e => (e.key, e.val)) = (m[i]?).map fun x => (ke x.1, ve x.2) := by
  have := congrArg (fun l : List (Value × Value) => l[i]?) h.1
  simpa [List.getElem?_map] using this

/-- What a look for a key comes to. -/
def found (ve : β → Value) (m : List (κ × β)) (k : κ) : Option (Nat × Value) := (aix m k).map fun i => (i, ((m[i]?).map fun x => ve x.2).getD undef)

theorem KeyOk.at_ {kt : TypeId} (hk : KeyOk P kt ke) {es : Array MapEntry} {c : Nat} {m : List (κ × β)} (h : mapOk es c (m.map fun x => (ke x.1, ve x.2))) (k : κ) : KeyAt P kt es (ke k) (found ve m k) := by
  have hf : found ve m k = ((m.map (·.1)).findIdx? (fun x => decide (k = x))).map fun i => (i, ((es.toList[i]?).map (·.val)).getD undef) := by
    unfold found aix
    congr 1
    funext i
    have := h.val i
    have : (es[i]?).map (·.val) = (m[i]?).map fun x => ve x.2 := by
      have := congrArg (Option.map (·.2)) this
      simpa [Option.map_map, Function.comp_def] using this
    simp [this]
  refine ⟨fun e w => hk.chk k e w, fun w => by rw [hf]; exact hk.find es.toList (m.map (·.1)) k w h.keys, fun i v hi => ?_⟩
  unfold found at hi
  simp only [Option.map_eq_some_iff, Prod.mk.injEq] at hi
  obtain ⟨j, hj, rfl, _⟩ := hi
  obtain ⟨hlt, hkey⟩ := aix_some hj
  have := h.val j
  rw [List.getElem?_eq_getElem hlt] at this
  simp only [Option.map_some, Option.map_eq_some_iff, Prod.mk.injEq] at this
  obtain ⟨e, he, h1, _⟩ := this
  rw [he]
  simp only [Option.map_some, Option.getD_some, h1, hkey]
  exact hk.same k

theorem found_snd {m : List (κ × β)} {k : κ} : (found ve m k).map (·.2) = (alk m k).map ve := by
  rw [alk_aix]
  unfold found
  cases h : aix m k with
  | none => rfl
  | some i =>
    obtain ⟨hlt, _⟩ := aix_some h
    simp [List.getElem?_eq_getElem hlt]

theorem Ev.lkp {x i : Operand} {b : Nat} {ok : Bool} {kt : TypeId} {zero : Value} {m : List (κ × β)} {k : κ} (hx : ρ.ev x = some (.map (some b))) (hi : ρ.ev i = some (ke k)) (hh : Has cs (Mt b ke ve m) r) (hk : KeyOk P kt ke) :
    Ev P (.lkp ok kt zero x i) ρ cs (if ok then .tuple #[((alk m k).map ve).getD zero, .bool (alk m k).isSome] else ((alk m k).map ve).getD zero) := by
  refine ⟨rfl, fun w hs => ?_⟩
  obtain ⟨es, c, hb, hm⟩ := hs.mt hh
  refine ⟨_, _, es, _, hx, hi, ⟨c, hb⟩, hk.at_ hm k, ?_, rfl⟩
  have e1 := found_snd (ve := ve) (m := m) (k := k)
  have e2 : (found ve m k).isSome = (alk m k).isSome := by have := congrArg Option.isSome e1; simpa using this
  rw [e1, e2]

/-- A look with two answers. -/
theorem JT.lkp {d : Nat} {x i : Operand} {b : Nat} {kt : TypeId} {zero : Value} {m : List (κ × β)} {k : κ} (hx : ρ.ev x = some (.map (some b))) (hi : ρ.ev i = some (ke k)) (hh : Has cs (Mt b ke ve m) r) (hk : KeyOk P kt ke)
    (h1 : ∀ v, alk m k = some v → JT P t ((d, .tuple [ve v, .bool true].toArray) :: ρ) cs K) (h2 : alk m k = none → JT P t ((d, .tuple [zero, .bool false].toArray) :: ρ) cs K) : JT P (.st ⟨some d, .lkp true kt zero x i, none⟩ t) ρ cs K := by
  have := Ev.lkp (ok := true) (zero := zero) hx hi hh hk
  simp only [if_true] at this
  refine JT.q this ?_
  cases h : alk m k with
  | none => exact h2 h
  | some v => exact h1 v h
theorem JT.lkp1 {d : Nat} {x i : Operand} {b : Nat} {kt : TypeId} {zero : Value} {m : List (κ × β)} {k : κ} (hx : ρ.ev x = some (.map (some b))) (hi : ρ.ev i = some (ke k)) (hh : Has cs (Mt b ke ve m) r) (hk : KeyOk P kt ke)
    (h1 : ∀ v, alk m k = some v → JT P t ((d, ve v) :: ρ) cs K) (h2 : alk m k = none → JT P t ((d, zero) :: ρ) cs K) : JT P (.st ⟨some d, .lkp false kt zero x i, none⟩ t) ρ cs K := by
  have := Ev.lkp (ok := false) (zero := zero) hx hi hh hk
  simp only [Bool.false_eq_true, if_false] at this
  refine JT.q this ?_
  cases h : alk m k with
  | none => exact h2 h
  | some v => exact h1 v h

theorem Ev.lnm {x : Operand} {b : Nat} {m : List (κ × β)} (hx : ρ.ev x = some (.map (some b))) (hh : Has cs (Mt b ke ve m) r) : Ev P (.lnm x) ρ cs (i64 (m.length : Int)) := by
  refine ⟨rfl, fun w hs => ?_⟩
  obtain ⟨es, c, hb, hm⟩ := hs.mt hh
  refine ⟨some b, hx, es, c, hb, ?_, rfl⟩
  rw [hm.size]

theorem Sat.mtMk {h : Heap} {b c : Nat} {es : Array MapEntry} {m : List (κ × β)} (hs : Sat h (pt b (.map es c) :: cs)) (hm : mapOk es c (m.map fun x => (ke x.1, ve x.2))) : Sat h (Mt b ke ve m :: cs) := by
  refine hs.imp ?_
  rintro S H ⟨H1, H2, h1, h2, hd, hp, hr⟩
  exact ⟨H1, H2, h1, h2, hd, ⟨(es, c), hp, hm⟩, hr⟩

theorem JT.mkm (ke : κ → Value) (ve : β → Value) {d : Nat} (h : ∀ b, JT P t ((d, .map (some b)) :: ρ) (Mt b ke ve ([] : List (κ × β)) :: cs) K) : JT P (.st ⟨some d, .mkm, none⟩ t) ρ cs K := ⟨by
  intro w hs
  simp only [runT, semG, Kd.sem]
  exact (h _).run _ ((hs.push _).mtMk ⟨by simp, by simp, by simp⟩)⟩

theorem Sat.mtPt {h : Heap} {b : Nat} {m : List (κ × β)} (hs : Sat h (Mt b ke ve m :: cs)) : ∃ es c, Sat h (pt b (.map es c) :: cs) ∧ mapOk es c (m.map fun x => (ke x.1, ve x.2)) := by
  obtain ⟨S, H, hS, hH, hd, H1, H2, h1, h2, hd', ⟨x, hx⟩, hr⟩ := hs
  exact ⟨_, _, ⟨S, H, hS, hH, hd, H1, H2, h1, h2, hd', hx.1, hr⟩, hx.2⟩

theorem Sat.setM {h : Heap} {b : Nat} {o o' : Obj} (hs : Sat h (pt b o :: cs)) : Sat (h.setIfInBounds b o') (pt b o' :: cs) := by
  have hb := hs.get
  have hlt := (Array.getElem?_eq_some_iff.1 hb).1
  exact hs.set (Array.getElem?_setIfInBounds_self_of_lt hlt) fun k hk => Array.getElem?_setIfInBounds_ne (Ne.symm hk)

theorem mapOk.put {es : Array MapEntry} {c : Nat} {m : List (κ × β)} (hm : mapOk es c (m.map fun x => (ke x.1, ve x.2))) (k : κ) (v : β) :
    ∃ es' c', mapPut es c (ke k) (ve v) (found ve m k) = .map es' c' ∧ mapOk es' c' ((aput m k v).map fun x => (ke x.1, ve x.2)) := by
  obtain ⟨h1, h2, h3⟩ := hm
  unfold found aput
  cases h : aix m k with
  | none =>
    refine ⟨_, _, rfl, by simp [h1], fun e he => ?_, ?_⟩
    · simp only [Array.toList_push, List.mem_append, List.mem_singleton] at he
      rcases he with he | rfl
      · have := h2 e he; omega
      · simp
    · simp only [Array.toList_push, List.map_append, List.map_cons, List.map_nil]
      rw [List.nodup_append]
      refine ⟨h3, by simp, fun a ha b hb => ?_⟩
      simp only [List.mem_singleton] at hb
      subst hb
      obtain ⟨e, he, rfl⟩ := List.mem_map.1 ha
      have := h2 e he; omega
  | some i =>
    obtain ⟨hlt, _⟩ := aix_some h
    have hsz : es.size = m.length := by have := congrArg List.length h1; simpa using this
    have hmod : (es.modify i fun e => { e with key := ke k, val := ve v }).toList = es.toList.modify i fun e => { e with key := ke k, val := ve v } := by simp
    refine ⟨_, _, rfl, ?_, fun e he => ?_, ?_⟩
    · rw [hmod]
      apply List.ext_getElem?
      intro j
      have hj : (es.toList[j]?).map (fun e => (e.key, e.val)) = (m[j]?).map fun x => (ke x.1, ve x.2) := by rw [← List.getElem?_map, ← List.getElem?_map, h1]
      simp only [List.getElem?_map, List.getElem?_modify, List.getElem?_set]
      by_cases hij : i = j
      · subst hij
        rw [if_pos rfl, if_pos hlt]
        have : i < es.toList.length := by simpa [hsz] using hlt
        simp [List.getElem?_eq_getElem this]
      · simp only [if_neg hij, Option.map_map, Function.comp_def, id, Option.map_eq_map, Option.map_id']
        exact hj
    · rw [hmod] at he
      obtain ⟨j, hj⟩ := List.mem_iff_getElem?.1 he
      rw [List.getElem?_modify] at hj
      simp only [Option.map_eq_map, Option.map_eq_some_iff] at hj
      obtain ⟨e0, he0, rfl⟩ := hj
      have := h2 e0 (List.mem_iff_getElem?.2 ⟨j, he0⟩)
      split <;> exact this
    · rw [hmod]
      have : (es.toList.modify i fun e => { e with key := ke k, val := ve v }).map (·.born) = es.toList.map (·.born) := by
        apply List.ext_getElem?
        intro j
        simp only [List.getElem?_map, List.getElem?_modify]
        by_cases hij : i = j
        · simp [hij]
          cases es[j]? <;> rfl
        · simp only [if_neg hij, Option.map_eq_map, Option.map_map, Function.comp_def, id]
      rw [this]; exact h3

theorem JT.mup {b : Nat} {kt : TypeId} {mo k v : Operand} {m : List (κ × β)} {kk : κ} {vv : β} (hx : ρ.ev mo = some (.map (some b))) (hi : ρ.ev k = some (ke kk)) (hv : ρ.ev v = some (ve vv)) (hh : Has cs (Mt b ke ve m) r) (hk : KeyOk P kt ke)
    (h : JT P t ρ (Mt b ke ve (aput m kk vv) :: r) K) : JT P (.st ⟨none, .mup kt mo k v, none⟩ t) ρ cs K := ⟨by
  intro w hs
  obtain ⟨es, c, hs', hm⟩ := (hs.imp hh).mtPt
  obtain ⟨es', c', e1, e2⟩ := hm.put kk vv
  simp only [runT, semG, Kd.sem]
  refine ⟨b, es, c, _, _, _, hx, hi, hv, hs'.get, hk.at_ hm kk, h.run _ ?_⟩
  rw [e1]
  exact (hs'.setM).mtMk e2⟩

theorem map_eraseIdx {α γ : Type} (f : α → γ) : ∀ (l : List α) (i : Nat), (l.eraseIdx i).map f = (l.map f).eraseIdx i
  | [], i => by simp
  | a :: l, 0 => by simp
  | a :: l, i + 1 => by simp [map_eraseIdx f l i]

theorem mapOk.del {es : Array MapEntry} {c : Nat} {m : List (κ × β)} (hm : mapOk es c (m.map fun x => (ke x.1, ve x.2))) (k : κ) :
    ∃ es', mapDel es c (found ve m k) = .map es' c ∧ mapOk es' c ((adel m k).map fun x => (ke x.1, ve x.2)) := by
  unfold found adel
  cases h : aix m k with
  | none => exact ⟨_, rfl, hm⟩
  | some i =>
    obtain ⟨h1, h2, h3⟩ := hm
    obtain ⟨hlt, _⟩ := aix_some h
    have hsz : es.size = m.length := by have := congrArg List.length h1; simpa using this
    have he : (es.eraseIdxIfInBounds i).toList = es.toList.eraseIdx i := by
      simp [Array.eraseIdxIfInBounds, hsz, hlt]
    refine ⟨_, rfl, ?_, fun e hem => ?_, ?_⟩
    · rw [he, map_eraseIdx, h1, map_eraseIdx]
    · rw [he] at hem; exact h2 e (List.mem_of_mem_eraseIdx hem)
    · rw [he, map_eraseIdx]; exact h3.sublist (List.eraseIdx_sublist _ _)

theorem JT.del {b : Nat} {kt : TypeId} {mo k : Operand} {dst : Option Nat} {m : List (κ × β)} {kk : κ} (hx : ρ.ev mo = some (.map (some b))) (hi : ρ.ev k = some (ke kk)) (hh : Has cs (Mt b ke ve m) r) (hk : KeyOk P kt ke)
    (h : JT P t (ρ.put dst (.tuple #[])) (Mt b ke ve (adel m kk) :: r) K) : JT P (.st ⟨dst, .del kt mo k, none⟩ t) ρ cs K := ⟨by
  intro w hs
  obtain ⟨es, c, hs', hm⟩ := (hs.imp hh).mtPt
  obtain ⟨es', e1, e2⟩ := hm.del kk
  simp only [runT, semG, Kd.sem]
  refine ⟨b, es, c, _, _, hx, hi, hs'.get, hk.at_ hm kk, h.run _ ?_⟩
  rw [e1]
  exact (hs'.setM).mtMk e2⟩

/-! ### Through all of a map -/

theorem Has.me {b c : Nat} {es : Array MapEntry} {m : List (κ × β)} (hh : Has cs (Me b es c ke ve m) r) : Has cs (Mt b ke ve m) r :=
  Imp.trans hh fun S H ⟨H1, H2, h1, h2, hd, hp, hr⟩ => ⟨H1, H2, h1, h2, hd, ⟨(es, c), hp⟩, hr⟩
theorem Imp.me {b c : Nat} {es : Array MapEntry} {m : List (κ × β)} {ds : List Assn} (hh : Has cs (Me b es c ke ve m) r) (h : Imp r ds) : Imp cs (Mt b ke ve m :: ds) := Imp.take (Has.me hh) h

theorem JT.openM {b : Nat} {m : List (κ × β)} (hh : Has cs (Mt b ke ve m) r) (h : ∀ es c, JT P t ρ (Me b es c ke ve m :: r) K) : JT P t ρ cs K :=
  JT.has hh (JT.ex fun x => h x.1 x.2)
theorem J.openM {N : Nat} {cc : CC} {Q : Exit → Env → List Assn → Prop} {b : Nat} {m : List (κ × β)} (hh : Has cs (Mt b ke ve m) r) (h : ∀ es c, J P N cc ρ (Me b es c ke ve m :: r) Q) : J P N cc ρ cs Q :=
  J.has hh (J.ex fun x => h x.1 x.2)

theorem JT.rng {d : Nat} {x : Operand} {b c : Nat} {es : Array MapEntry} {m : List (κ × β)} (hx : ρ.ev x = some (.map (some b))) (hh : Has cs (Me b es c ke ve m) r)
    (h : ∀ it, JT P t ((d, ptr it) :: ρ) (It it b c es [] :: cs) K) : JT P (.st ⟨some d, .rng x, none⟩ t) ρ cs K := ⟨by
  intro w hs
  simp only [runT, semG, Kd.sem]
  refine ⟨b, es, c, hx, (hs.me hh).1, (h w.size).run _ ((hs.push _).imp ?_)⟩
  rintro S H ⟨H1, H2, h1, h2, hd, hp, hr⟩
  exact ⟨H1, H2, h1, h2, hd, ⟨hp, by simp, by simp⟩, hr⟩⟩

theorem JT.nxt {d : Nat} {x : Operand} {it b c : Nat} {es : Array MapEntry} {m : List (κ × β)} {done : List Nat} {r1 : List Assn} (hx : ρ.ev x = some (ptr it)) (hi : Has cs (It it b c es done) r) (hh : Has r (Me b es c ke ve m) r1)
    (h1 : ∀ i (hi : i < m.length), i ∉ done → JT P t ((d, .tuple [.bool true, ke (m[i]).1, ve (m[i]).2].toArray) :: ρ) (It it b c es (done ++ [i]) :: r) K)
    (h2 : (∀ i, i < m.length → i ∈ done) → JT P t ((d, .tuple [.bool false].toArray) :: ρ) cs K) : JT P (.st ⟨some d, .nxt x, none⟩ t) ρ cs K := ⟨by
  intro w hs
  obtain ⟨hb, hm⟩ := (hs.imp (Imp.trans hi Imp.drop)).me hh
  have hsz := hm.size
  have hval := hm.val
  obtain ⟨e1, e2, e3⟩ := hm
  obtain ⟨S, H, _, hH, hit, hnd, hlt⟩ := hs.mem hi
  have hit' := hH _ _ hit
  have hborn : ∀ i (hi : i < es.size), (es[i]?.map (·.born)).getD 0 = es[i].born := fun i hi => by simp [hi]
  have hinj : ∀ i j (hi : i < es.size) (hj : j < es.size), es[i].born = es[j].born → i = j := by
    intro i j hi hj h
    have key := (List.getElem_inj (h₀ := by simpa using hi) (h₁ := by simpa using hj) e3).1
    exact key (by simp only [List.getElem_map, Array.getElem_toList]; exact h)
  have hseen : ∀ i (hi : i < es.size), (done.map fun i => (es[i]?.map (·.born)).getD 0).toArray.contains es[i].born = decide (i ∈ done) := by
    intro i hi
    rw [Bool.eq_iff_iff]
    simp only [List.contains_toArray, List.contains_eq_mem, decide_eq_true_eq, List.mem_map]
    constructor
    · rintro ⟨j, hj, he⟩
      rw [hborn j (hlt j hj)] at he
      rw [← hinj j i (hlt j hj) hi he]; exact hj
    · intro h; exact ⟨i, h, hborn i hi⟩
  have hmemes : ∀ e, e ∈ es.toList → ∃ i, ∃ (hi : i < es.size), es[i] = e := by
    intro e he
    obtain ⟨i, hi, he⟩ := List.mem_iff_getElem.1 he
    exact ⟨i, by simpa using hi, by simpa using he⟩
  simp only [runT, semG, Kd.sem]
  refine ⟨it, b, c, _, c, es, c, hx, hit', hb, ?_, fun e he hse => ?_, fun hall => ?_⟩
  · cases hemp : es.isEmpty
    · have : es.all (fun x => decide (x.born ≥ c)) = false := by
        rw [Array.all_eq_false]
        have h0 : 0 < es.size := by
          rcases Nat.eq_zero_or_pos es.size with h | h
          · have : es.isEmpty = true := by simpa using h
            rw [this] at hemp; cases hemp
          · exact h
        refine ⟨0, h0, ?_⟩
        have := e2 es[0] (by simp)
        simp; omega
      rw [this]; simp
    · simp
  · obtain ⟨i, hi', rfl⟩ := hmemes e he
    rw [hseen i hi'] at hse
    have hnd' : i ∉ done := by simpa using hse
    have him : i < m.length := by omega
    have hv := hval i
    rw [Array.getElem?_eq_getElem hi', List.getElem?_eq_getElem him] at hv
    simp only [Option.map_some, Option.some.injEq, Prod.mk.injEq] at hv
    rw [hv.1, hv.2]
    refine (h1 i him hnd').run _ ?_
    have hpt : Sat w (pt it (.mapIter (some b) c (done.map fun i => (es[i]?.map (·.born)).getD 0).toArray c) :: r) := by
      refine (hs.imp hi).imp ?_
      rintro S H ⟨H1, H2, h1, h2, hd, hp, hr⟩
      exact ⟨H1, H2, h1, h2, hd, hp.1, hr⟩
    refine (hpt.setM (o' := .mapIter (some b) c ((done.map fun i => (es[i]?.map (·.born)).getD 0).toArray.push es[i].born) c)).imp ?_
    rintro S H ⟨H1, H2, h1, h2, hd, hp, hr⟩
    refine ⟨H1, H2, h1, h2, hd, ⟨?_, ?_, ?_⟩, hr⟩
    · rw [hp]; simp [hi']
    · rw [List.nodup_append]
      exact ⟨hnd, by simp, fun a ha b hb => by simp at hb; subst hb; rintro rfl; exact hnd' ha⟩
    · intro j hj
      rcases List.mem_append.1 hj with hj | hj
      · exact hlt j hj
      · simp at hj; omega
  · refine (h2 fun i hi' => ?_).run _ hs
    have hi2 : i < es.size := by omega
    cases hd : decide (i ∈ done)
    · have := hall es[i] (by simp) (by rw [hseen i hi2]; exact hd)
      have := e2 es[i] (by simp)
      omega
    · exact of_decide_eq_true hd⟩

end
end Go.SL
