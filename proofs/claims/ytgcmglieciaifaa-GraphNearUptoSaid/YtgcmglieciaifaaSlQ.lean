/- The walk's own words, part Q: maps. Conditions: none. -/
import Derived.Test.YtgcmglieciaifaaSlL
set_option linter.unusedSimpArgs false
set_option linter.unusedVariables false
set_option linter.unusedSectionVars false
namespace Go.SL
open Go

/-! ### Looking for a key -/

/-- The keys of a kind: how a map's rows are looked through for one. -/
structure KeyOk (P : Program) (kt : TypeId) {κ : Type} [DecidableEq κ] (ke : κ → Value) : Prop where
  chk : ∀ (k : κ) (e : Bool) (w : World), (Instr.checkKey e 10000 kt (ke k)).run P w = .ok () w
  find : ∀ (es : List MapEntry) (ks : List κ) (k : κ) (w : World), es.map (·.key) = ks.map ke → (Instr.findKey kt (ke k) es).run P w = .ok ((ks.findIdx? (fun x => decide (k = x))).map fun i => (i, ((es[i]?).map (·.val)).getD undef)) w
  same : ∀ k : κ, Instr.sameBits 10000 (ke k) (ke k) = true

section
variable {P : Program}

theorem findAsking_ok {kt : TypeId} {κ : Type} [DecidableEq κ] {ke : κ → Value} (heq : ∀ (a b : κ) (w : World), (Op.equal kt (ke a) (ke b)).run P w = .ok (decide (a = b)) w) (k : κ) (w : World) :
    ∀ (es : List MapEntry) (ks : List κ) (i : Nat), es.map (·.key) = ks.map ke →
      (Instr.findAsking kt (ke k) es i).run P w = .ok ((ks.findIdx? (fun x => decide (k = x))).map fun j => (i + j, ((es[j]?).map (·.val)).getD undef)) w
  | [], [], i, _ => by simp [Instr.findAsking]
  | [], _ :: _, i, h => by simp at h
  | _ :: _, [], i, h => by simp at h
  | e :: es, a :: ks, i, h => by
    simp only [List.map_cons, List.cons.injEq] at h
    obtain ⟨h1, h2⟩ := h
    have ih := findAsking_ok heq k w es ks (i + 1) h2
    simp only [Instr.findAsking, Sem.run_bind, h1, heq, Result.andThen, List.findIdx?_cons]
    by_cases hk : k = a
    · subst hk; simp
    · simp only [hk, decide_false, Bool.false_eq_true, if_false, ih]
      congr 1
      cases List.findIdx? (fun x => decide (k = x)) ks <;> simp; omega

theorem findNow_ok {kind : TypeDesc} {κ : Type} [DecidableEq κ] {ke : κ → Value} (heq : ∀ a b : κ, Instr.sameNow kind (ke a) (ke b) = some (decide (a = b))) (k : κ) :
    ∀ (es : List MapEntry) (ks : List κ) (i : Nat), es.map (·.key) = ks.map ke →
      Instr.findNow kind (ke k) es i = some ((ks.findIdx? (fun x => decide (k = x))).map fun j => (i + j, ((es[j]?).map (·.val)).getD undef))
  | [], [], i, _ => by simp [Instr.findNow]
  | [], _ :: _, i, h => by simp at h
  | _ :: _, [], i, h => by simp at h
  | e :: es, a :: ks, i, h => by
    simp only [List.map_cons, List.cons.injEq] at h
    obtain ⟨h1, h2⟩ := h
    have ih := findNow_ok heq k es ks (i + 1) h2
    simp only [Instr.findNow, h1, heq, List.findIdx?_cons]
    by_cases hk : k = a
    · subst hk; simp
    · simp only [hk, decide_false, Bool.false_eq_true, if_false, ih]
      congr 1
      cases List.findIdx? (fun x => decide (k = x)) ks <;> simp; omega

theorem run_check1 {kt : TypeId} {d : TypeDesc} {v : Value} {e : Bool} {n : Nat} {w : World} (hu : P.underlying kt = some d) (hd : match d with | .interface _ | .array _ _ | .struct _ => False | _ => True) :
    (Instr.checkKey e (n + 1) kt v).run P w = .ok () w := by
  cases d <;> simp only [] at hd <;> simp [Instr.checkKey, Sem.run_bind, run_underlying hu, Result.andThen]

theorem KeyOk.int {kt : TypeId} {k' : IntKind} (k : IntKind) (hu : P.underlying kt = some (.int k')) : KeyOk P kt (fun n : Int => .int k n) := by
  refine ⟨fun n e w => run_check1 (n := 9999) hu trivial, fun es ks n w h => ?_, fun n => by simp [Instr.sameBits]⟩
  have hn := findNow_ok (kind := .int k') (ke := fun n : Int => Value.int k n) (fun a b => by simp [Instr.sameNow]; rfl) n es ks 0 h
  simp only [Instr.findKey, Sem.run_bind, run_underlying hu, Result.andThen, hn, Sem.run_pure, Nat.zero_add]

theorem KeyOk.str {kt : TypeId} (hu : P.underlying kt = some .string) : KeyOk P kt (fun s : ByteArray => .string s) := by
  refine ⟨fun n e w => run_check1 (n := 9999) hu trivial, fun es ks n w h => ?_, fun n => by simp [Instr.sameBits, beq_toListBytes]⟩
  have hn := findNow_ok (kind := .string) (ke := fun s : ByteArray => Value.string s) (fun a b => by simp [Instr.sameNow, beq_toListBytes, ByteArray.toList_eq, ByteArray.ext_iff]; rw [Bool.eq_iff_iff]; simp) n es ks 0 h
  simp only [Instr.findKey, Sem.run_bind, run_underlying hu, Result.andThen, hn, Sem.run_pure, Nat.zero_add]

/-- The cells fit the kinds. -/
inductive CellsOf : List Fl → List Value → Prop
  | nil : CellsOf [] []
  | i {k n r u} (h : CellsOf r u) : CellsOf (.i :: r) (.int k n :: u)
  | b {n r u} (h : CellsOf r u) : CellsOf (.b :: r) (.bool n :: u)
  | s {n r u} (h : CellsOf r u) : CellsOf (.s :: r) (.string n :: u)

theorem EqC.left {fl : List Fl} {u v : List Value} {b : Bool} (h : EqC fl u v b) : CellsOf fl u := by
  induction h with
  | nil => exact .nil
  | i _ ih => exact .i ih
  | b _ ih => exact .b ih
  | s _ ih => exact .s ih

theorem CellsOf.same {fl : List Fl} {u : List Value} (h : CellsOf fl u) : ∀ v ∈ u, Instr.sameBits 9999 v v = true := by
  induction h with
  | nil => simp
  | i _ ih => intro v hv; rcases List.mem_cons.1 hv with rfl | hv; (simp [Instr.sameBits]); exact ih v hv
  | b _ ih => intro v hv; rcases List.mem_cons.1 hv with rfl | hv; (simp [Instr.sameBits]); exact ih v hv
  | s _ ih => intro v hv; rcases List.mem_cons.1 hv with rfl | hv; (simp [Instr.sameBits, beq_toListBytes]); exact ih v hv

theorem CellsOf.len {fl : List Fl} {u : List Value} (h : CellsOf fl u) : u.length = fl.length := by
  induction h <;> simp_all

theorem CellsOf.split {fa : List Fl} : ∀ {fb : List Fl} {u : List Value}, CellsOf (fa ++ fb) u → CellsOf fa (u.take fa.length) ∧ CellsOf fb (u.drop fa.length) := by
  induction fa with
  | nil => intro fb u h; exact ⟨by simpa using CellsOf.nil, by simpa using h⟩
  | cons f fa ih =>
    intro fb u h
    rw [List.cons_append] at h
    cases h with
    | i h => obtain ⟨h1, h2⟩ := ih h; exact ⟨.i h1, h2⟩
    | b h => obtain ⟨h1, h2⟩ := ih h; exact ⟨.b h1, h2⟩
    | s h => obtain ⟨h1, h2⟩ := ih h; exact ⟨.s h1, h2⟩

theorem run_for_unit {α : Type} {g : α → Sem (ForInStep PUnit)} {w : World} : ∀ (l : List α), (∀ x ∈ l, (g x).run P w = .ok (.yield PUnit.unit) w) → (forIn l PUnit.unit (fun x _ => g x)).run P w = .ok PUnit.unit w
  | [], _ => by simp
  | x :: l, h => by
    have ih := run_for_unit l fun y hy => h y (by simp [hy])
    simp only [List.forIn_cons, Sem.run_bind, h x (by simp), Result.andThen]
    exact ih

theorem run_check : ∀ (d : Nat) (t : TypeId) (fl : List Fl), flatF P d t = some fl → ∀ (ag : Bool), isAggT P t = some ag → ∀ (u : List Value), CellsOf fl u → ∀ (e : Bool) (n : Nat) (w : World), d ≤ n →
    (Instr.checkKey e n t (asVal ag u)).run P w = .ok () w := by
  intro d
  induction d with
  | zero => intro t fl h; simp [flatF] at h
  | succ d ih =>
    intro t fl h ag hA u hE e n w he
    obtain ⟨n, rfl⟩ : ∃ e', n = e' + 1 := ⟨n - 1, by omega⟩
    simp only [flatF] at h
    split at h
    · rename_i k hu; exact run_check1 hu trivial
    · rename_i hu; exact run_check1 hu trivial
    · rename_i hu; exact run_check1 hu trivial
    · rename_i fs hu
      split at h
      · simp at h
      · have : ag = true := by simp [isAggT, hu] at hA; exact hA
        subst this
        simp only [asVal, if_true, Instr.checkKey, Sem.run_bind, run_underlying hu, Result.andThen]
        have key : ∀ (l : List Field) (off : Nat) (fl : List Fl), goF P (flatF P d) l off = some fl → CellsOf fl (u.drop off) →
            ∀ f ∈ l, (if f.name = "_" then pure (ForInStep.yield PUnit.unit) else (do let x ← part f.type u.toArray f.offset; Instr.checkKey e n f.type x; pure (ForInStep.yield PUnit.unit)) : Sem (ForInStep PUnit)).run P w = .ok (.yield PUnit.unit) w := by
          intro l
          induction l with
          | nil => intro off fl hg hE f hf; cases hf
          | cons f r ihl =>
            intro off fl hg hE g hgm
            simp only [goF] at hg
            split at hg
            · rename_i hc
              split at hg
              · rename_i a i ha hi
                split at hg
                · rename_i hsz
                  simp only [Option.map_eq_some_iff] at hg
                  obtain ⟨fr, hr, rfl⟩ := hg
                  obtain ⟨h1, h2⟩ := CellsOf.split hE
                  have l1 := h1.len
                  rw [List.drop_drop] at h2
                  rcases List.mem_cons.1 hgm with rfl | hgm
                  · obtain ⟨agf, hAf, h1f⟩ : ∃ agf, isAggT P g.type = some agf ∧ (agf = false → a.length = 1) := by
                      rcases flat_agg ha with h | ⟨h, h'⟩
                      · exact ⟨true, h, by simp⟩
                      · exact ⟨false, h, fun _ => h'⟩
                    have hlu : off + a.length ≤ u.length ∨ a.length = 0 := by simp at l1; omega
                    have hpu : (part g.type u.toArray g.offset).run P w = .ok (asVal agf ((u.drop off).take a.length)) w := by
                      rw [hc.2]
                      rcases hlu with h | h
                      · exact run_part hAf hi hsz h1f h
                      · cases agf
                        · have := h1f rfl; omega
                        · simp only [part, Sem.run_bind, run_isAgg hAf, Result.andThen, if_true, run_sizeOf hi, Sem.run_pure, asVal, hsz, h]
                          congr 2; rw [← Array.toList_inj]; simp
                    simp only [if_neg hc.1, Sem.run_bind, hpu, Result.andThen, ih g.type a ha agf hAf _ h1 e n w (by omega), Sem.run_pure]
                  · exact ihl _ _ hr h2 g hgm
                · simp at hg
              · simp at hg
            · simp at hg
        have hall := key fs.toList 0 fl h (by simpa using hE)
        rw [← Array.forIn_toList]
        have := run_for_unit (P := P) (w := w) fs.toList hall
        simp only [ne_eq, ite_not] at this ⊢
        rw [this]; rfl
    · simp at h

theorem KeyOk.flat {kt : TypeId} {fl : List Fl} {κ : Type} [DecidableEq κ] {enc : κ → List Value} (hf : flatF P 20 kt = some fl) (hA : isAggT P kt = some true) [E : EqEnc fl enc] : KeyOk P kt (fun k : κ => .agg (enc k).toArray) := by
  have hco : ∀ k : κ, CellsOf fl (enc k) := fun k => (E.eq k k).left
  refine ⟨fun k e w => ?_, fun es ks k w h => ?_, fun k => ?_⟩
  · have := run_check 20 kt fl hf true hA (enc k) (hco k) e 10000 w (by omega)
    simpa [asVal] using this
  · have heq : ∀ (a b : κ) (w : World), (Op.equal kt (.agg (enc a).toArray) (.agg (enc b).toArray)).run P w = .ok (decide (a = b)) w := by
      intro a b w
      have := run_flat 20 kt fl hf true hA (enc a) (enc b) _ (E.eq a b) 10000 w (by omega)
      simp only [asVal, if_true] at this; exact this
    have hfa := findAsking_ok (P := P) (ke := fun k : κ => Value.agg (enc k).toArray) heq k w es ks 0 h
    unfold isAggT at hA
    split at hA
    · rename_i fs hu
      simp only [Instr.findKey, Sem.run_bind, run_underlying hu, Result.andThen]
      cases es with
      | nil => cases ks with
        | nil => simp [Instr.findNow]
        | cons => simp at h
      | cons e es => simp only [Instr.findNow, Instr.sameNow, hfa, Nat.zero_add]
    · rename_i n e hu
      simp only [Instr.findKey, Sem.run_bind, run_underlying hu, Result.andThen]
      cases es with
      | nil => cases ks with
        | nil => simp [Instr.findNow]
        | cons => simp at h
      | cons e es => simp only [Instr.findNow, Instr.sameNow, hfa, Nat.zero_add]
    · simp at hA
    · simp at hA
  · have := (hco k).same
    simp only [Instr.sameBits, beq_self_eq_true, Bool.true_and, List.all_eq_true]
    rintro ⟨x, y⟩ hxy
    have hz : ∀ (l : List Value) (x y : Value), (x, y) ∈ l.zip l → x = y ∧ x ∈ l := by
      intro l
      induction l with
      | nil => intro x y h; simp at h
      | cons a l ih =>
        intro x y h
        simp only [List.zip_cons_cons, List.mem_cons, Prod.mk.injEq] at h
        rcases h with ⟨rfl, rfl⟩ | h
        · exact ⟨rfl, by simp⟩
        · obtain ⟨h1, h2⟩ := ih x y h; exact ⟨h1, by simp [h2]⟩
    obtain ⟨rfl, hm⟩ := hz _ x y (by simpa using hxy)
    exact this x hm

end

/-! ### Maps as lists -/

section
variable {κ β : Type} [DecidableEq κ]

def alk (m : List (κ × β)) (k : κ) : Option β := (m.find? fun x => decide (k = x.1)).map (·.2)
def aix (m : List (κ × β)) (k : κ) : Option Nat := (m.map (·.1)).findIdx? fun x => decide (k = x)
def aput (m : List (κ × β)) (k : κ) (v : β) : List (κ × β) := match aix m k with
  | some i => m.set i (k, v)
  | none => m ++ [(k, v)]
def adel (m : List (κ × β)) (k : κ) : List (κ × β) := match aix m k with
  | some i => m.eraseIdx i
  | none => m

theorem aix_some {m : List (κ × β)} {k : κ} {i : Nat} (h : aix m k = some i) : ∃ (hi : i < m.length), m[i].1 = k := by
  unfold aix at h
  rw [List.findIdx?_eq_some_iff_getElem] at h
  obtain ⟨h1, h2, _⟩ := h
  exact ⟨by simpa using h1, by simpa using (of_decide_eq_true h2).symm⟩

theorem alk_aix {m : List (κ × β)} {k : κ} : alk m k = (aix m k).bind fun i => (m[i]?).map (·.2) := by
  induction m with
  | nil => simp [alk, aix]
  | cons x m ih =>
    simp only [alk, aix, List.map_cons, List.findIdx?_cons, List.find?_cons] at ih ⊢
    by_cases h : k = x.1
    · simp [h]
    · simp only [h, decide_false, Bool.false_eq_true, if_false]
      rw [ih]
      cases List.findIdx? (fun x => decide (k = x)) (m.map (·.1)) <;> simp

end

def mapOk (es : Array MapEntry) (c : Nat) (l : List (Value × Value)) : Prop :=
  es.toList.map (fun e => (e.key, e.val)) = l ∧ (∀ e ∈ es.toList, e.born < c) ∧ (es.toList.map (·.born)).Nodup

/-- A map's rows, as they lie. -/
def Me {κ β : Type} (b : Nat) (es : Array MapEntry) (c : Nat) (ke : κ → Value) (ve : β → Value) (m : List (κ × β)) : Assn :=
  ⟨fun S H => H b = some (.map es c) ∧ mapOk es c (m.map fun x => (ke x.1, ve x.2)), by rintro S S' H H' _ hH ⟨h1, h2⟩; exact ⟨hH _ _ h1, h2⟩⟩
/-- A map. -/
def Mt {κ β : Type} (b : Nat) (ke : κ → Value) (ve : β → Value) (m : List (κ × β)) : Assn := ex fun x : Array MapEntry × Nat => Me b x.1 x.2 ke ve m
/-- A look through a map: which places it has been at. -/
def It (it b c : Nat) (es : Array MapEntry) (done : List Nat) : Assn :=
  ⟨fun S H => H it = some (.mapIter (some b) c (done.map fun i => (es[i]?.map (·.born)).getD 0).toArray c) ∧ done.Nodup ∧ ∀ i ∈ done, i < es.size, by rintro S S' H H' _ hH ⟨h1, h2⟩; exact ⟨hH _ _ h1, h2⟩⟩

section
variable {P : Program} {ρ : Env} {cs r : List Assn} {t : Tr} {K : Env → List Assn → Prop} {κ β : Type} [DecidableEq κ] {ke : κ → Value} {ve : β → Value}

theorem Sat.me {h : Heap} {b c : Nat} {es : Array MapEntry} {m : List (κ × β)} (hs : Sat h cs) (hh : Has cs (Me b es c ke ve m) r) : h[b]? = some (.map es c) ∧ mapOk es c (m.map fun x => (ke x.1, ve x.2)) := by
  obtain ⟨S, H, _, hH, hc⟩ := hs.mem hh; exact ⟨hH _ _ hc.1, hc.2⟩
theorem Sat.mt {h : Heap} {b : Nat} {m : List (κ × β)} (hs : Sat h cs) (hh : Has cs (Mt b ke ve m) r) : ∃ es c, h[b]? = some (.map es c) ∧ mapOk es c (m.map fun x => (ke x.1, ve x.2)) := by
  obtain ⟨S, H, _, hH, ⟨x, hc⟩⟩ := hs.mem hh
  have hc : H b = some (.map x.1 x.2) ∧ mapOk x.1 x.2 (m.map fun x => (ke x.1, ve x.2)) := hc
  exact ⟨_, _, hH _ _ hc.1, hc.2⟩

theorem mapOk.keys {es : Array MapEntry} {c : Nat} {m : List (κ × β)} (h : mapOk es c (m.map fun x => (ke x.1, ve x.2))) : es.toList.map (·.key) = (m.map (·.1)).map ke := by
  have := congrArg (List.map (·.1)) h.1
  simpa [List.map_map, Function.comp_def] using this
theorem mapOk.size {es : Array MapEntry} {c : Nat} {m : List (κ × β)} (h : mapOk es c (m.map fun x => (ke x.1, ve x.2))) : es.size = m.length := by
  have := congrArg List.length h.1
  simpa using this
theorem mapOk.val {es : Array MapEntry} {c : Nat} {m : List (κ × β)} (h : mapOk es c (m.map fun x => (ke x.1, ve x.2))) (i : Nat) : (es[i]?).map (fun e => (e.key, e.val)) = (m[i]?).map fun x => (ke x.1, ve x.2) := by
  have := congrArg (fun l : List (Value × Value) => l[i]?) h.1
  simpa [List.getElem?_map] using this

/-- What a look for a key comes to. -/
def found (ve : β → Value) (m : List (κ × β)) (k : κ) : Option (Nat × Value) := (aix m k).map fun i => (i, ((m[i]?).map fun x => ve x.2).getD undef)

theorem KeyOk.at_ {kt : TypeId} (hk : KeyOk P kt ke) {es : Array MapEntry} {c : Nat} {m : List (κ × β)} (h : mapOk es c (m.map fun x => (ke x.1, ve x.2))) (k : κ) : KeyAt P kt es (ke k) (found ve m k) := by
  have hf : found ve m k = ((m.map (·.1)).findIdx? (fun x => decide (k = x))).map fun i => (i, ((es.toList[i]?).map (·.val)).getD undef) := by
    unfold found aix
    congr 1
    funext i
    have := h.val i
    have : (es[i]?).map (·.val) = (m[i]?).map fun x => ve x.2 := by
      have := congrArg (Option.map (·.2)) this
      simpa [Option.map_map, Function.comp_def] using this
    simp [this]
  refine ⟨fun e w => hk.chk k e w, fun w => by rw [hf]; exact hk.find es.toList (m.map (·.1)) k w h.keys, fun i v hi => ?_⟩
  unfold found at hi
  simp only [Option.map_eq_some_iff, Prod.mk.injEq] at hi
  obtain ⟨j, hj, rfl, _⟩ := hi
  obtain ⟨hlt, hkey⟩ := aix_some hj
  have := h.val j
  rw [List.getElem?_eq_getElem hlt] at this
  simp only [Option.map_some, Option.map_eq_some_iff, Prod.mk.injEq] at this
  obtain ⟨e, he, h1, _⟩ := this
  rw [he]
  simp only [Option.map_some, Option.getD_some, h1, hkey]
  exact hk.same k

theorem found_snd {m : List (κ × β)} {k : κ} : (found ve m k).map (·.2) = (alk m k).map ve := by
  rw [alk_aix]
  unfold found
  cases h : aix m k with
  | none => rfl
  | some i =>
    obtain ⟨hlt, _⟩ := aix_some h
    simp [List.getElem?_eq_getElem hlt]

theorem Ev.lkp {x i : Operand} {b : Nat} {ok : Bool} {kt : TypeId} {zero : Value} {m : List (κ × β)} {k : κ} (hx : ρ.ev x = some (.map (some b))) (hi : ρ.ev i = some (ke k)) (hh : Has cs (Mt b ke ve m) r) (hk : KeyOk P kt ke) :
    Ev P (.lkp ok kt zero x i) ρ cs (if ok then .tuple #[((alk m k).map ve).getD zero, .bool (alk m k).isSome] else ((alk m k).map ve).getD zero) := by
  refine ⟨rfl, fun w hs => ?_⟩
  obtain ⟨es, c, hb, hm⟩ := hs.mt hh
  refine ⟨_, _, es, _, hx, hi, ⟨c, hb⟩, hk.at_ hm k, ?_, rfl⟩
  have e1 := found_snd (ve := ve) (m := m) (k := k)
  have e2 : (found ve m k).isSome = (alk m k).isSome := by have := congrArg Option.isSome e1; simpa using this
  rw [e1, e2]

/-- A look with two answers. -/
theorem JT.lkp {d : Nat} {x i : Operand} {b : Nat} {kt : TypeId} {zero : Value} {m : List (κ × β)} {k : κ} (hx : ρ.ev x = some (.map (some b))) (hi : ρ.ev i = some (ke k)) (hh : Has cs (Mt b ke ve m) r) (hk : KeyOk P kt ke)
    (h1 : ∀ v, alk m k = some v → JT P t ((d, .tuple [ve v, .bool true].toArray) :: ρ) cs K) (h2 : alk m k = none → JT P t ((d, .tuple [zero, .bool false].toArray) :: ρ) cs K) : JT P (.st ⟨some d, .lkp true kt zero x i, none⟩ t) ρ cs K := by
  have := Ev.lkp (ok := true) (zero := zero) hx hi hh hk
  simp only [if_true] at this
  refine JT.q this ?_
  cases h : alk m k with
  | none => exact h2 h
  | some v => exact h1 v h
theorem JT.lkp1 {d : Nat} {x i : Operand} {b : Nat} {kt : TypeId} {zero : Value} {m : List (κ × β)} {k : κ} (hx : ρ.ev x = some (.map (some b))) (hi : ρ.ev i = some (ke k)) (hh : Has cs (Mt b ke ve m) r) (hk : KeyOk P kt ke)
    (h1 : ∀ v, alk m k = some v → JT P t ((d, ve v) :: ρ) cs K) (h2 : alk m k = none → JT P t ((d, zero) :: ρ) cs K) : JT P (.st ⟨some d, .lkp false kt zero x i, none⟩ t) ρ cs K := by
  have := Ev.lkp (ok := false) (zero := zero) hx hi hh hk
  simp only [Bool.false_eq_true, if_false] at this
  refine JT.q this ?_
  cases h : alk m k with
  | none => exact h2 h
  | some v => exact h1 v h

theorem Ev.lnm {x : Operand} {b : Nat} {m : List (κ × β)} (hx : ρ.ev x = some (.map (some b))) (hh : Has cs (Mt b ke ve m) r) : Ev P (.lnm x) ρ cs (i64 (m.length : Int)) := by
  refine ⟨rfl, fun w hs => ?_⟩
  obtain ⟨es, c, hb, hm⟩ := hs.mt hh
  refine ⟨some b, hx, es, c, hb, ?_, rfl⟩
  rw [hm.size]

theorem Sat.mtMk {h : Heap} {b c : Nat} {es : Array MapEntry} {m : List (κ × β)} (hs : Sat h (pt b (.map es c) :: cs)) (hm : mapOk es c (m.map fun x => (ke x.1, ve x.2))) : Sat h (Mt b ke ve m :: cs) := by
  refine hs.imp ?_
  rintro S H ⟨H1, H2, h1, h2, hd, hp, hr⟩
  exact ⟨H1, H2, h1, h2, hd, ⟨(es, c), hp, hm⟩, hr⟩

theorem JT.mkm (ke : κ → Value) (ve : β → Value) {d : Nat} (h : ∀ b, JT P t ((d, .map (some b)) :: ρ) (Mt b ke ve ([] : List (κ × β)) :: cs) K) : JT P (.st ⟨some d, .mkm, none⟩ t) ρ cs K := ⟨by
  intro w hs
  simp only [runT, semG, Kd.sem]
  exact (h _).run _ ((hs.push _).mtMk ⟨by simp, by simp, by simp⟩)⟩

theorem Sat.mtPt {h : Heap} {b : Nat} {m : List (κ × β)} (hs : Sat h (Mt b ke ve m :: cs)) : ∃ es c, Sat h (pt b (.map es c) :: cs) ∧ mapOk es c (m.map fun x => (ke x.1, ve x.2)) := by
  obtain ⟨S, H, hS, hH, hd, H1, H2, h1, h2, hd', ⟨x, hx⟩, hr⟩ := hs
  exact ⟨_, _, ⟨S, H, hS, hH, hd, H1, H2, h1, h2, hd', hx.1, hr⟩, hx.2⟩

theorem Sat.setM {h : Heap} {b : Nat} {o o' : Obj} (hs : Sat h (pt b o :: cs)) (ho : vis o' = true := by rfl) : Sat (h.setIfInBounds b o') (pt b o' :: cs) := by
  have hb := hs.get
  have hlt := (Array.getElem?_eq_some_iff.1 hb).1
  exact hs.set (Array.getElem?_setIfInBounds_self_of_lt hlt) (fun k hk => Array.getElem?_setIfInBounds_ne (Ne.symm hk)) ho

theorem mapOk.put {es : Array MapEntry} {c : Nat} {m : List (κ × β)} (hm : mapOk es c (m.map fun x => (ke x.1, ve x.2))) (k : κ) (v : β) :
    ∃ es' c', mapPut es c (ke k) (ve v) (found ve m k) = .map es' c' ∧ mapOk es' c' ((aput m k v).map fun x => (ke x.1, ve x.2)) := by
  obtain ⟨h1, h2, h3⟩ := hm
  unfold found aput
  cases h : aix m k with
  | none =>
    refine ⟨_, _, rfl, by simp [h1], fun e he => ?_, ?_⟩
    · simp only [Array.toList_push, List.mem_append, List.mem_singleton] at he
      rcases he with he | rfl
      · have := h2 e he; omega
      · simp
    · simp only [Array.toList_push, List.map_append, List.map_cons, List.map_nil]
      rw [List.nodup_append]
      refine ⟨h3, by simp, fun a ha b hb => ?_⟩
      simp only [List.mem_singleton] at hb
      subst hb
      obtain ⟨e, he, rfl⟩ := List.mem_map.1 ha
      have := h2 e he; omega
  | some i =>
    obtain ⟨hlt, _⟩ := aix_some h
    have hsz : es.size = m.length := by have := congrArg List.length h1; simpa using this
    have hmod : (es.modify i fun e => { e with key := ke k, val := ve v }).toList = es.toList.modify i fun e => { e with key := ke k, val := ve v } := by simp
    refine ⟨_, _, rfl, ?_, fun e he => ?_, ?_⟩
    · rw [hmod]
      apply List.ext_getElem?
      intro j
      have hj : (es.toList[j]?).map (fun e => (e.key, e.val)) = (m[j]?).map fun x => (ke x.1, ve x.2) := by rw [← List.getElem?_map, ← List.getElem?_map, h1]
      simp only [List.getElem?_map, List.getElem?_modify, List.getElem?_set]
      by_cases hij : i = j
      · subst hij
        rw [if_pos rfl, if_pos hlt]
        have : i < es.toList.length := by simpa [hsz] using hlt
        simp [List.getElem?_eq_getElem this]
      · simp only [if_neg hij, Option.map_map, Function.comp_def, id, Option.map_eq_map, Option.map_id']
        exact hj
    · rw [hmod] at he
      obtain ⟨j, hj⟩ := List.mem_iff_getElem?.1 he
      rw [List.getElem?_modify] at hj
      simp only [Option.map_eq_map, Option.map_eq_some_iff] at hj
      obtain ⟨e0, he0, rfl⟩ := hj
      have := h2 e0 (List.mem_iff_getElem?.2 ⟨j, he0⟩)
      split <;> exact this
    · rw [hmod]
      have : (es.toList.modify i fun e => { e with key := ke k, val := ve v }).map (·.born) = es.toList.map (·.born) := by
        apply List.ext_getElem?
        intro j
        simp only [List.getElem?_map, List.getElem?_modify]
        by_cases hij : i = j
        · simp [hij]
          cases es[j]? <;> rfl
        · simp only [if_neg hij, Option.map_eq_map, Option.map_map, Function.comp_def, id]
      rw [this]; exact h3

theorem JT.mup {b : Nat} {kt : TypeId} {mo k v : Operand} {m : List (κ × β)} {kk : κ} {vv : β} (hx : ρ.ev mo = some (.map (some b))) (hi : ρ.ev k = some (ke kk)) (hv : ρ.ev v = some (ve vv)) (hh : Has cs (Mt b ke ve m) r) (hk : KeyOk P kt ke)
    (h : JT P t ρ (Mt b ke ve (aput m kk vv) :: r) K) : JT P (.st ⟨none, .mup kt mo k v, none⟩ t) ρ cs K := ⟨by
  intro w hs
  obtain ⟨es, c, hs', hm⟩ := (hs.imp hh).mtPt
  obtain ⟨es', c', e1, e2⟩ := hm.put kk vv
  simp only [runT, semG, Kd.sem]
  refine ⟨b, es, c, _, _, _, hx, hi, hv, hs'.get, hk.at_ hm kk, h.run _ ?_⟩
  rw [e1]
  exact (hs'.setM).mtMk e2⟩

theorem map_eraseIdx {α γ : Type} (f : α → γ) : ∀ (l : List α) (i : Nat), (l.eraseIdx i).map f = (l.map f).eraseIdx i
  | [], i => by simp
  | a :: l, 0 => by simp
  | a :: l, i + 1 => by simp [map_eraseIdx f l i]

theorem mapOk.del {es : Array MapEntry} {c : Nat} {m : List (κ × β)} (hm : mapOk es c (m.map fun x => (ke x.1, ve x.2))) (k : κ) :
    ∃ es', mapDel es c (found ve m k) = .map es' c ∧ mapOk es' c ((adel m k).map fun x => (ke x.1, ve x.2)) := by
  unfold found adel
  cases h : aix m k with
  | none => exact ⟨_, rfl, hm⟩
  | some i =>
    obtain ⟨h1, h2, h3⟩ := hm
    obtain ⟨hlt, _⟩ := aix_some h
    have hsz : es.size = m.length := by have := congrArg List.length h1; simpa using this
    have he : (es.eraseIdxIfInBounds i).toList = es.toList.eraseIdx i := by
      simp [Array.eraseIdxIfInBounds, hsz, hlt]
    refine ⟨_, rfl, ?_, fun e hem => ?_, ?_⟩
    · rw [he, map_eraseIdx, h1, map_eraseIdx]
    · rw [he] at hem; exact h2 e (List.mem_of_mem_eraseIdx hem)
    · rw [he, map_eraseIdx]; exact h3.sublist (List.eraseIdx_sublist _ _)

theorem JT.del {b : Nat} {kt : TypeId} {mo k : Operand} {dst : Option Nat} {m : List (κ × β)} {kk : κ} (hx : ρ.ev mo = some (.map (some b))) (hi : ρ.ev k = some (ke kk)) (hh : Has cs (Mt b ke ve m) r) (hk : KeyOk P kt ke)
    (h : JT P t (ρ.put dst (.tuple #[])) (Mt b ke ve (adel m kk) :: r) K) : JT P (.st ⟨dst, .del kt mo k, none⟩ t) ρ cs K := ⟨by
  intro w hs
  obtain ⟨es, c, hs', hm⟩ := (hs.imp hh).mtPt
  obtain ⟨es', e1, e2⟩ := hm.del kk
  simp only [runT, semG, Kd.sem]
  refine ⟨b, es, c, _, _, hx, hi, hs'.get, hk.at_ hm kk, h.run _ ?_⟩
  rw [e1]
  exact (hs'.setM).mtMk e2⟩

/-! ### Through all of a map -/

theorem Has.me {b c : Nat} {es : Array MapEntry} {m : List (κ × β)} (hh : Has cs (Me b es c ke ve m) r) : Has cs (Mt b ke ve m) r :=
  Imp.trans hh fun S H ⟨H1, H2, h1, h2, hd, hp, hr⟩ => ⟨H1, H2, h1, h2, hd, ⟨(es, c), hp⟩, hr⟩
theorem Imp.me {b c : Nat} {es : Array MapEntry} {m : List (κ × β)} {ds : List Assn} (hh : Has cs (Me b es c ke ve m) r) (h : Imp r ds) : Imp cs (Mt b ke ve m :: ds) := Imp.take (Has.me hh) h

theorem JT.openM {b : Nat} {m : List (κ × β)} (hh : Has cs (Mt b ke ve m) r) (h : ∀ es c, JT P t ρ (Me b es c ke ve m :: r) K) : JT P t ρ cs K :=
  JT.has hh (JT.ex fun x => h x.1 x.2)
theorem J.openM {N : Nat} {cc : CC} {Q : Exit → Env → List Assn → Prop} {b : Nat} {m : List (κ × β)} (hh : Has cs (Mt b ke ve m) r) (h : ∀ es c, J P N cc ρ (Me b es c ke ve m :: r) Q) : J P N cc ρ cs Q :=
  J.has hh (J.ex fun x => h x.1 x.2)

theorem JT.rng {d : Nat} {x : Operand} {b c : Nat} {es : Array MapEntry} {m : List (κ × β)} (hx : ρ.ev x = some (.map (some b))) (hh : Has cs (Me b es c ke ve m) r)
    (h : ∀ it, JT P t ((d, ptr it) :: ρ) (It it b c es [] :: cs) K) : JT P (.st ⟨some d, .rng x, none⟩ t) ρ cs K := ⟨by
  intro w hs
  simp only [runT, semG, Kd.sem]
  refine ⟨b, es, c, hx, (hs.me hh).1, (h w.size).run _ ((hs.push _).imp ?_)⟩
  rintro S H ⟨H1, H2, h1, h2, hd, hp, hr⟩
  exact ⟨H1, H2, h1, h2, hd, ⟨hp, by simp, by simp⟩, hr⟩⟩

theorem JT.nxt {d : Nat} {x : Operand} {it b c : Nat} {es : Array MapEntry} {m : List (κ × β)} {done : List Nat} {r1 : List Assn} (hx : ρ.ev x = some (ptr it)) (hi : Has cs (It it b c es done) r) (hh : Has r (Me b es c ke ve m) r1)
    (h1 : ∀ i (hi : i < m.length), i ∉ done → JT P t ((d, .tuple [.bool true, ke (m[i]).1, ve (m[i]).2].toArray) :: ρ) (It it b c es (done ++ [i]) :: r) K)
    (h2 : (∀ i, i < m.length → i ∈ done) → JT P t ((d, .tuple [.bool false].toArray) :: ρ) cs K) : JT P (.st ⟨some d, .nxt x, none⟩ t) ρ cs K := ⟨by
  intro w hs
  obtain ⟨hb, hm⟩ := (hs.imp (Imp.trans hi Imp.drop)).me hh
  have hsz := hm.size
  have hval := hm.val
  obtain ⟨e1, e2, e3⟩ := hm
  obtain ⟨S, H, _, hH, hit, hnd, hlt⟩ := hs.mem hi
  have hit' := hH _ _ hit
  have hborn : ∀ i (hi : i < es.size), (es[i]?.map (·.born)).getD 0 = es[i].born := fun i hi => by simp [hi]
  have hinj : ∀ i j (hi : i < es.size) (hj : j < es.size), es[i].born = es[j].born → i = j := by
    intro i j hi hj h
    have key := (List.getElem_inj (h₀ := by simpa using hi) (h₁ := by simpa using hj) e3).1
    exact key (by simp only [List.getElem_map, Array.getElem_toList]; exact h)
  have hseen : ∀ i (hi : i < es.size), (done.map fun i => (es[i]?.map (·.born)).getD 0).toArray.contains es[i].born = decide (i ∈ done) := by
    intro i hi
    rw [Bool.eq_iff_iff]
    simp only [List.contains_toArray, List.contains_eq_mem, decide_eq_true_eq, List.mem_map]
    constructor
    · rintro ⟨j, hj, he⟩
      rw [hborn j (hlt j hj)] at he
      rw [← hinj j i (hlt j hj) hi he]; exact hj
    · intro h; exact ⟨i, h, hborn i hi⟩
  have hmemes : ∀ e, e ∈ es.toList → ∃ i, ∃ (hi : i < es.size), es[i] = e := by
    intro e he
    obtain ⟨i, hi, he⟩ := List.mem_iff_getElem.1 he
    exact ⟨i, by simpa using hi, by simpa using he⟩
  simp only [runT, semG, Kd.sem]
  refine ⟨it, b, c, _, c, es, c, hx, hit', hb, ?_, fun e he hse => ?_, fun hall => ?_⟩
  · cases hemp : es.isEmpty
    · have : es.all (fun x => decide (x.born ≥ c)) = false := by
        rw [Array.all_eq_false]
        have h0 : 0 < es.size := by
          rcases Nat.eq_zero_or_pos es.size with h | h
          · have : es.isEmpty = true := by simpa using h
            rw [this] at hemp; cases hemp
          · exact h
        refine ⟨0, h0, ?_⟩
        have := e2 es[0] (by simp)
        simp; omega
      rw [this]; simp
    · simp
  · obtain ⟨i, hi', rfl⟩ := hmemes e he
    rw [hseen i hi'] at hse
    have hnd' : i ∉ done := by simpa using hse
    have him : i < m.length := by omega
    have hv := hval i
    rw [Array.getElem?_eq_getElem hi', List.getElem?_eq_getElem him] at hv
    simp only [Option.map_some, Option.some.injEq, Prod.mk.injEq] at hv
    rw [hv.1, hv.2]
    refine (h1 i him hnd').run _ ?_
    have hpt : Sat w (pt it (.mapIter (some b) c (done.map fun i => (es[i]?.map (·.born)).getD 0).toArray c) :: r) := by
      refine (hs.imp hi).imp ?_
      rintro S H ⟨H1, H2, h1, h2, hd, hp, hr⟩
      exact ⟨H1, H2, h1, h2, hd, hp.1, hr⟩
    have hput := Sat.setM (o' := Obj.mapIter (some b) c ((done.map fun i => (es[i]?.map (·.born)).getD 0).toArray.push es[i].born) c) hpt rfl
    refine hput.imp ?_
    rintro S H ⟨H1, H2, h1, h2, hd, hp, hr⟩
    refine ⟨H1, H2, h1, h2, hd, ⟨?_, ?_, ?_⟩, hr⟩
    · rw [hp]; simp [hi']
    · rw [List.nodup_append]
      exact ⟨hnd, by simp, fun a ha b hb => by simp at hb; subst hb; rintro rfl; exact hnd' ha⟩
    · intro j hj
      rcases List.mem_append.1 hj with hj | hj
      · exact hlt j hj
      · simp at hj; omega
  · refine (h2 fun i hi' => ?_).run _ hs
    have hi2 : i < es.size := by omega
    cases hd : decide (i ∈ done)
    · have := hall es[i] (by simp) (by rw [hseen i hi2]; exact hd)
      have := e2 es[i] (by simp)
      omega
    · exact of_decide_eq_true hd⟩

end
end Go.SL

set_option linter.unusedSimpArgs false
set_option linter.unusedVariables false
set_option linter.unusedSectionVars false
namespace Go.SL
open Go

section
variable {P : Program} {N : Nat} {ρ : Env} {cs r : List Assn} {t : Tr} {K : Env → List Assn → Prop} {Q : Exit → Env → List Assn → Prop}

theorem seqQ_n (h : K ρ cs) : seqQ K Q .normal ρ cs := h
theorem seqQ_r (h : Q .ret ρ cs) : seqQ K Q .ret ρ cs := h
theorem seqQ_x {i : Nat} (h : Q (.exit i) ρ cs) : seqQ K Q (.exit i) ρ cs := h
theorem blockQ_n {id : Nat} (h : Q .normal ρ cs) : blockQ id Q .normal ρ cs := h
theorem blockQ_r {id : Nat} (h : Q .ret ρ cs) : blockQ id Q .ret ρ cs := h
theorem blockQ_hit {id : Nat} (h : Q .normal ρ cs) : blockQ id Q (.exit id) ρ cs := by simp only [blockQ, if_true]; exact h
theorem blockQ_miss {i id : Nat} (hi : Nat.beq i id = false) (h : Q (.exit i) ρ cs) : blockQ id Q (.exit i) ρ cs := by
  have : i ≠ id := fun e => by subst e; rw [Nat.beq_refl] at hi; cases hi
  simp only [blockQ, if_neg this]; exact h

theorem J.condT {o : Operand} {x y : CC} (hb : ρ.ev o = some (.bool true)) (h : J P N x ρ cs Q) : J P N (.cond o x y) ρ cs Q := J.cond hb (fun _ => h) (fun e => by cases e)
theorem J.condF {o : Operand} {x y : CC} (hb : ρ.ev o = some (.bool false)) (h : J P N y ρ cs Q) : J P N (.cond o x y) ρ cs Q := J.cond hb (fun e => by cases e) (fun _ => h)


theorem Rets.cw {t n b T : Nat} {l : List Value} {rs : List RV} {vs : List Value} (h : ρ.lk t = some (.pointer (some ⟨b, 0, none⟩))) (hh : Has cs (pc b T l) r) (hn : l.length = n) (hr : Rets ρ cs rs vs) :
    Rets ρ cs (.c t (some n) :: rs) (.agg l.toArray :: vs) :=
  Rets.cn h (fun w hs => by rw [cells_of (hs.pc hh) n 0 (by simp [hn])]; simp [← hn]) hr
theorem Rets.cv {t b T : Nat} {v : Value} {rs : List RV} {vs : List Value} (h : ρ.lk t = some (.pointer (some ⟨b, 0, none⟩))) (hh : Has cs (pc b T [v]) r) (hr : Rets ρ cs rs vs) :
    Rets ρ cs (.c t none :: rs) (v :: vs) :=
  Rets.c1 h (fun w hs => by rw [cell_of (hs.pc hh)]; rfl) hr

/-- It comes back with just this. -/
def Det (v0 : Value) (cs0 : List Assn) : Value → List Assn → Prop := fun v cs => v = v0 ∧ cs = cs0
/-- It comes back with one of these. -/
def Some' {α : Type} (p : α → Prop) (V : α → Value) (C : α → List Assn) : Value → List Assn → Prop := fun v cs => ∃ x, p x ∧ v = V x ∧ cs = C x

theorem JT.callD {d : Nat} {f : Operand} {args : List Operand} {fid : Nat} {vs : List Value} {cs0 cs1 : List Assn} {v0 : Value} (hf : ρ.ev f = some (.func (.func fid) #[] #[])) (ha : ρ.evs args = some vs)
    (hi : Up cs cs0) (hfn : Meets P fid vs cs0 (Det v0 cs1)) (h : JT P t ((d, v0) :: ρ) cs1 K) : JT P (.st ⟨some d, .call f args, none⟩ t) ρ cs K :=
  JT.call hf ha hfn hi fun v cs' ⟨e1, e2⟩ => by subst e1 e2; exact h
theorem JT.callS {d : Nat} {f : Operand} {args : List Operand} {fid : Nat} {vs : List Value} {cs0 : List Assn} {α : Type} {p : α → Prop} {V : α → Value} {C : α → List Assn} (hf : ρ.ev f = some (.func (.func fid) #[] #[])) (ha : ρ.evs args = some vs)
    (hi : Up cs cs0) (hfn : Meets P fid vs cs0 (Some' p V C)) (h : ∀ x, p x → JT P t ((d, V x) :: ρ) (C x) K) : JT P (.st ⟨some d, .call f args, none⟩ t) ρ cs K :=
  JT.call hf ha hfn hi fun v cs' ⟨x, hx, e1, e2⟩ => by subst e1 e2; exact h x hx
theorem JT.callD0 {f : Operand} {args : List Operand} {fid : Nat} {vs : List Value} {cs0 cs1 : List Assn} {v0 : Value} (hf : ρ.ev f = some (.func (.func fid) #[] #[])) (ha : ρ.evs args = some vs)
    (hi : Up cs cs0) (hfn : Meets P fid vs cs0 (Det v0 cs1)) (h : JT P t ρ cs1 K) : JT P (.st ⟨none, .call f args, none⟩ t) ρ cs K :=
  JT.call hf ha hfn hi fun v cs' ⟨e1, e2⟩ => by subst e1 e2; exact h
theorem JT.callS0 {f : Operand} {args : List Operand} {fid : Nat} {vs : List Value} {cs0 : List Assn} {α : Type} {p : α → Prop} {V : α → Value} {C : α → List Assn} (hf : ρ.ev f = some (.func (.func fid) #[] #[])) (ha : ρ.evs args = some vs)
    (hi : Up cs cs0) (hfn : Meets P fid vs cs0 (Some' p V C)) (h : ∀ x, p x → JT P t ρ (C x) K) : JT P (.st ⟨none, .call f args, none⟩ t) ρ cs K :=
  JT.call hf ha hfn hi fun v cs' ⟨x, hx, e1, e2⟩ => by subst e1 e2; exact h x hx

theorem retD {rs : List RV} {v0 : Value} {cs1 : List Assn} {vs : List Value} (h : Rets ρ cs rs vs) (hv : mkRet vs = v0) (hi : Up cs cs1) : ∃ vs cs2, Rets ρ cs rs vs ∧ Up cs cs2 ∧ Det v0 cs1 (mkRet vs) cs2 := ⟨vs, cs1, h, hi, hv, rfl⟩
theorem retS {rs : List RV} {α : Type} {p : α → Prop} {V : α → Value} {C : α → List Assn} {vs : List Value} (x : α) (h : Rets ρ cs rs vs) (hp : p x) (hv : mkRet vs = V x) (hi : Up cs (C x)) : ∃ vs cs2, Rets ρ cs rs vs ∧ Up cs cs2 ∧ Some' p V C (mkRet vs) cs2 := ⟨vs, C x, h, hi, x, hp, hv, rfl⟩

theorem Cells.cl {x : Operand} {j n : Nat} {v u : Value} {s : List Src} {out : List Value} (hx : ρ.ev x = some v) (hn : v.cells.toList.length = n) (hu : lnth v.cells.toList j = some u) (h : Cells ρ s out) : Cells ρ (.c x j n :: s) (u :: out) :=
  .c hx (by simpa using hn) (by rw [lnth_eq] at hu; simpa using hu) h

/-! Numbers that count -/
class IsC (z : Int) (n : outParam Nat) : Prop where
  h : z = (n : Int)
instance {n : Nat} : IsC (n : Int) n := ⟨rfl⟩
instance {n : Nat} : IsC (@OfNat.ofNat Int n (@instOfNat n)) (@OfNat.ofNat Nat n (instOfNatNat n)) := ⟨rfl⟩
theorem Ev.addN {x y : Operand} {z1 z2 : Int} {a b : Nat} [H1 : IsC z1 a] [H2 : IsC z2 b] (hx : ρ.ev x = some (.int .i64 z1)) (hy : ρ.ev y = some (.int .i64 z2)) (h : a + b ≤ 9223372036854775807) : Ev P (.bini .add x y) ρ cs (.int .i64 ((a + b : Nat) : Int)) :=
  Ev.add hx hy (by rw [H1.h, H2.h, Int.natCast_add]; exact Wr.i64 (by omega) (by omega))
theorem Ev.subN {x y : Operand} {z1 z2 : Int} {a b : Nat} [H1 : IsC z1 a] [H2 : IsC z2 b] (hx : ρ.ev x = some (.int .i64 z1)) (hy : ρ.ev y = some (.int .i64 z2)) (h : b ≤ a) (h' : a ≤ 9223372036854775807) : Ev P (.bini .sub x y) ρ cs (.int .i64 ((a - b : Nat) : Int)) :=
  Ev.sub hx hy (by rw [H1.h, H2.h, Int.ofNat_sub h]; exact Wr.i64 (by omega) (by omega))
theorem Bd.c {d n : Nat} {o : Operand} {k : IntKind} {z : Int} [H : IsC z n] (h : ρ.ev o = some (.int k z)) : Bd ρ d (some o) n := Bd.so (k := k) (by rw [h, H.h])
theorem Bd.si {d : Nat} {o : Operand} {k : IntKind} {z : Int} (h : ρ.ev o = some (.int k z)) (h0 : 0 ≤ z) : Bd ρ d (some o) z.toNat := Bd.so (k := k) (by rw [h, Int.toNat_of_nonneg h0])

/-! Comparisons that are known -/
section
variable {x y : Operand} {k : IntKind} {n m : Int}
theorem Ev.cltT (hx : ρ.ev x = some (.int k n)) (hy : ρ.ev y = some (.int k m)) (h : n < m) : Ev P (.bini .lss x y) ρ cs (.bool true) := Ev.int hx hy (by simp [intBin]; omega)
theorem Ev.cltF (hx : ρ.ev x = some (.int k n)) (hy : ρ.ev y = some (.int k m)) (h : ¬ n < m) : Ev P (.bini .lss x y) ρ cs (.bool false) := Ev.int hx hy (by simp [intBin]; omega)
theorem Ev.cgtT (hx : ρ.ev x = some (.int k n)) (hy : ρ.ev y = some (.int k m)) (h : m < n) : Ev P (.bini .gtr x y) ρ cs (.bool true) := Ev.int hx hy (by simp [intBin]; omega)
theorem Ev.cgtF (hx : ρ.ev x = some (.int k n)) (hy : ρ.ev y = some (.int k m)) (h : ¬ m < n) : Ev P (.bini .gtr x y) ρ cs (.bool false) := Ev.int hx hy (by simp [intBin]; omega)
theorem Ev.cleT (hx : ρ.ev x = some (.int k n)) (hy : ρ.ev y = some (.int k m)) (h : n ≤ m) : Ev P (.bini .leq x y) ρ cs (.bool true) := Ev.int hx hy (by simp [intBin]; omega)
theorem Ev.cleF (hx : ρ.ev x = some (.int k n)) (hy : ρ.ev y = some (.int k m)) (h : ¬ n ≤ m) : Ev P (.bini .leq x y) ρ cs (.bool false) := Ev.int hx hy (by simp [intBin]; omega)
theorem Ev.cgeT (hx : ρ.ev x = some (.int k n)) (hy : ρ.ev y = some (.int k m)) (h : m ≤ n) : Ev P (.bini .geq x y) ρ cs (.bool true) := Ev.int hx hy (by simp [intBin]; omega)
theorem Ev.cgeF (hx : ρ.ev x = some (.int k n)) (hy : ρ.ev y = some (.int k m)) (h : ¬ m ≤ n) : Ev P (.bini .geq x y) ρ cs (.bool false) := Ev.int hx hy (by simp [intBin]; omega)
theorem Ev.ceqT (hx : ρ.ev x = some (.int k n)) (hy : ρ.ev y = some (.int k m)) (h : n = m) : Ev P (.bini .eql x y) ρ cs (.bool true) := Ev.int hx hy (by simp [intBin]; omega)
theorem Ev.ceqF (hx : ρ.ev x = some (.int k n)) (hy : ρ.ev y = some (.int k m)) (h : ¬ n = m) : Ev P (.bini .eql x y) ρ cs (.bool false) := Ev.int hx hy (by simp [intBin]; omega)
theorem Ev.cneT (hx : ρ.ev x = some (.int k n)) (hy : ρ.ev y = some (.int k m)) (h : ¬ n = m) : Ev P (.bini .neq x y) ρ cs (.bool true) := Ev.int hx hy (by simp [intBin]; omega)
theorem Ev.cneF (hx : ρ.ev x = some (.int k n)) (hy : ρ.ev y = some (.int k m)) (h : n = m) : Ev P (.bini .neq x y) ρ cs (.bool false) := Ev.int hx hy (by simp [intBin]; omega)
end

/-! The frame said otherwise -/
theorem JT.envR {ρ' : Env} (e : ρ = ρ') (h : JT P t ρ' cs K) : JT P t ρ cs K := e ▸ h
theorem J.envR {cc : CC} {ρ' : Env} (e : ρ = ρ') (h : J P N cc ρ' cs Q) : J P N cc ρ cs Q := e ▸ h
theorem Ev.envR {k : Kd} {v : Value} {ρ' : Env} (e : ρ = ρ') (h : Ev P k ρ' cs v) : Ev P k ρ cs v := e ▸ h

/-! What a goal is -/
theorem imp1 {p q : Prop} (h : p → q) : p → q := h
theorem J.im {p : Prop} {cc : CC} (h : p → J P N cc ρ cs Q) : p → J P N cc ρ cs Q := h
theorem JT.im {p : Prop} (h : p → JT P t ρ cs K) : p → JT P t ρ cs K := h
theorem Ev.im {p : Prop} {k : Kd} {v : Value} (h : p → Ev P k ρ cs v) : p → Ev P k ρ cs v := h

theorem Ev.id {k : Kd} {v : Value} (h : Ev P k ρ cs v) : Ev P k ρ cs v := h
theorem JT.id (h : JT P t ρ cs K) : JT P t ρ cs K := h
theorem JT.isC {dst : Option Nat} {f : Operand} {a : List Operand} (h : JT P (.st ⟨dst, .call f a, none⟩ t) ρ cs K) : JT P (.st ⟨dst, .call f a, none⟩ t) ρ cs K := h
theorem JT.isSt {n : Nat} {a x : Operand} (h : JT P (.st ⟨none, .st n a x, none⟩ t) ρ cs K) : JT P (.st ⟨none, .st n a x, none⟩ t) ρ cs K := h
theorem JT.isSl {dst : Option Nat} {n : Nat} {x : Operand} {a b c : Option Operand} (h : JT P (.st ⟨dst, .sl n x a b c, none⟩ t) ρ cs K) : JT P (.st ⟨dst, .sl n x a b c, none⟩ t) ρ cs K := h
theorem JT.isB {dst : Option Nat} {T n : Nat} {s : List Src} (h : JT P (.st ⟨dst, .bsl T s n, none⟩ t) ρ cs K) : JT P (.st ⟨dst, .bsl T s n, none⟩ t) ρ cs K := h
theorem JT.isA {dst : Option Nat} {T s b : Nat} {z : Array Value} {x y : Operand} (h : JT P (.st ⟨dst, .ap T s b z x y, none⟩ t) ρ cs K) : JT P (.st ⟨dst, .ap T s b z x y, none⟩ t) ρ cs K := h
theorem JT.isL {dst : Option Nat} {ok : Bool} {kt : Nat} {z : Value} {x i : Operand} (h : JT P (.st ⟨dst, .lkp ok kt z x i, none⟩ t) ρ cs K) : JT P (.st ⟨dst, .lkp ok kt z x i, none⟩ t) ρ cs K := h

/-- An operation under a guard that is not known, both ways. -/
theorem JT.gV {dst : Nat} {k : Kd} {g : Nat} {b : Bool} {u : Value} (hg : ρ.lk g = some u) (h1 : u = .bool b → JT P (.st ⟨some dst, k, none⟩ t) ρ cs K) (h2 : u ≠ .bool b → JT P t ((dst, undef) :: ρ) cs K) : JT P (.st ⟨some dst, k, some (g, b)⟩ t) ρ cs K := ⟨by
  intro w hs
  simp only [runT, semG]
  refine ⟨u, hg, fun e => ?_, fun e => (h2 e).run w hs⟩
  have := (h1 e).run w hs
  simpa only [runT, semG] using this⟩
theorem JT.gs {dst : Nat} {k : Kd} {g : Nat} {x b : Bool} (hg : ρ.lk g = some (.bool x)) (h1 : x = b → JT P (.st ⟨some dst, k, none⟩ t) ρ cs K) (h2 : x = (!b) → JT P t ((dst, undef) :: ρ) cs K) : JT P (.st ⟨some dst, k, some (g, b)⟩ t) ρ cs K :=
  JT.gV hg (fun e => h1 (by injection e)) (fun e => h2 (by cases x <;> cases b <;> simp_all))
theorem JT.gs2 {dst : Nat} {k : Kd} {g : Nat} {x y b : Bool} (hg : ρ.lk g = some (gd x (.bool y))) (h1 : x = true → y = b → JT P (.st ⟨some dst, k, none⟩ t) ρ cs K) (h2 : x = true → y = (!b) → JT P t ((dst, undef) :: ρ) cs K) (h3 : x = false → JT P t ((dst, undef) :: ρ) cs K) : JT P (.st ⟨some dst, k, some (g, b)⟩ t) ρ cs K := by
  cases x with
  | false => exact JT.gV hg (fun e => absurd e undef_ne) (fun _ => h3 rfl)
  | true => exact JT.gV hg (fun e => h1 rfl (by injection e)) (fun e => h2 rfl (by cases y <;> cases b <;> simp_all [gd_true]))
theorem JT.gk {dst : Nat} {k : Kd} {g : Nat} {b : Bool} (hg : ρ.lk g = some (.bool b)) (h1 : JT P (.st ⟨some dst, k, none⟩ t) ρ cs K) : JT P (.st ⟨some dst, k, some (g, b)⟩ t) ρ cs K :=
  JT.gs hg (fun _ => h1) (fun e => by cases b <;> cases e)

/-- What is quiet and taken as it comes. -/
def yK : Kd → Bool
  | .sl .. | .lkp .. => false
  | k => quietK k
theorem yK_quiet {k : Kd} (h : yK k = true) : quietK k = true := by cases k <;> first | exact h | (simp [yK] at h)

/-! Quiet operations, what they yield told later -/
theorem JT.y {dst : Nat} {k : Kd} {v : Value} (hq : yK k = true) (he : Ev P k ρ cs v) (h : JT P t ((dst, v) :: ρ) cs K) : JT P (.st ⟨some dst, k, none⟩ t) ρ cs K := JT.q he h
theorem JT.yT {dst : Nat} {k : Kd} {v : Value} {g : Nat} {b : Bool} (hq : yK k = true) (hg : ρ.lk g = some (.bool b)) (he : Ev P k ρ cs v) (h : JT P t ((dst, v) :: ρ) cs K) : JT P (.st ⟨some dst, k, some (g, b)⟩ t) ρ cs K := JT.qT hg he h
theorem JT.yg {dst : Nat} {k : Kd} {v : Value} {g : Nat} {x : Bool} (hq : yK k = true) (hg : ρ.lk g = some (.bool x)) (he : x = true → Ev P k ρ cs v) (h : JT P t ((dst, gd x v) :: ρ) cs K) : JT P (.st ⟨some dst, k, some (g, true)⟩ t) ρ cs K := JT.qg hg he h
theorem JT.yh {dst : Nat} {k : Kd} {v : Value} {g : Nat} {x : Bool} (hq : yK k = true) (hg : ρ.lk g = some (.bool x)) (he : x = false → Ev P k ρ cs v) (h : JT P t ((dst, gd (!x) v) :: ρ) cs K) : JT P (.st ⟨some dst, k, some (g, false)⟩ t) ρ cs K := JT.qh hg he h
theorem JT.yg2 {dst : Nat} {k : Kd} {v : Value} {g : Nat} {x y : Bool} (hq : yK k = true) (hg : ρ.lk g = some (gd x (.bool y))) (he : x = true → y = true → Ev P k ρ cs v) (h : JT P t ((dst, gd (x && y) v) :: ρ) cs K) : JT P (.st ⟨some dst, k, some (g, true)⟩ t) ρ cs K := JT.qg2 hg he h
theorem JT.yh2 {dst : Nat} {k : Kd} {v : Value} {g : Nat} {x y : Bool} (hq : yK k = true) (hg : ρ.lk g = some (gd x (.bool y))) (he : x = true → y = false → Ev P k ρ cs v) (h : JT P t ((dst, gd (x && !y) v) :: ρ) cs K) : JT P (.st ⟨some dst, k, some (g, false)⟩ t) ρ cs K := JT.qh2 hg he h
theorem JT.yA {d : Nat} {k : Kd} {v : Value} (hd : ρ.lk d = some v) (he : Ev P k ρ cs v) (h : JT P t ρ cs K) : JT P (.ag ⟨some d, k, none⟩ t) ρ cs K := JT.ag he hd h
theorem JT.yB {d : Nat} {k : Kd} {v : Value} {g : Nat} {b : Bool} (hg : ρ.lk g = some (.bool b)) (hd : ρ.lk d = some v) (he : Ev P k ρ cs v) (h : JT P t ρ cs K) : JT P (.ag ⟨some d, k, some (g, b)⟩ t) ρ cs K := JT.agT hg he hd h

/-- What is known of memory says something plain. -/
theorem J.fact {cc : CC} {p : Prop} (hp : ∀ h, Sat h cs → p) (h : p → J P N cc ρ cs Q) : J P N cc ρ cs Q := ⟨fun φ ha w hs => (h (hp _ hs)).run φ ha w hs⟩
theorem JT.fact {p : Prop} (hp : ∀ h, Sat h cs → p) (h : p → JT P t ρ cs K) : JT P t ρ cs K := ⟨fun w hs => (h (hp _ hs)).run w hs⟩

theorem Sat.capF {α : Type} {m : Bool} {enc : α → List Value} {sz c : Nat} {sv : Value} {xs : List α} {h : Heap} (hs : Sat h cs) (hh : Has cs (SlT m enc sz sv c xs) r) : xs.length ≤ c := (hs.slice hh).2.2.1
theorem Sat.nilF {α : Type} {m : Bool} {enc : α → List Value} {sz c n : Nat} {a : Option Addr} {xs : List α} {h : Heap} (hs : Sat h cs) (hh : Has cs (SlT m enc sz (.slice a n c) c xs) r) : a = none → xs = [] := by
  obtain ⟨S, H, _, _, hz, h0, hc⟩ := hs.mem hh
  rintro rfl
  cases m with
  | true =>
    rcases hc with ⟨h1, h2, h3⟩ | ⟨b, T, pre, rest, h1, _⟩
    · simpa using h2
    · simp at h1
  | false =>
    rcases hc with ⟨h2, _⟩ | ⟨b, off', T, fz, C, h1, _⟩
    · simpa using h2
    · simp at h1

theorem J.slF {cc : CC} {α : Type} {m : Bool} {enc : α → List Value} {sz c n : Nat} {a : Option Addr} {xs : List α} (hh : Has cs (SlT m enc sz (.slice a n c) c xs) r)
    (h : xs.length ≤ c → xs.length ≤ 140737488355328 → (a = none → xs = []) → J P N cc ρ cs Q) : J P N cc ρ cs Q :=
  J.fact (fun _ hs => hs.capF hh) fun h1 => J.fact (fun _ hs => hs.lenF hh) fun h2 => J.fact (fun _ hs => hs.nilF hh) fun h3 => h h1 h2 h3

/-! Slices by their head's address -/
theorem JT.form {α : Type} {d : Nat} {m : Bool} {enc : α → List Value} {sz c : Nat} {xs : List α} (h : ∀ a, JT P t ((d, .slice a xs.length c) :: ρ) (SlT m enc sz (.slice a xs.length c) c xs :: cs) K) (sv : Value) :
    JT P t ((d, sv) :: ρ) (SlT m enc sz sv c xs :: cs) K := by
  refine JT.fact (p := ∃ a, sv = .slice a xs.length c) (fun w hs => ?_) fun ⟨a, e⟩ => by rw [e]; exact h a
  obtain ⟨S, H, _, _, hc⟩ := hs.mem Has.here
  obtain ⟨a, rfl, _⟩ := SlT.form hc
  exact ⟨a, rfl⟩

section
variable {α : Type} {d sz c : Nat} {x : Operand} {lo hi mx : Option Operand} {enc : α → List Value} {sv : Value} {xs : List α}
theorem JT.sF {m : Nat} (hx : ρ.ev x = some sv) (hh : Has cs (SlT false enc sz sv c xs) r) (hl : Bd ρ 0 lo 0) (hu : Bd ρ xs.length hi xs.length) (hm : Bd ρ c mx m) (hmh : mx.isSome = true → hi.isSome = true) (h3 : xs.length ≤ m) (h4 : m ≤ c)
    (h : ∀ a, JT P t ((d, .slice a xs.length m) :: ρ) (SlT false enc sz (.slice a xs.length m) m xs :: cs) K) : JT P (.st ⟨some d, .sl sz x lo hi mx, none⟩ t) ρ cs K :=
  JT.slS hx hh hm hu hl hmh (by omega) (by omega) h3 h4 (JT.form (by simpa using h))
theorem JT.sD {l m : Nat} (hx : ρ.ev x = some sv) (hh : Has cs (SlT false enc sz sv c xs) r) (hl : Bd ρ 0 lo l) (hu : Bd ρ xs.length hi xs.length) (hm : Bd ρ c mx m) (hmh : mx.isSome = true → hi.isSome = true) (h1 : l ≤ xs.length) (h3 : xs.length ≤ m) (h4 : m ≤ c)
    (h : ∀ a, JT P t ((d, .slice a (xs.drop l).length (m - l)) :: ρ) (SlT false enc sz (.slice a (xs.drop l).length (m - l)) (m - l) (xs.drop l) :: cs) K) : JT P (.st ⟨some d, .sl sz x lo hi mx, none⟩ t) ρ cs K :=
  JT.slS hx hh hm hu hl hmh h1 (by omega) h3 h4 (JT.form (by simpa using h))
theorem JT.sT {u m : Nat} (hx : ρ.ev x = some sv) (hh : Has cs (SlT false enc sz sv c xs) r) (hl : Bd ρ 0 lo 0) (hu : Bd ρ xs.length hi u) (hm : Bd ρ c mx m) (hmh : mx.isSome = true → hi.isSome = true) (h1 : u ≤ xs.length) (h3 : u ≤ m) (h4 : m ≤ c)
    (h : ∀ a, JT P t ((d, .slice a (xs.take u).length m) :: ρ) (SlT false enc sz (.slice a (xs.take u).length m) m (xs.take u) :: cs) K) : JT P (.st ⟨some d, .sl sz x lo hi mx, none⟩ t) ρ cs K :=
  JT.slS hx hh hm hu hl hmh (by omega) h1 h3 h4 (JT.form (by simpa using h))
theorem JT.sG {l u m : Nat} (hx : ρ.ev x = some sv) (hh : Has cs (SlT false enc sz sv c xs) r) (hl : Bd ρ 0 lo l) (hu : Bd ρ xs.length hi u) (hm : Bd ρ c mx m) (hmh : mx.isSome = true → hi.isSome = true) (h0 : l ≤ u) (h1 : u ≤ xs.length) (h3 : u ≤ m) (h4 : m ≤ c)
    (h : ∀ a, JT P t ((d, .slice a ((xs.take u).drop l).length (m - l)) :: ρ) (SlT false enc sz (.slice a ((xs.take u).drop l).length (m - l)) (m - l) ((xs.take u).drop l) :: cs) K) : JT P (.st ⟨some d, .sl sz x lo hi mx, none⟩ t) ρ cs K :=
  JT.slS hx hh hm hu hl hmh h0 h1 h3 h4 (JT.form h)
theorem JT.oD {l m : Nat} (hx : ρ.ev x = some sv) (hh : Has cs (SlT true enc sz sv c xs) r) (hl : Bd ρ 0 lo l) (hu : Bd ρ xs.length hi xs.length) (hm : Bd ρ c mx m) (hmh : mx.isSome = true → hi.isSome = true) (h1 : l ≤ xs.length) (h3 : xs.length ≤ m) (h4 : m ≤ c)
    (h : ∀ a, JT P t ((d, .slice a (xs.drop l).length (m - l)) :: ρ) (SlT true enc sz (.slice a (xs.drop l).length (m - l)) (m - l) (xs.drop l) :: r) K) : JT P (.st ⟨some d, .sl sz x lo hi mx, none⟩ t) ρ cs K :=
  JT.slO hx hh hm hu hl hmh h1 (by omega) h3 h4 (JT.form (by simpa using h))
theorem JT.oT {u m : Nat} (hx : ρ.ev x = some sv) (hh : Has cs (SlT true enc sz sv c xs) r) (hl : Bd ρ 0 lo 0) (hu : Bd ρ xs.length hi u) (hm : Bd ρ c mx m) (hmh : mx.isSome = true → hi.isSome = true) (h1 : u ≤ xs.length) (h3 : u ≤ m) (h4 : m ≤ c)
    (h : ∀ a, JT P t ((d, .slice a (xs.take u).length m) :: ρ) (SlT true enc sz (.slice a (xs.take u).length m) m (xs.take u) :: r) K) : JT P (.st ⟨some d, .sl sz x lo hi mx, none⟩ t) ρ cs K :=
  JT.slO hx hh hm hu hl hmh (by omega) h1 h3 h4 (JT.form (by simpa using h))
end

section
variable {α : Type} {d T sz bytes c c1 : Nat} {m m' : Bool} {zero : Array Value} {x y : Operand} {enc : α → List Value} {sv sw : Value} {xs ys : List α} {r1 : List Assn} {l : List Value}
theorem JT.aO (hx : ρ.ev x = some sv) (hh : Has cs (SlT true enc sz sv c xs) r) (hy : ρ.ev y = some sw) (hg : Rd r enc sz c1 sw ys) (hzero : zero.size = sz) (hb0 : 0 < bytes)
    (hb : (xs.length + ys.length) * bytes ≤ 140737488355328)
    (h : ∀ a c', xs.length + ys.length ≤ c' → JT P t ((d, .slice a (xs ++ ys).length c') :: ρ) (SlT true enc sz (.slice a (xs ++ ys).length c') c' (xs ++ ys) :: r) K) : JT P (.st ⟨some d, .ap T sz bytes zero x y, none⟩ t) ρ cs K :=
  JT.apO hx hh hy hg rfl hzero hb0 hb fun sv' c' hc => JT.form (fun a => h a c' hc) sv'
theorem JT.aF (hx : ρ.ev x = some sv) (hh : Rd cs enc sz c sv xs) (hy : ρ.ev y = some sw) (hg : Rd cs enc sz c1 sw ys) (hzero : zero.size = sz) (hb0 : 0 < bytes)
    (hfull : c < xs.length + ys.length) (hb : (xs.length + ys.length) * bytes ≤ 140737488355328)
    (h : ∀ a c', xs.length + ys.length ≤ c' → JT P t ((d, .slice a (xs ++ ys).length c') :: ρ) (SlT true enc sz (.slice a (xs ++ ys).length c') c' (xs ++ ys) :: cs) K) : JT P (.st ⟨some d, .ap T sz bytes zero x y, none⟩ t) ρ cs K :=
  JT.apF hx hh hy hg rfl hzero hb0 hfull hb fun sv' c' hc => JT.form (fun a => h a c' hc) sv'
theorem JT.aS (hx : ρ.ev x = some sv) (hh : Has cs (SlT false enc sz sv c xs) r) (hy : ρ.ev y = some sw) (hg : Rd cs enc sz c1 sw ys) (hzero : zero.size = sz) (hb0 : 0 < bytes)
    (hc : c = xs.length) (hb : (xs.length + ys.length) * bytes ≤ 140737488355328)
    (h : ∀ a c', JT P t ((d, .slice a (xs ++ ys).length c') :: ρ) (SlT false enc sz (.slice a (xs ++ ys).length c') c' (xs ++ ys) :: cs) K) : JT P (.st ⟨some d, .ap T sz bytes zero x y, none⟩ t) ρ cs K := by
  subst hc
  exact JT.apS hx hh hy hg rfl hzero hb0 hb fun sv' c' => JT.form (fun a => h a c') sv'
/-- One more element. -/
theorem JT.aO1 {v : α} (hx : ρ.ev x = some sv) (hh : Has cs (SlT true enc sz sv c xs) r) (hy : ρ.ev y = some sw) (hg : Rd r (fun e => e) sz 1 sw [l]) (he : l = enc v) (hzero : zero.size = sz) (hb0 : 0 < bytes)
    (hb : (xs.length + 1) * bytes ≤ 140737488355328)
    (h : ∀ a c', xs.length + 1 ≤ c' → JT P t ((d, .slice a (xs ++ [v]).length c') :: ρ) (SlT true enc sz (.slice a (xs ++ [v]).length c') c' (xs ++ [v]) :: r) K) : JT P (.st ⟨some d, .ap T sz bytes zero x y, none⟩ t) ρ cs K :=
  JT.apO (ys := [v]) hx hh hy hg (by simp [he]) hzero hb0 hb fun sv' c' hc => JT.form (fun a => h a c' hc) sv'
theorem JT.aF1 {v : α} (hx : ρ.ev x = some sv) (hh : Rd cs enc sz c sv xs) (hy : ρ.ev y = some sw) (hg : Rd cs (fun e => e) sz 1 sw [l]) (he : l = enc v) (hzero : zero.size = sz) (hb0 : 0 < bytes)
    (hfull : c < xs.length + 1) (hb : (xs.length + 1) * bytes ≤ 140737488355328)
    (h : ∀ a c', xs.length + 1 ≤ c' → JT P t ((d, .slice a (xs ++ [v]).length c') :: ρ) (SlT true enc sz (.slice a (xs ++ [v]).length c') c' (xs ++ [v]) :: cs) K) : JT P (.st ⟨some d, .ap T sz bytes zero x y, none⟩ t) ρ cs K :=
  JT.apF (ys := [v]) hx hh hy hg (by simp [he]) hzero hb0 hfull hb fun sv' c' hc => JT.form (fun a => h a c' hc) sv'

theorem JT.bsl1 {src : List Src} {l : List Value} (hc : Cells ρ src l) (hl : l.length = sz) (hz : 0 < sz) (hu : l.all isOne = true)
    (h : ∀ a, JT P t ((d, .slice a 1 1) :: ρ) (SlT true (fun e => e) sz (.slice a 1 1) 1 [l] :: cs) K) : JT P (.st ⟨some d, .bsl T src 1, none⟩ t) ρ cs K :=
  JT.bsl (es := [l]) hc (by simp) rfl hz (by decide) (fun e he => by simp at he; subst he; exact ⟨hl, fun v hv => List.all_eq_true.1 hu v hv⟩) (JT.form (xs := [l]) h)
theorem JT.bslE {src : List Src} {len : Nat} (enc : α → List Value) (xs : List α) (hc : Cells ρ src ((xs.map enc).flatten)) (hn : xs.length = len) (hz : 0 < sz) (hL : len ≤ 140737488355328) (he : ∀ x, (enc x).length = sz ∧ ∀ v ∈ enc x, isOne v = true)
    (h : ∀ a, JT P t ((d, .slice a xs.length len) :: ρ) (SlT true enc sz (.slice a xs.length len) len xs :: cs) K) : JT P (.st ⟨some d, .bsl T src len, none⟩ t) ρ cs K := ⟨by
  intro w hs
  simp only [runT, semG, Kd.sem]
  refine ⟨_, hc, (JT.form h _).run _ ?_⟩
  exact SlT.mk (hs.push (.cells ((xs.map enc).flatten).toArray T)) rfl hn hz hL (fun x _ => he x)⟩
end

/-! What is among the parts, found by instances -/
class HP (cs : List Assn) (b : Nat) (T : outParam Nat) (l : outParam (List Value)) (r : outParam (List Assn)) : Prop where
  h : Has cs (pc b T l) r
instance {b T : Nat} {l : List Value} {r : List Assn} : HP (pc b T l :: r) b T l r := ⟨Has.here⟩
instance {b T : Nat} {l : List Value} {d : Assn} {r r' : List Assn} [H : HP r b T l r'] : HP (d :: r) b T l (d :: r') := ⟨Has.there H.h⟩

/-- What is a part of which slice. -/
def vw (sv' sv : Value) (l u m sz : Nat) : Assn := pur (∃ a n c, sv = .slice a n c ∧ sv' = partV a sz l u m ∧ l ≤ u ∧ u ≤ n ∧ u ≤ m ∧ m ≤ c)
class HW (cs : List Assn) (sv' : Value) (sv : outParam Value) (l u m sz : outParam Nat) (r : outParam (List Assn)) : Prop where
  h : Has cs (vw sv' sv l u m sz) r
instance {sv' sv : Value} {l u m sz : Nat} {r : List Assn} : HW (vw sv' sv l u m sz :: r) sv' sv l u m sz r := ⟨Has.here⟩
instance {sv' sv : Value} {l u m sz : Nat} {d : Assn} {r r' : List Assn} [H : HW r sv' sv l u m sz r'] : HW (d :: r) sv' sv l u m sz (d :: r') := ⟨Has.there H.h⟩
class HS (cs : List Assn) (sv : Value) (α : outParam Type) (enc : outParam (α → List Value)) (sz c : outParam Nat) (xs : outParam (List α)) : Prop where
  h : Rd cs enc sz c sv xs
theorem Sat.vw {h : Heap} {cs r : List Assn} {sv' sv : Value} {l u m sz : Nat} (hs : Sat h cs) (hh : Has cs (vw sv' sv l u m sz) r) : ∃ a n c, sv = .slice a n c ∧ sv' = partV a sz l u m ∧ l ≤ u ∧ u ≤ n ∧ u ≤ m ∧ m ≤ c := by
  obtain ⟨S, H, _, _, hc⟩ := hs.mem hh
  exact hc
instance {α : Type} {enc : α → List Value} {sz c : Nat} {sv : Value} {xs : List α} {d : Assn} {r : List Assn} [H : HS r sv α enc sz c xs] : HS (d :: r) sv α enc sz c xs := ⟨H.h.there⟩
instance {α : Type} {m : Bool} {enc : α → List Value} {sz c : Nat} {sv : Value} {xs : List α} {r : List Assn} : HS (SlT m enc sz sv c xs :: r) sv α enc sz c xs := ⟨Rd.of Has.here⟩
instance {α : Type} {enc : α → List Value} {sz c l u m : Nat} {sv' sv : Value} {xs : List α} {cs r : List Assn} [W : HW cs sv' sv l u m sz r] [H : HS cs sv α enc sz c xs] : HS cs sv' α enc sz (m - l) ((xs.take u).drop l) := ⟨by
  intro h hs
  obtain ⟨a, n, c', e, rfl, h1, h2, h3, h4⟩ := hs.vw W.h
  have hr := H.h h hs
  obtain ⟨_, _, _, a', e', _⟩ := hr.slice Has.here
  subst e'
  injection e with e1 e2 e3
  subst e1 e2 e3
  exact (hr.part Has.here h1 h2 h3 h4).imp (Imp.cons (Imp.nil _))⟩

class HO (cs : List Assn) (sv : Value) (α : outParam Type) (enc : outParam (α → List Value)) (sz c : outParam Nat) (xs : outParam (List α)) (r : outParam (List Assn)) : Prop where
  h : Has cs (SlT true enc sz sv c xs) r
instance {α : Type} {enc : α → List Value} {sz c : Nat} {sv : Value} {xs : List α} {r : List Assn} : HO (SlT true enc sz sv c xs :: r) sv α enc sz c xs r := ⟨Has.here⟩
instance {α : Type} {enc : α → List Value} {sz c : Nat} {sv : Value} {xs : List α} {d : Assn} {r r' : List Assn} [H : HO r sv α enc sz c xs r'] : HO (d :: r) sv α enc sz c xs (d :: r') := ⟨Has.there H.h⟩

class HF (cs : List Assn) (sv : Value) (α : outParam Type) (enc : outParam (α → List Value)) (sz c : outParam Nat) (xs : outParam (List α)) (r : outParam (List Assn)) : Prop where
  h : Has cs (SlT false enc sz sv c xs) r
instance {α : Type} {enc : α → List Value} {sz c : Nat} {sv : Value} {xs : List α} {r : List Assn} : HF (SlT false enc sz sv c xs :: r) sv α enc sz c xs r := ⟨Has.here⟩
instance {α : Type} {enc : α → List Value} {sz c : Nat} {sv : Value} {xs : List α} {d : Assn} {r r' : List Assn} [H : HF r sv α enc sz c xs r'] : HF (d :: r) sv α enc sz c xs (d :: r') := ⟨Has.there H.h⟩

section
variable {α : Type} [Inhabited α] {a x i y : Operand} {m m' : Bool} {enc : α → List Value} {sz c c1 b o T n k d bytes : Nat} {kk : IntKind} {sv sw v : Value} {xs ys : List α} {z : Int} {l l' us : List Value} {r1 : List Assn} {zero : Array Value} {lo hi mx : Option Operand}
omit [Inhabited α] in
theorem Ev.rd {P : Program} {k : Kd} {ρ : Env} {cs : List Assn} {v : Value} (hr : Rd cs enc sz c sv xs) (he : Ev P k ρ [SlT false enc sz sv c xs] v) : Ev P k ρ cs v := ⟨he.q, fun h hs => he.run h (hr h hs)⟩
theorem Ev.L [H : HP cs b T l r] (h : ρ.ev a = some (.pointer (some ⟨b, o, none⟩))) (hv : lnth l o = some v) : Ev P (.ld none a) ρ cs v := Ev.ld h H.h hv
theorem Ev.Lw [H : HP cs b T l r] (h : ρ.ev a = some (.pointer (some ⟨b, 0, none⟩))) (hn : l.length = n) : Ev P (.ld (some n) a) ρ cs (.agg l.toArray) := Ev.ldw h H.h hn
theorem Ev.Lp [H : HP cs b T l r] (h : ρ.ev a = some (.pointer (some ⟨b, o, none⟩))) (hn : o + n ≤ l.length) (hu : lsub l o n = us) : Ev P (.ld (some n) a) ρ cs (.agg us.toArray) := Ev.ldp h H.h hn hu
theorem Ev.LE [H : HS cs sv α enc sz c xs] (h : ρ.ev a = some (elp sv (k * sz))) (hk : k < xs.length) : Ev P (.ld (some sz) a) ρ cs (.agg (enc (nth xs k)).toArray) := Ev.rd H.h (Ev.ldE h Has.here hk)
theorem Ev.LE1 [H : HS cs sv α enc sz c xs] (h : ρ.ev a = some (elp sv (k * sz + o))) (hk : k < xs.length) (hv : lnth (enc (nth xs k)) o = some v) (ho : o < sz) : Ev P (.ld none a) ρ cs v := Ev.rd H.h (Ev.ldE1 h Has.here hk hv ho)
theorem Ev.LE0 [H : HS cs sv α enc sz c xs] (h : ρ.ev a = some (elp sv (k * sz))) (hk : k < xs.length) (hv : lnth (enc (nth xs k)) 0 = some v) : Ev P (.ld none a) ρ cs v := Ev.rd H.h (Ev.ldE0 h Has.here hk hv)
theorem Ev.LEp [H : HS cs sv α enc sz c xs] (h : ρ.ev a = some (elp sv (k * sz + o))) (hk : k < xs.length) (hn : o + n ≤ sz) (hu : lsub (enc (nth xs k)) o n = us) : Ev P (.ld (some n) a) ρ cs (.agg us.toArray) := Ev.rd H.h (Ev.ldEp h Has.here hk hn hu)
omit [Inhabited α] in
theorem Ev.iC {k : Nat} [H : HS cs sv α enc sz c xs] [Hz : IsC z k] (hx : ρ.ev x = some sv) (hi : ρ.ev i = some (.int kk z)) (hk : k < xs.length) : Ev P (.ia sz x i) ρ cs (elp sv (k * sz)) := Ev.rd H.h (Ev.ia hx (kk := kk) (by rw [hi, Hz.h]) Has.here hk)
omit [Inhabited α] in
theorem Ev.iI [H : HS cs sv α enc sz c xs] (hx : ρ.ev x = some sv) (hi : ρ.ev i = some (.int kk z)) (h0 : 0 ≤ z) (hk : z.toNat < xs.length) : Ev P (.ia sz x i) ρ cs (elp sv (z.toNat * sz)) := Ev.rd H.h (Ev.ia hx (kk := kk) (by rw [hi, Int.toNat_of_nonneg h0]) Has.here hk)

theorem JT.w [H : HP cs b T l r] {us : List Value} (ha : ρ.ev a = some (.pointer (some ⟨b, 0, none⟩))) (hx : ρ.ev x = some (.agg us.toArray)) (hn : us.length = n) (hu : us.all isOne = true) (hl : l.length = n) (h : JT P t ρ (pc b T us :: r) K) : JT P (.st ⟨none, .st n a x, none⟩ t) ρ cs K := JT.stw ha hx hn hu H.h hl h
theorem JT.s [H : HP cs b T l r] (ha : ρ.ev a = some (.pointer (some ⟨b, o, none⟩))) (hx : ρ.ev x = some v) (hv : v.cells.toList = us) (hn : us.length = n) (hu : us.all isOne = true) (hl : o + n ≤ l.length) (hp : lput l o us = l') (h : JT P t ρ (pc b T l' :: r) K) :
    JT P (.st ⟨none, .st n a x, none⟩ t) ρ cs K := JT.stp ha hx hv hn hu H.h hl hp h
theorem JT.sE {x' : α} [H : HO cs sv α enc sz c xs r] (ha : ρ.ev a = some (elp sv (k * sz + o))) (hx : ρ.ev x = some v) (hv : v.cells.toList = us) (hn : us.length = n) (hu : us.all isOne = true) (hk : k < xs.length) (hl : o + n ≤ sz) (he : lput (enc (nth xs k)) o us = enc x')
    (h : JT P t ρ (SlT true enc sz sv c (xs.set k x') :: r) K) : JT P (.st ⟨none, .st n a x, none⟩ t) ρ cs K := JT.stE ha hx H.h hk hv hn hu hl he h
theorem JT.sE0 {x' : α} [H : HO cs sv α enc sz c xs r] (ha : ρ.ev a = some (elp sv (k * sz))) (hx : ρ.ev x = some v) (hv : v.cells.toList = us) (hn : us.length = n) (hu : us.all isOne = true) (hk : k < xs.length) (hl : n ≤ sz) (he : lput (enc (nth xs k)) 0 us = enc x')
    (h : JT P t ρ (SlT true enc sz sv c (xs.set k x') :: r) K) : JT P (.st ⟨none, .st n a x, none⟩ t) ρ cs K := JT.stE (o := 0) (by simpa using ha) hx H.h hk hv hn hu (by omega) he h

omit [Inhabited α]
theorem JT.G {l u m : Nat} [H : HF cs sv α enc sz c xs r] (hx : ρ.ev x = some sv) (hl : Bd ρ 0 lo l) (hu : Bd ρ xs.length hi u) (hm : Bd ρ c mx m) (hmh : mx.isSome = true → hi.isSome = true) (h0 : l ≤ u) (h1 : u ≤ xs.length) (h3 : u ≤ m) (h4 : m ≤ c)
    (h : ∀ a, JT P t ((d, .slice a ((xs.take u).drop l).length (m - l)) :: ρ) (SlT false enc sz (.slice a ((xs.take u).drop l).length (m - l)) (m - l) ((xs.take u).drop l) :: cs) K) : JT P (.st ⟨some d, .sl sz x lo hi mx, none⟩ t) ρ cs K :=
  JT.sG hx H.h hl hu hm hmh h0 h1 h3 h4 h
theorem JT.OG {l u m : Nat} [H : HO cs sv α enc sz c xs r] (hx : ρ.ev x = some sv) (hl : Bd ρ 0 lo l) (hu : Bd ρ xs.length hi u) (hm : Bd ρ c mx m) (hmh : mx.isSome = true → hi.isSome = true) (h0 : l ≤ u) (h1 : u ≤ xs.length) (h3 : u ≤ m) (h4 : m ≤ c)
    (h : ∀ a, JT P t ((d, .slice a ((xs.take u).drop l).length (m - l)) :: ρ) (SlT true enc sz (.slice a ((xs.take u).drop l).length (m - l)) (m - l) ((xs.take u).drop l) :: r) K) : JT P (.st ⟨some d, .sl sz x lo hi mx, none⟩ t) ρ cs K :=
  JT.slO hx H.h hm hu hl hmh h0 h1 h3 h4 (JT.form h)

theorem JT.A1 {v : α} [H : HO cs sv α enc sz c xs r] [G : HS r sw (List Value) (fun e => e) sz 1 [l]] (hx : ρ.ev x = some sv) (hy : ρ.ev y = some sw) (he : l = enc v) (hzero : zero.size = sz) (hb0 : 0 < bytes) (hb : (xs.length + 1) * bytes ≤ 140737488355328)
    (h : ∀ a c', xs.length + 1 ≤ c' → JT P t ((d, .slice a (xs ++ [v]).length c') :: ρ) (SlT true enc sz (.slice a (xs ++ [v]).length c') c' (xs ++ [v]) :: r) K) : JT P (.st ⟨some d, .ap T sz bytes zero x y, none⟩ t) ρ cs K := JT.aO1 hx H.h hy G.h he hzero hb0 hb h
theorem JT.A2 {v : α} [H : HS cs sv α enc sz c xs] [G : HS cs sw (List Value) (fun e => e) sz 1 [l]] (hx : ρ.ev x = some sv) (hy : ρ.ev y = some sw) (he : l = enc v) (hzero : zero.size = sz) (hb0 : 0 < bytes) (hfull : c < xs.length + 1) (hb : (xs.length + 1) * bytes ≤ 140737488355328)
    (h : ∀ a c', xs.length + 1 ≤ c' → JT P t ((d, .slice a (xs ++ [v]).length c') :: ρ) (SlT true enc sz (.slice a (xs ++ [v]).length c') c' (xs ++ [v]) :: cs) K) : JT P (.st ⟨some d, .ap T sz bytes zero x y, none⟩ t) ρ cs K := JT.aF1 hx H.h hy G.h he hzero hb0 hfull hb h
theorem JT.A3 [H : HO cs sv α enc sz c xs r] [G : HS r sw α enc sz c1 ys] (hx : ρ.ev x = some sv) (hy : ρ.ev y = some sw) (hzero : zero.size = sz) (hb0 : 0 < bytes) (hb : (xs.length + ys.length) * bytes ≤ 140737488355328)
    (h : ∀ a c', xs.length + ys.length ≤ c' → JT P t ((d, .slice a (xs ++ ys).length c') :: ρ) (SlT true enc sz (.slice a (xs ++ ys).length c') c' (xs ++ ys) :: r) K) : JT P (.st ⟨some d, .ap T sz bytes zero x y, none⟩ t) ρ cs K := JT.aO hx H.h hy G.h hzero hb0 hb h
theorem JT.A4 [H : HS cs sv α enc sz c xs] [G : HS cs sw α enc sz c1 ys] (hx : ρ.ev x = some sv) (hy : ρ.ev y = some sw) (hzero : zero.size = sz) (hb0 : 0 < bytes) (hfull : c < xs.length + ys.length) (hb : (xs.length + ys.length) * bytes ≤ 140737488355328)
    (h : ∀ a c', xs.length + ys.length ≤ c' → JT P t ((d, .slice a (xs ++ ys).length c') :: ρ) (SlT true enc sz (.slice a (xs ++ ys).length c') c' (xs ++ ys) :: cs) K) : JT P (.st ⟨some d, .ap T sz bytes zero x y, none⟩ t) ρ cs K := JT.aF hx H.h hy G.h hzero hb0 hfull hb h
theorem JT.A5 [H : HF cs sv α enc sz c xs r] [G : HS cs sw α enc sz c1 ys] (hx : ρ.ev x = some sv) (hy : ρ.ev y = some sw) (hzero : zero.size = sz) (hb0 : 0 < bytes) (hc : c = xs.length) (hb : (xs.length + ys.length) * bytes ≤ 140737488355328)
    (h : ∀ a c', JT P t ((d, .slice a (xs ++ ys).length c') :: ρ) (SlT false enc sz (.slice a (xs ++ ys).length c') c' (xs ++ ys) :: cs) K) : JT P (.st ⟨some d, .ap T sz bytes zero x y, none⟩ t) ρ cs K := JT.aS hx H.h hy G.h hzero hb0 hc hb h
theorem J.sl {N : Nat} {cc : CC} {Q : Exit → Env → List Assn → Prop} {n : Nat} {a : Option Addr} (H : HS cs (.slice a n c) α enc sz c xs) (h : xs.length ≤ c → xs.length ≤ 140737488355328 → (a = none → xs = []) → J P N cc ρ cs Q) : J P N cc ρ cs Q :=
  J.fact (fun w hs => (H.h w hs).capF Has.here) fun h1 => J.fact (fun w hs => (H.h w hs).lenF Has.here) fun h2 => J.fact (fun w hs => (H.h w hs).nilF Has.here) fun h3 => h h1 h2 h3
/-- A part of a slice, to be read while the whole one stands. -/
theorem JT.V {l u m : Nat} [H : HS cs sv α enc sz c xs] (hx : ρ.ev x = some sv) (hl : Bd ρ 0 lo l) (hu : Bd ρ xs.length hi u) (hm : Bd ρ c mx m) (hmh : mx.isSome = true → hi.isSome = true) (h0 : l ≤ u) (h1 : u ≤ xs.length) (h3 : u ≤ m) (h4 : m ≤ c)
    (h : ∀ a, JT P t ((d, .slice a ((xs.take u).drop l).length (m - l)) :: ρ) (vw (.slice a ((xs.take u).drop l).length (m - l)) sv l u m sz :: cs) K) : JT P (.st ⟨some d, .sl sz x lo hi mx, none⟩ t) ρ cs K := ⟨by
  intro w hs
  obtain ⟨hz, g0, hlc, a, rfl, hf⟩ := (H.h w hs).slice Has.here
  simp only [runT, semG, Kd.sem]
  refine ⟨a, xs.length, c, l, u, m, hx, hm.lo, h4, hmh, hu.lo, fun _ => h3, hl.lo, fun _ => h0, ?_⟩
  have := (h (if m = l then a else a.map (·.add (l * sz)))).run w (hs.imp fun S H hst => ⟨fun _ => none, H, fun b o e => (by cases e), Hp.le_refl _, fun b => .inl rfl,
    ⟨a, xs.length, c, rfl, by simp only [partV]; congr 1; simp; omega, h0, h1, h3, h4⟩, hst⟩)
  have hlen : ((xs.take u).drop l).length = u - l := by simp; omega
  rw [hlen] at this
  exact this⟩
end

/-- Less of the frame is kept. -/
theorem sub_nil {ρ : Env} : Env.sub [] ρ := fun t v h => by simp [Env.lk] at h
theorem sub_cons {ρ ρ' : Env} {d : Nat} {v : Value} (h : ρ.lk d = some v) (hs : Env.sub ρ' ρ) : Env.sub ((d, v) :: ρ') ρ := by
  intro t u ht
  rw [lk_cons] at ht
  by_cases e : d = t
  · subst e; simp at ht; subst ht; exact h
  · rw [if_neg e] at ht; exact hs t u ht

end
end Go.SL

set_option linter.unusedSimpArgs false
set_option linter.unusedVariables false
set_option linter.unusedSectionVars false
namespace Go.SL
open Go

/-- What a bool says where it is true, and where it is false. -/
class BP (e : Bool) (p q : outParam Prop) : Prop where
  t : e = true ↔ p
  f : e = false ↔ q
theorem BP.mk' {e : Bool} {p q : Prop} (h : e = true ↔ p) (h' : q ↔ ¬ p) : BP e p q := ⟨h, by rw [h', ← h]; cases e <;> simp⟩
instance (priority := low) {e : Bool} : BP e (e = true) (e = false) := ⟨.rfl, .rfl⟩
instance {p : Prop} [Decidable p] : BP (decide p) p (¬ p) := .mk' decide_eq_true_iff .rfl
instance {p : Prop} [Decidable p] : BP (decide (¬ p)) (¬ p) p := .mk' (by simp) (by simp)
instance {α : Type} {a b : α} [Decidable (a ≠ b)] : BP (decide (a ≠ b)) (a ≠ b) (a = b) := .mk' (by simp) (by simp)
instance {e : Bool} {p q : Prop} [H : BP e p q] : BP (!e) q p := ⟨by rw [← H.f]; simp, by rw [← H.t]; simp⟩
instance {e : Bool} {p q : Prop} [H : BP e p q] : BP (e && true) p q := ⟨by rw [← H.t]; simp, by rw [← H.f]; simp⟩
instance {e : Bool} {p q : Prop} [H : BP e p q] : BP (e != false) p q := ⟨by rw [← H.t]; simp, by rw [← H.f]; simp⟩
instance {e : Bool} {p q : Prop} [H : BP e p q] : BP (e != true) q p := ⟨by rw [← H.f]; simp, by rw [← H.t]; simp⟩
instance {e : Bool} {p q : Prop} [H : BP e p q] : BP (e || false) p q := ⟨by rw [← H.t]; simp, by rw [← H.f]; simp⟩
instance {e : Bool} {p q : Prop} [H : BP e p q] : BP (e == true) p q := ⟨by rw [← H.t]; simp, by rw [← H.f]; simp⟩
instance {e : Bool} {p q : Prop} [H : BP e p q] : BP (e == false) q p := ⟨by rw [← H.f]; simp, by rw [← H.t]; simp⟩
instance (priority := 900) {e f : Bool} {p q p' q' : Prop} [H : BP e p q] [G : BP f p' q'] : BP (e && f) (p ∧ p') (q ∨ q') := ⟨by rw [← H.t, ← G.t]; simp, by rw [← H.f, ← G.f]; cases e <;> cases f <;> simp⟩
instance (priority := 900) {e f : Bool} {p q p' q' : Prop} [H : BP e p q] [G : BP f p' q'] : BP (e || f) (p ∨ p') (q ∧ q') := ⟨by rw [← H.t, ← G.t]; simp, by rw [← H.f, ← G.f]; simp⟩
instance (priority := 900) {e f : Bool} {p q p' q' : Prop} [H : BP e p q] [G : BP f p' q'] : BP (e == f) (p ∧ p' ∨ q ∧ q') (p ∧ q' ∨ q ∧ p') :=
  ⟨by rw [← H.t, ← G.t, ← H.f, ← G.f]; cases e <;> cases f <;> simp, by rw [← H.t, ← G.t, ← H.f, ← G.f]; cases e <;> cases f <;> simp⟩
instance (priority := 2000) {e : Bool} : BP (e == e) True False := ⟨by simp, by simp⟩
instance : IsC 0 0 := ⟨rfl⟩
instance : IsC 1 1 := ⟨rfl⟩
instance : IsC 2 2 := ⟨rfl⟩
instance : IsC 3 3 := ⟨rfl⟩
instance : IsC 4 4 := ⟨rfl⟩
instance : IsC 64 64 := ⟨rfl⟩

section
variable {P : Program} {N : Nat} {ρ : Env} {cs r : List Assn} {t : Tr} {K : Env → List Assn → Prop} {Q : Exit → Env → List Assn → Prop}

theorem J.c {o : Operand} {x y : CC} {e : Bool} {p q : Prop} [H : BP e p q] (hb : ρ.ev o = some (.bool e)) (h1 : p → J P N x ρ cs Q) (h2 : q → J P N y ρ cs Q) : J P N (.cond o x y) ρ cs Q :=
  J.cond hb (fun h => h1 (H.t.1 h)) (fun h => h2 (H.f.1 h))

theorem J.so {t : Tr} {y : CC} (h : JT P t ρ cs fun ρ' cs' => J P N y ρ' cs' Q) : J P N (.seq (.ops t) y) ρ cs Q := J.seq (J.ops h)
/-- A guard that is decided by what is known. -/
theorem JT.gT {dst : Nat} {k : Kd} {g : Nat} {x : Bool} {p q : Prop} [H : BP x p q] (hg : ρ.lk g = some (.bool x)) (hp : p) (h : JT P (.st ⟨some dst, k, none⟩ t) ρ cs K) : JT P (.st ⟨some dst, k, some (g, true)⟩ t) ρ cs K :=
  JT.gk (by rw [hg, H.t.2 hp]) h
theorem JT.gF {dst : Nat} {k : Kd} {g : Nat} {x : Bool} {p q : Prop} [H : BP x p q] (hg : ρ.lk g = some (.bool x)) (hp : q) (h : JT P (.st ⟨some dst, k, none⟩ t) ρ cs K) : JT P (.st ⟨some dst, k, some (g, false)⟩ t) ρ cs K :=
  JT.gk (by rw [hg, H.f.2 hp]) h
theorem JT.gTs {dst : Nat} {k : Kd} {g : Nat} {x : Bool} {p q : Prop} [H : BP x p q] (hg : ρ.lk g = some (.bool x)) (hp : q) (h : JT P t ((dst, undef) :: ρ) cs K) : JT P (.st ⟨some dst, k, some (g, true)⟩ t) ρ cs K :=
  JT.skip (b' := false) (by rw [hg, H.f.2 hp]) rfl h
theorem JT.gFs {dst : Nat} {k : Kd} {g : Nat} {x : Bool} {p q : Prop} [H : BP x p q] (hg : ρ.lk g = some (.bool x)) (hp : p) (h : JT P t ((dst, undef) :: ρ) cs K) : JT P (.st ⟨some dst, k, some (g, false)⟩ t) ρ cs K :=
  JT.skip (b' := true) (by rw [hg, H.t.2 hp]) rfl h
theorem JT.gaT {d : Nat} {k : Kd} {g : Nat} {x : Bool} {v : Value} {p q : Prop} [H : BP x p q] (hg : ρ.lk g = some (.bool x)) (hp : p) (hd : ρ.lk d = some v) (he : Ev P k ρ cs v) (h : JT P t ρ cs K) : JT P (.ag ⟨some d, k, some (g, true)⟩ t) ρ cs K :=
  JT.agT (by rw [hg, H.t.2 hp]) he hd h
theorem JT.gaF {d : Nat} {k : Kd} {g : Nat} {x : Bool} {v : Value} {p q : Prop} [H : BP x p q] (hg : ρ.lk g = some (.bool x)) (hp : q) (hd : ρ.lk d = some v) (he : Ev P k ρ cs v) (h : JT P t ρ cs K) : JT P (.ag ⟨some d, k, some (g, false)⟩ t) ρ cs K :=
  JT.agT (by rw [hg, H.f.2 hp]) he hd h
theorem JT.gaTs {d : Nat} {k : Kd} {g : Nat} {x : Bool} {p q : Prop} [H : BP x p q] (hg : ρ.lk g = some (.bool x)) (hp : q) (hd : ρ.lk d = some undef) (h : JT P t ρ cs K) : JT P (.ag ⟨some d, k, some (g, true)⟩ t) ρ cs K :=
  JT.agF (b' := false) (by rw [hg, H.f.2 hp]) rfl hd h
theorem JT.gaFs {d : Nat} {k : Kd} {g : Nat} {x : Bool} {p q : Prop} [H : BP x p q] (hg : ρ.lk g = some (.bool x)) (hp : p) (hd : ρ.lk d = some undef) (h : JT P t ρ cs K) : JT P (.ag ⟨some d, k, some (g, false)⟩ t) ρ cs K :=
  JT.agF (b' := true) (by rw [hg, H.t.2 hp]) rfl hd h
theorem Ev.pickTp {c a b : Operand} {x : Bool} {v : Value} {p q : Prop} [H : BP x p q] (hc : ρ.ev c = some (.bool x)) (hp : p) (h : ρ.ev a = some v) : Ev P (.pick c a b) ρ cs v := .pickT (by rw [hc, H.t.2 hp]) h
theorem Ev.pickFp {c a b : Operand} {x : Bool} {v : Value} {p q : Prop} [H : BP x p q] (hc : ρ.ev c = some (.bool x)) (hp : q) (h : ρ.ev b = some v) : Ev P (.pick c a b) ρ cs v := .pickF (by rw [hc, H.f.2 hp]) h
theorem J.cT {o : Operand} {x y : CC} {e : Bool} {p q : Prop} [H : BP e p q] (hb : ρ.ev o = some (.bool e)) (hp : p) (h : J P N x ρ cs Q) : J P N (.cond o x y) ρ cs Q := J.condT (by rw [hb, H.t.2 hp]) h
theorem J.cF {o : Operand} {x y : CC} {e : Bool} {p q : Prop} [H : BP e p q] (hb : ρ.ev o = some (.bool e)) (hp : q) (h : J P N y ρ cs Q) : J P N (.cond o x y) ρ cs Q := J.condF (by rw [hb, H.f.2 hp]) h

/-! Shifts -/
theorem Ev.shl {x y : Operand} {k k' : IntKind} {n m q : Int} (hx : ρ.ev x = some (.int k n)) (hy : ρ.ev y = some (.int k' m)) (h0 : 0 ≤ m) (hw : Wr k (n * 2 ^ (min m.toNat k.bits)) q) : Ev P (.bini .shl x y) ρ cs (.int k q) :=
  Ev.shift hx hy rfl (by simp only [intBin, if_neg (show ¬ m < 0 by omega)]; rw [hw])
theorem Ev.shr {x y : Operand} {k k' : IntKind} {n m q : Int} (hx : ρ.ev x = some (.int k n)) (hy : ρ.ev y = some (.int k' m)) (h0 : 0 ≤ m) (hq : n.fdiv (2 ^ (min m.toNat k.bits)) = q) : Ev P (.bini .shr x y) ρ cs (.int k q) :=
  Ev.shift hx hy rfl (by simp only [intBin, if_neg (show ¬ m < 0 by omega)]; rw [hq])

/-- How a type's values lie in cells. -/
class TE (T : Nat) (α : outParam Type) (enc : outParam (α → List Value)) (sz : outParam Nat) : Prop where
  one : ∀ x, (enc x).length = sz ∧ ∀ v ∈ enc x, isOne v = true
  pos : 0 < sz
theorem JT.bT {T : Nat} {α : Type} {enc : α → List Value} {sz d len : Nat} {src : List Src} [E : TE T α enc sz] (xs : List α) (hc : Cells ρ src ((xs.map enc).flatten)) (hn : xs.length = len) (hL : len ≤ 140737488355328)
    (h : ∀ a, JT P t ((d, .slice a xs.length len) :: ρ) (SlT true enc sz (.slice a xs.length len) len xs :: cs) K) : JT P (.st ⟨some d, .bsl T src len, none⟩ t) ρ cs K :=
  JT.bslE enc xs hc hn E.pos hL E.one h
theorem JT.b0 {T : Nat} {α : Type} {enc : α → List Value} {sz d : Nat} [E : TE T α enc sz] (h : ∀ a, JT P t ((d, .slice a ([] : List α).length 0) :: ρ) (SlT true enc sz (.slice a ([] : List α).length 0) 0 [] :: cs) K) : JT P (.st ⟨some d, .bsl T [] 0, none⟩ t) ρ cs K :=
  JT.bslE enc [] Cells.nil rfl E.pos (by decide) E.one h
/-- A guard that is not known, both ways. -/
theorem JT.gp {dst : Nat} {k : Kd} {g : Nat} {x : Bool} {p q : Prop} [H : BP x p q] (hg : ρ.lk g = some (.bool x)) (h1 : p → JT P (.st ⟨some dst, k, none⟩ t) ρ cs K) (h2 : q → JT P t ((dst, undef) :: ρ) cs K) : JT P (.st ⟨some dst, k, some (g, true)⟩ t) ρ cs K :=
  JT.gs hg (fun e => h1 (H.t.1 e)) (fun e => h2 (H.f.1 e))
theorem JT.gn {dst : Nat} {k : Kd} {g : Nat} {x : Bool} {p q : Prop} [H : BP x p q] (hg : ρ.lk g = some (.bool x)) (h1 : q → JT P (.st ⟨some dst, k, none⟩ t) ρ cs K) (h2 : p → JT P t ((dst, undef) :: ρ) cs K) : JT P (.st ⟨some dst, k, some (g, false)⟩ t) ρ cs K :=
  JT.gs hg (fun e => h1 (H.f.1 e)) (fun e => h2 (H.t.1 e))

theorem JT.fa {dst off b o : Nat} {x : Operand} (o' : Nat) (hx : ρ.ev x = some (.pointer (some ⟨b, o, none⟩))) (e : o + off = o') (h : JT P t ((dst, .pointer (some ⟨b, o', none⟩)) :: ρ) cs K) : JT P (.st ⟨some dst, .fa off x, none⟩ t) ρ cs K := JT.q (.fa hx) (by rw [e]; exact h)
theorem JT.fe {dst off k sz : Nat} {x : Operand} {sv : Value} (hx : ρ.ev x = some (elp sv (k * sz))) (h : JT P t ((dst, elp sv (k * sz + off)) :: ρ) cs K) : JT P (.st ⟨some dst, .fa off x, none⟩ t) ρ cs K := JT.q (.faE hx) h
theorem JT.fe2 {dst off k sz o : Nat} {x : Operand} {sv : Value} (o' : Nat) (hx : ρ.ev x = some (elp sv (k * sz + o))) (e : o + off = o') (h : JT P t ((dst, elp sv (k * sz + o')) :: ρ) cs K) : JT P (.st ⟨some dst, .fa off x, none⟩ t) ρ cs K := JT.q (.faE hx) (by rw [Nat.add_assoc, e]; exact h)
theorem Ev.fa' {off b o : Nat} {x : Operand} (o' : Nat) (hx : ρ.ev x = some (.pointer (some ⟨b, o, none⟩))) (e : o + off = o') : Ev P (.fa off x) ρ cs (.pointer (some ⟨b, o', none⟩)) := by subst e; exact .fa hx
theorem Ev.fe {off k sz : Nat} {x : Operand} {sv : Value} (hx : ρ.ev x = some (elp sv (k * sz))) : Ev P (.fa off x) ρ cs (elp sv (k * sz + off)) := .faE hx
theorem Ev.fe2 {off k sz o : Nat} {x : Operand} {sv : Value} (o' : Nat) (hx : ρ.ev x = some (elp sv (k * sz + o))) (e : o + off = o') : Ev P (.fa off x) ρ cs (elp sv (k * sz + o')) := by subst e; rw [← Nat.add_assoc]; exact .faE hx
/-- A part of a struct that has a type of its own. -/
class FS {α : Type} {β : outParam Type} (enc : α → List Value) (o n : Nat) (enc' : outParam (β → List Value)) (f : outParam (α → β)) : Prop where
  h : ∀ x, lsub (enc x) o n = enc' (f x)
section
variable {α β : Type} [Inhabited α] {a : Operand} {enc : α → List Value} {enc' : β → List Value} {f : α → β} {sz c b o T n k : Nat} {sv : Value} {xs : List α} {x : α}
theorem Ev.LEf [H : HS cs sv α enc sz c xs] [G : FS enc o n enc' f] (h : ρ.ev a = some (elp sv (k * sz + o))) (hk : k < xs.length) (hn : o + n ≤ sz) : Ev P (.ld (some n) a) ρ cs (.agg (enc' (f (nth xs k))).toArray) := Ev.LEp h hk hn (G.h _)
omit [Inhabited α] in
theorem Ev.Lf [H : HP cs b T (enc x) r] [G : FS enc o n enc' f] (h : ρ.ev a = some (.pointer (some ⟨b, o, none⟩))) (hn : o + n ≤ (enc x).length) : Ev P (.ld (some n) a) ρ cs (.agg (enc' (f x)).toArray) := Ev.Lp h hn (G.h _)
omit [Inhabited α] in
theorem Ev.fldF {y : Operand} [G : FS enc o n enc' f] (h : ρ.ev y = some (.agg (enc x).toArray)) : Ev P (.fld true n o y) ρ cs (.agg (enc' (f x)).toArray) := Ev.fldA h (G.h _)
end

/-- What asks no memory. -/
theorem JT.c {dst : Nat} {k : Kd} {v : Value} (he : evalQ k ρ = some v) (h : JT P t ((dst, v) :: ρ) cs K) : JT P (.st ⟨some dst, k, none⟩ t) ρ cs K := JT.q (.calc he) h
theorem JT.cA {d : Nat} {k : Kd} {v : Value} (hd : ρ.lk d = some v) (he : evalQ k ρ = some v) (h : JT P t ρ cs K) : JT P (.ag ⟨some d, k, none⟩ t) ρ cs K := JT.ag (.calc he) hd h
/-- A value is known under another name. -/
theorem JT.yv {dst : Nat} {k : Kd} {v v' : Value} (he : Ev P k ρ cs v) (e : v = v') (h : JT P t ((dst, v') :: ρ) cs K) : JT P (.st ⟨some dst, k, none⟩ t) ρ cs K := JT.q he (e ▸ h)

theorem Ev.eqTt {α : Type} [DecidableEq α] {fl : List Fl} {enc : α → List Value} {x y : Operand} {a a' : α} (hx : ρ.ev x = some (.agg (enc a).toArray)) (hy : ρ.ev y = some (.agg (enc a').toArray)) [E : EqEnc fl enc] (h : a = a') : Ev P (.eqs false fl x y) ρ cs (.bool true) := by
  have := Ev.eqT (P := P) (cs := cs) hx hy; rwa [decide_eq_true h] at this
theorem Ev.eqTf {α : Type} [DecidableEq α] {fl : List Fl} {enc : α → List Value} {x y : Operand} {a a' : α} (hx : ρ.ev x = some (.agg (enc a).toArray)) (hy : ρ.ev y = some (.agg (enc a').toArray)) [E : EqEnc fl enc] (h : ¬ a = a') : Ev P (.eqs false fl x y) ρ cs (.bool false) := by
  have := Ev.eqT (P := P) (cs := cs) hx hy; rwa [decide_eq_false h] at this
theorem Ev.neTt {α : Type} [DecidableEq α] {fl : List Fl} {enc : α → List Value} {x y : Operand} {a a' : α} (hx : ρ.ev x = some (.agg (enc a).toArray)) (hy : ρ.ev y = some (.agg (enc a').toArray)) [E : EqEnc fl enc] (h : ¬ a = a') : Ev P (.eqs true fl x y) ρ cs (.bool true) := by
  have := Ev.neT (P := P) (cs := cs) hx hy; rwa [decide_eq_true h] at this
theorem Ev.neTf {α : Type} [DecidableEq α] {fl : List Fl} {enc : α → List Value} {x y : Operand} {a a' : α} (hx : ρ.ev x = some (.agg (enc a).toArray)) (hy : ρ.ev y = some (.agg (enc a').toArray)) [E : EqEnc fl enc] (h : a = a') : Ev P (.eqs true fl x y) ρ cs (.bool false) := by
  have := Ev.neT (P := P) (cs := cs) hx hy; rwa [decide_eq_false (fun e => e h)] at this

theorem Rets.w {t n b T : Nat} {l : List Value} {rs : List RV} {vs : List Value} [H : HP cs b T l r] (h : ρ.lk t = some (.pointer (some ⟨b, 0, none⟩))) (hn : l.length = n) (hr : Rets ρ cs rs vs) :
    Rets ρ cs (.c t (some n) :: rs) (.agg l.toArray :: vs) := Rets.cw h H.h hn hr
theorem Rets.v {t b T : Nat} {v : Value} {rs : List RV} {vs : List Value} [H : HP cs b T [v] r] (h : ρ.lk t = some (.pointer (some ⟨b, 0, none⟩))) (hr : Rets ρ cs rs vs) :
    Rets ρ cs (.c t none :: rs) (v :: vs) := Rets.cv h H.h hr
/-- Two ways meet again: what is known there. -/
theorem J.cut {x y : CC} {ι : Type} (A : ι → Prop) (E : ι → Env) (C : ι → List Assn) (h1 : J P N x ρ cs (seqQ (fun ρ' cs' => ∃ i, A i ∧ (E i).sub ρ' ∧ Up cs' (C i)) Q)) (h2 : ∀ i, A i → J P N y (E i) (C i) Q) : J P N (.seq x y) ρ cs Q :=
  J.seq (h1.mono fun e ρ' cs' h => by
    cases e with
    | normal => obtain ⟨i, hA, hE, hC⟩ := h; exact (h2 i hA).weak hE hC
    | _ => exact h)

/-- Less of the frame is kept; what stands twice counts once. -/
def nmem : List Nat → Nat → Bool
  | [], _ => false
  | k :: r, t => bif Nat.beq k t then true else nmem r t
theorem nmem_iff : ∀ {l : List Nat} {t : Nat}, nmem l t = true ↔ t ∈ l
  | [], t => by simp [nmem]
  | k :: r, t => by
    by_cases h : k = t
    · subst h; simp [nmem]
    · have hb : Nat.beq k t = false := by
        cases hb : Nat.beq k t
        · rfl
        · exact absurd (Nat.eq_of_beq_eq_true hb) h
      simp [nmem, hb, nmem_iff (l := r), Ne.symm h]
def Env.subx (ks : List Nat) (ρ' ρ : Env) : Prop := ∀ t v, t ∉ ks → ρ'.lk t = some v → ρ.lk t = some v
theorem subx_nil {ks : List Nat} {ρ : Env} : Env.subx ks [] ρ := fun t v _ h => by simp [Env.lk] at h
theorem subx_cons {ks : List Nat} {ρ ρ' : Env} {d : Nat} {v : Value} (h : ρ.lk d = some v) (hs : Env.subx (d :: ks) ρ' ρ) : Env.subx ks ((d, v) :: ρ') ρ := by
  intro t u hk ht
  rw [lk_cons] at ht
  by_cases e : d = t
  · subst e; simp at ht; subst ht; exact h
  · rw [if_neg e] at ht; exact hs t u (by simp only [List.mem_cons, not_or]; exact ⟨Ne.symm e, hk⟩) ht
theorem subx_dup {ks : List Nat} {ρ ρ' : Env} {d : Nat} {v : Value} (h : nmem ks d = true) (hs : Env.subx ks ρ' ρ) : Env.subx ks ((d, v) :: ρ') ρ := by
  intro t u hk ht
  rw [lk_cons] at ht
  by_cases e : d = t
  · subst e; exact absurd (nmem_iff.1 h) hk
  · rw [if_neg e] at ht; exact hs t u hk ht
theorem Env.subx.sub {ρ' ρ : Env} (h : Env.subx [] ρ' ρ) : Env.sub ρ' ρ := fun t v ht => h t v (by simp) ht

/-- A loop of which is told what changes; the rest of the frame is kept. -/
theorem J.lp {ι : Type} (G : ι → Prop) (D : ι → Env) (C : ι → List Assn) (μ : ι → Nat) {x : CC} (i0 : ι) (hG : G i0) (hE : Env.subx [] (D i0 ++ ρ) ρ) (hC : Up cs (C i0))
    (round : ∀ i, G i → J P N x (D i ++ ρ) (C i) (seqQ (fun ρ' cs' => ∃ j, G j ∧ μ j < μ i ∧ Env.subx [] (D j ++ ρ) ρ' ∧ Up cs' (C j)) Q)) : J P N (.loop x) ρ cs Q :=
  J.loop G (fun i => D i ++ ρ) C μ i0 hG hE.sub hC fun i hi => (round i hi).mono fun e ρ' cs' h => by
    cases e with
    | normal => obtain ⟨j, h1, h2, h3, h4⟩ := h; exact ⟨j, h1, h2, h3.sub, h4⟩
    | _ => exact h
/-- The same where the frame is said whole. -/
theorem J.lpE {ι : Type} (G : ι → Prop) (ρ0 : Env) (D : ι → Env) (C : ι → List Assn) (μ : ι → Nat) {x : CC} (i0 : ι) (hG : G i0) (hE : Env.subx [] (D i0 ++ ρ0) ρ) (hC : Up cs (C i0))
    (round : ∀ i, G i → J P N x (D i ++ ρ0) (C i) (seqQ (fun ρ' cs' => ∃ j, G j ∧ μ j < μ i ∧ Env.subx [] (D j ++ ρ0) ρ' ∧ Up cs' (C j)) Q)) : J P N (.loop x) ρ cs Q :=
  J.loop G (fun i => D i ++ ρ0) C μ i0 hG hE.sub hC fun i hi => (round i hi).mono fun e ρ' cs' h => by
    cases e with
    | normal => obtain ⟨j, h1, h2, h3, h4⟩ := h; exact ⟨j, h1, h2, h3.sub, h4⟩
    | _ => exact h
/-- Two ways meet again: what changed is told, the rest of the frame kept. -/
theorem J.cutD {x y : CC} {ι : Type} (A : ι → Prop) (D : ι → Env) (C : ι → List Assn) (h1 : J P N x ρ cs (seqQ (fun ρ' cs' => ∃ i, A i ∧ Env.subx [] (D i ++ ρ) ρ' ∧ Up cs' (C i)) Q)) (h2 : ∀ i, A i → J P N y (D i ++ ρ) (C i) Q) : J P N (.seq x y) ρ cs Q :=
  J.cut A (fun i => D i ++ ρ) C (h1.mono fun e ρ' cs' h => by
    cases e with
    | normal => obtain ⟨j, h1, h2, h3⟩ := h; exact ⟨j, h1, h2.sub, h3⟩
    | _ => exact h) h2

/-- The same where the frame is said whole. -/
theorem J.cutE {x y : CC} {ι : Type} (A : ι → Prop) (E : ι → Env) (C : ι → List Assn) (h1 : J P N x ρ cs (seqQ (fun ρ' cs' => ∃ i, A i ∧ Env.subx [] (E i) ρ' ∧ Up cs' (C i)) Q)) (h2 : ∀ i, A i → J P N y (E i) (C i) Q) : J P N (.seq x y) ρ cs Q :=
  J.cut A E C (h1.mono fun e ρ' cs' h => by
    cases e with
    | normal => obtain ⟨j, h1, h2, h3⟩ := h; exact ⟨j, h1, h2.sub, h3⟩
    | _ => exact h) h2
/-- Only some of the frame is kept. -/
theorem J.keep {cc : CC} (ρ' : Env) (hs : Env.subx [] ρ' ρ) (h : J P N cc ρ' cs Q) : J P N cc ρ cs Q := h.weak hs.sub (Up.refl _)

/-! Maps, found by instances -/
class HM (cs : List Assn) (b : Nat) (κ : outParam Type) (β : outParam Type) (ke : outParam (κ → Value)) (ve : outParam (β → Value)) (m : outParam (List (κ × β))) (r : outParam (List Assn)) : Prop where
  h : Has cs (Mt b ke ve m) r
instance {κ β : Type} {b : Nat} {ke : κ → Value} {ve : β → Value} {m : List (κ × β)} {r : List Assn} : HM (Mt b ke ve m :: r) b κ β ke ve m r := ⟨Has.here⟩
instance {κ β : Type} {b : Nat} {ke : κ → Value} {ve : β → Value} {m : List (κ × β)} {d : Assn} {r r' : List Assn} [H : HM r b κ β ke ve m r'] : HM (d :: r) b κ β ke ve m (d :: r') := ⟨Has.there H.h⟩
class KO (P : Program) (kt : TypeId) {κ : Type} [DecidableEq κ] (ke : κ → Value) : Prop where
  h : KeyOk P kt ke
section
variable {κ β : Type} [DecidableEq κ] {b d : Nat} {kt : TypeId} {ke : κ → Value} {ve : β → Value} {m : List (κ × β)} {x i : Operand} {zero : Value} {k : κ} {v : β} {dst : Option Nat} {mo ko vo : Operand}
theorem JT.lk2 [H : HM cs b κ β ke ve m r] [G : KO P kt ke] (hx : ρ.ev x = some (.map (some b))) (hi : ρ.ev i = some (ke k))
    (h1 : ∀ v, alk m k = some v → JT P t ((d, .tuple [ve v, .bool true].toArray) :: ρ) cs K) (h2 : alk m k = none → JT P t ((d, .tuple [zero, .bool false].toArray) :: ρ) cs K) : JT P (.st ⟨some d, .lkp true kt zero x i, none⟩ t) ρ cs K := JT.lkp hx hi H.h G.h h1 h2
theorem JT.lk2s [H : HM cs b κ β ke ve m r] [G : KO P kt ke] (hx : ρ.ev x = some (.map (some b))) (hi : ρ.ev i = some (ke k)) (hk : alk m k = some v) (h : JT P t ((d, .tuple [ve v, .bool true].toArray) :: ρ) cs K) : JT P (.st ⟨some d, .lkp true kt zero x i, none⟩ t) ρ cs K :=
  JT.lk2 hx hi (fun v' h' => by rw [hk] at h'; cases h'; exact h) (fun h' => by rw [hk] at h'; cases h')
theorem JT.lk2n [H : HM cs b κ β ke ve m r] [G : KO P kt ke] (hx : ρ.ev x = some (.map (some b))) (hi : ρ.ev i = some (ke k)) (hk : alk m k = none) (h : JT P t ((d, .tuple [zero, .bool false].toArray) :: ρ) cs K) : JT P (.st ⟨some d, .lkp true kt zero x i, none⟩ t) ρ cs K :=
  JT.lk2 hx hi (fun v' h' => by rw [hk] at h'; cases h') (fun h' => h)
theorem JT.lk1 [H : HM cs b κ β ke ve m r] [G : KO P kt ke] (hx : ρ.ev x = some (.map (some b))) (hi : ρ.ev i = some (ke k))
    (h1 : ∀ v, alk m k = some v → JT P t ((d, ve v) :: ρ) cs K) (h2 : alk m k = none → JT P t ((d, zero) :: ρ) cs K) : JT P (.st ⟨some d, .lkp false kt zero x i, none⟩ t) ρ cs K := JT.lkp1 hx hi H.h G.h h1 h2
theorem JT.lk1s [H : HM cs b κ β ke ve m r] [G : KO P kt ke] (hx : ρ.ev x = some (.map (some b))) (hi : ρ.ev i = some (ke k)) (hk : alk m k = some v) (h : JT P t ((d, ve v) :: ρ) cs K) : JT P (.st ⟨some d, .lkp false kt zero x i, none⟩ t) ρ cs K :=
  JT.lk1 hx hi (fun v' h' => by rw [hk] at h'; cases h'; exact h) (fun h' => by rw [hk] at h'; cases h')
theorem JT.lk1n [H : HM cs b κ β ke ve m r] [G : KO P kt ke] (hx : ρ.ev x = some (.map (some b))) (hi : ρ.ev i = some (ke k)) (hk : alk m k = none) (h : JT P t ((d, zero) :: ρ) cs K) : JT P (.st ⟨some d, .lkp false kt zero x i, none⟩ t) ρ cs K :=
  JT.lk1 hx hi (fun v' h' => by rw [hk] at h'; cases h') (fun h' => h)
theorem JT.mu [H : HM cs b κ β ke ve m r] [G : KO P kt ke] (hx : ρ.ev mo = some (.map (some b))) (hi : ρ.ev ko = some (ke k)) (hv : ρ.ev vo = some (ve v)) (h : JT P t ρ (Mt b ke ve (aput m k v) :: r) K) : JT P (.st ⟨none, .mup kt mo ko vo, none⟩ t) ρ cs K :=
  JT.mup hx hi hv H.h G.h h
theorem JT.dl [H : HM cs b κ β ke ve m r] [G : KO P kt ke] (hx : ρ.ev mo = some (.map (some b))) (hi : ρ.ev ko = some (ke k)) (h : JT P t (ρ.put dst (.tuple #[])) (Mt b ke ve (adel m k) :: r) K) : JT P (.st ⟨dst, .del kt mo ko, none⟩ t) ρ cs K :=
  JT.del hx hi H.h G.h h
theorem Ev.lM [H : HM cs b κ β ke ve m r] (hx : ρ.ev x = some (.map (some b))) : Ev P (.lnm x) ρ cs (i64 (m.length : Int)) := Ev.lnm hx H.h
end

theorem Meets.post {f : Nat} {args : List Value} {R R' : Value → List Assn → Prop} (h : Meets P f args cs R) (hr : ∀ v c, R v c → ∃ c', Up c c' ∧ R' v c') : Meets P f args cs R' :=
  ⟨h.1, fun w hs => (h.2 w hs).mono fun e w' ⟨v, c, e1, hk, hs', hR⟩ => by
    obtain ⟨c', hu, hR'⟩ := hr v c hR
    exact ⟨v, c', e1, hk, hu _ hs', hR'⟩⟩
theorem Rets.up {cs' : List Assn} (hi : Up cs cs') : ∀ {rs : List RV} {vs : List Value}, Rets ρ cs' rs vs → Rets ρ cs rs vs
  | _, _, .nil => .nil
  | _, _, .t h hr => .t h (Rets.up hi hr)
  | _, _, .c1 h hv hr => .c1 h (fun w hs => hv w (hi w hs)) (Rets.up hi hr)
  | _, _, .cn h hv hr => .cn h (fun w hs => hv w (hi w hs)) (Rets.up hi hr)
theorem retQ_up {cs' : List Assn} {rs : List RV} {R : Value → List Assn → Prop} (hi : Up cs cs') (h : retQ rs R .ret ρ cs') : retQ rs R .ret ρ cs := by
  obtain ⟨vs, cs2, h1, h2, h3⟩ := h; exact ⟨vs, cs2, h1.up hi, hi.trans h2, h3⟩
theorem retQD {rs : List RV} {v0 : Value} {cs1 : List Assn} {vs : List Value} (h : Rets ρ cs rs vs) (hv : mkRet vs = v0) (hi : Up cs cs1) : retQ rs (Det v0 cs1) .ret ρ cs := retD h hv hi
theorem retQS {rs : List RV} {α : Type} {p : α → Prop} {V : α → Value} {C : α → List Assn} {vs : List Value} (x : α) (h : Rets ρ cs rs vs) (hp : p x) (hv : mkRet vs = V x) (hi : Up cs (C x)) : retQ rs (Some' p V C) .ret ρ cs := retS x h hp hv hi

/-- A goal at which the walk stops. -/
def Halt (p : Prop) : Prop := p
theorem J.halt {cc : CC} (h : Halt (J P N cc ρ cs Q)) : J P N cc ρ cs Q := h
theorem JT.halt (h : Halt (JT P t ρ cs K)) : JT P t ρ cs K := h
theorem Halt.go {p : Prop} (h : p) : Halt p := h
end

theorem Meets.up {P : Program} {f : Nat} {args : List Value} {cs cs0 : List Assn} {R : Value → List Assn → Prop} (hi : Up cs cs0) (h : Meets P f args cs0 R) : Meets P f args cs R := ⟨h.1, fun w hs => h.2 w (hi _ hs)⟩
theorem set_same {α : Type} {g : List α} {i : Nat} {x : α} (h : g[i]? = some x) : g.set i x = g := by
  obtain ⟨hi, rfl⟩ := List.getElem?_eq_some_iff.1 h
  exact List.set_getElem_self hi

/-! ### Short names, in which walks are written down -/
def cellsQ (ρ : Env) : List Src → Option (List Value)
  | [] => some []
  | .z v :: r => match cellsQ ρ r with
    | some l => some (v :: l)
    | none => none
  | .c x j n :: r => match ρ.ev x with
    | some v => bif Nat.beq v.cells.toList.length n then match lnth v.cells.toList j with
        | some u => match cellsQ ρ r with
          | some l => some (u :: l)
          | none => none
        | none => none
      else none
    | none => none
theorem cellsQ_ok {ρ : Env} : ∀ {s : List Src} {l : List Value}, cellsQ ρ s = some l → Cells ρ s l
  | [], l, h => by cases h; exact .nil
  | .z v :: r, l, h => by
    simp only [cellsQ] at h
    split at h
    · rename_i l' h'; cases h; exact .z (cellsQ_ok h')
    · cases h
  | .c x j n :: r, l, h => by
    simp only [cellsQ] at h
    split at h
    · rename_i v hv
      cases hn : Nat.beq v.cells.toList.length n with
      | false => rw [hn] at h; cases h
      | true =>
        rw [hn] at h
        simp only [cond_true] at h
        split at h
        · rename_i u hu
          split at h
          · rename_i l' h'; cases h; exact .cl hv (Nat.eq_of_beq_eq_true hn) hu (cellsQ_ok h')
          · cases h
        · cases h
    · cases h
def nub : List Nat → Env → Env
  | _, [] => []
  | ks, (d, v) :: r => bif nmem ks d then nub ks r else (d, v) :: nub (d :: ks) r
theorem subx_nub {ρ : Env} : ∀ {ρ' : Env} {ks : List Nat}, (nub ks ρ').map (fun e => ρ.lk e.1) = (nub ks ρ').map (fun e => some e.2) → Env.subx ks ρ' ρ
  | [], _, _ => subx_nil
  | (d, v) :: r, ks, h => by
    simp only [nub] at h
    cases hn : nmem ks d with
    | true => rw [hn] at h; exact subx_dup hn (subx_nub h)
    | false =>
      rw [hn] at h
      simp only [cond_false, List.map_cons, List.cons.injEq] at h
      exact subx_cons h.1 (subx_nub h.2)
theorem subxR {ρ ρ' : Env} (h : (nub [] ρ').map (fun e => ρ.lk e.1) = (nub [] ρ').map (fun e => some e.2)) : Env.subx [] ρ' ρ := subx_nub h

section
variable {P : Program} {ρ : Env} {cs r : List Assn} {t : Tr} {K : Env → List Assn → Prop} {dst : Nat} {k : Kd} {x y a : Operand} {v : Value}
theorem zy {d : Nat} (he : Ev P k ρ cs v) (h : JT P t ((d, v) :: ρ) cs K) : JT P (.st ⟨some d, k, none⟩ t) ρ cs K := JT.q he h
theorem zf {d off b o : Nat} (o' : Nat) (hx : ρ.ev x = some (.pointer (some ⟨b, o, none⟩))) (e : o + off = o') (h : JT P t ((d, .pointer (some ⟨b, o', none⟩)) :: ρ) cs K) : JT P (.st ⟨some d, .fa off x, none⟩ t) ρ cs K := JT.q (Ev.fa' o' hx e) h
theorem zl {d b o T : Nat} {l : List Value} [H : HP cs b T l r] (ha : ρ.ev a = some (.pointer (some ⟨b, o, none⟩))) (hv : lnth l o = some v) (h : JT P t ((d, v) :: ρ) cs K) : JT P (.st ⟨some d, .ld none a, none⟩ t) ρ cs K := JT.q (Ev.L ha hv) h
theorem sub_new {ρ : Env} {d e : Nat} {u v : Value} (hd : ρ.lk d = none) : Env.sub ((e, v) :: ρ) ((e, v) :: (d, u) :: ρ) := fun t w h => by
  rw [lk_cons] at h ⊢
  split
  · rename_i c; rw [if_pos c] at h; exact h
  · rename_i c; rw [if_neg c] at h
    rw [lk_cons]
    split
    · rename_i c2; subst c2; rw [hd] at h; cases h
    · exact h
theorem ev_self {ρ : Env} {d : Nat} {u : Value} : Env.ev ((d, u) :: ρ) (.tmp d) = some u := by simp only [Env.ev]; rw [lk_cons, if_pos rfl]
/-- A field, read. -/
theorem zfl {d e off b o T : Nat} {l : List Value} [H : HP cs b T l r] (hx : ρ.ev x = some (.pointer (some ⟨b, o, none⟩))) (hv : lnth l (o + off) = some v) (hd : ρ.lk d = none) (h : JT P t ((e, v) :: ρ) cs K) :
    JT P (.st ⟨some d, .fa off x, none⟩ (.st ⟨some e, .ld none (.tmp d), none⟩ t)) ρ cs K :=
  JT.q (Ev.fa' _ hx rfl) (JT.q (Ev.L ev_self hv) (JT.sub (sub_new hd) h))
theorem zfw {d e off b o T n : Nat} {l : List Value} (us : List Value) [H : HP cs b T l r] (hx : ρ.ev x = some (.pointer (some ⟨b, o, none⟩))) (hn : Nat.ble (o + off + n) l.length = true) (hu : lsub l (o + off) n = us) (hd : ρ.lk d = none) (h : JT P t ((e, .agg us.toArray) :: ρ) cs K) :
    JT P (.st ⟨some d, .fa off x, none⟩ (.st ⟨some e, .ld (some n) (.tmp d), none⟩ t)) ρ cs K :=
  JT.q (Ev.fa' _ hx rfl) (JT.q (Ev.Lp ev_self (Nat.le_of_ble_eq_true hn) hu) (JT.sub (sub_new hd) h))
theorem zfz {d e off b o T n : Nat} {α β : Type} {enc : α → List Value} {enc' : β → List Value} {f : α → β} {z : α} [H : HP cs b T (enc z) r] [G : FS enc (o + off) n enc' f] (hx : ρ.ev x = some (.pointer (some ⟨b, o, none⟩))) (hn : Nat.ble (o + off + n) (enc z).length = true) (hd : ρ.lk d = none)
    (h : JT P t ((e, .agg (enc' (f z)).toArray) :: ρ) cs K) : JT P (.st ⟨some d, .fa off x, none⟩ (.st ⟨some e, .ld (some n) (.tmp d), none⟩ t)) ρ cs K :=
  JT.q (Ev.fa' _ hx rfl) (JT.q (Ev.Lf ev_self (Nat.le_of_ble_eq_true hn)) (JT.sub (sub_new hd) h))
theorem zw {d b T n : Nat} {l : List Value} [H : HP cs b T l r] (ha : ρ.ev a = some (.pointer (some ⟨b, 0, none⟩))) (hn : l.length = n) (h : JT P t ((d, .agg l.toArray) :: ρ) cs K) : JT P (.st ⟨some d, .ld (some n) a, none⟩ t) ρ cs K := JT.q (Ev.Lw ha hn) h
theorem zj {d : Nat} {op : BinOp} {kk : IntKind} {n m : Int} (hx : ρ.ev x = some (.int kk n)) (hy : ρ.ev y = some (.int kk m)) (hv : intBin op kk n m = some v) (h : JT P t ((d, v) :: ρ) cs K) : JT P (.st ⟨some d, .bini op x y, none⟩ t) ρ cs K := JT.q (Ev.int hx hy hv) h
theorem zg {d : Nat} {src : List Src} {l : List Value} (hc : cellsQ ρ src = some l) (h : JT P t ((d, .agg l.toArray) :: ρ) cs K) : JT P (.st ⟨some d, .agg src, none⟩ t) ρ cs K := JT.q (Ev.agg (cellsQ_ok hc)) h
theorem Ev.aggQ {src : List Src} {l : List Value} (hc : cellsQ ρ src = some l) : Ev P (.agg src) ρ cs (.agg l.toArray) := Ev.agg (cellsQ_ok hc)
end
section
variable {P : Program} {N : Nat} {ρ : Env} {cs r : List Assn} {t : Tr} {K : Env → List Assn → Prop} {Q : Exit → Env → List Assn → Prop} {a x : Operand} {b o T n : Nat} {l l' us : List Value} {v : Value}
theorem zc {dst : Nat} {k : Kd} {v : Value} (he : evalQ k ρ = some v) (h : JT P t ((dst, v) :: ρ) cs K) : JT P (.st ⟨some dst, k, none⟩ t) ρ cs K := JT.c he h
theorem zd (h : K ρ cs) : JT P .done ρ cs K := JT.done h
theorem zs {t : Tr} {y : CC} (h : JT P t ρ cs fun ρ' cs' => J P N y ρ' cs' Q) : J P N (.seq (.ops t) y) ρ cs Q := J.so h
theorem zq {x y : CC} (h : J P N x ρ cs (seqQ (fun ρ' cs' => J P N y ρ' cs' Q) Q)) : J P N (.seq x y) ρ cs Q := J.seq h
theorem zb {id : Nat} {x : CC} (h : J P N x ρ cs (blockQ id Q)) : J P N (.block id x) ρ cs Q := J.block h
theorem zk (h : Q .normal ρ cs) : J P N .skip ρ cs Q := J.skip h
theorem zx {id : Nat} (h : Q (.exit id) ρ cs) : J P N (.exit id) ρ cs Q := J.exit h
theorem zr (h : Q .ret ρ cs) : J P N .ret ρ cs Q := J.ret h
theorem zo {t : Tr} (h : JT P t ρ cs fun ρ' cs' => Q .normal ρ' cs') : J P N (.ops t) ρ cs Q := J.ops h
theorem zi {o : Operand} {x y : CC} {e : Bool} {p q : Prop} [H : BP e p q] (hb : ρ.ev o = some (.bool e)) (h1 : p → J P N x ρ cs Q) (h2 : q → J P N y ρ cs Q) : J P N (.cond o x y) ρ cs Q := J.c hb h1 h2
theorem yD {d : Nat} {f : Operand} {args : List Operand} {fid : Nat} {vs : List Value} {cs0 cs1 : List Assn} {v0 : Value} (hf : ρ.ev f = some (.func (.func fid) #[] #[])) (ha : ρ.evs args = some vs) (hi : Up cs cs0) (hfn : Meets P fid vs cs0 (Det v0 cs1)) (h : JT P t ((d, v0) :: ρ) cs1 K) : JT P (.st ⟨some d, .call f args, none⟩ t) ρ cs K := JT.callD hf ha hi hfn h
theorem yE {d : Nat} {f : Operand} {args : List Operand} {fid : Nat} {vs : List Value} {cs0 : List Assn} {α : Type} {p : α → Prop} {V : α → Value} {C : α → List Assn} (hf : ρ.ev f = some (.func (.func fid) #[] #[])) (ha : ρ.evs args = some vs) (hi : Up cs cs0) (hfn : Meets P fid vs cs0 (Some' p V C)) (h : ∀ x, p x → JT P t ((d, V x) :: ρ) (C x) K) : JT P (.st ⟨some d, .call f args, none⟩ t) ρ cs K := JT.callS hf ha hi hfn h
theorem yB {d T : Nat} {x : Operand} {l : List Value} (hx : ρ.ev x = some (.agg l.toArray)) (h : ∀ b, JT P t ((d, ptr b) :: ρ) (pc b T l :: cs) K) : JT P (.st ⟨some d, .box T x, none⟩ t) ρ cs K := JT.box hx h
theorem yN {d T : Nat} {l : List Value} (h : ∀ b, JT P t ((d, ptr b) :: ρ) (pc b T l :: cs) K) : JT P (.st ⟨some d, .new T l.toArray, none⟩ t) ρ cs K := JT.new h
theorem yW [H : HP cs b T l r] {us : List Value} (ha : ρ.ev a = some (.pointer (some ⟨b, 0, none⟩))) (hx : ρ.ev x = some (.agg us.toArray)) (hn : us.length = n) (hu : us.all isOne = true) (hl : l.length = n) (h : JT P t ρ (pc b T us :: r) K) : JT P (.st ⟨none, .st n a x, none⟩ t) ρ cs K := JT.w ha hx hn hu hl h
theorem yS [H : HP cs b T l r] (ha : ρ.ev a = some (.pointer (some ⟨b, o, none⟩))) (hx : ρ.ev x = some v) (hv : v.cells.toList = us) (hn : us.length = n) (hu : us.all isOne = true) (hl : o + n ≤ l.length) (hp : lput l o us = l') (h : JT P t ρ (pc b T l' :: r) K) : JT P (.st ⟨none, .st n a x, none⟩ t) ρ cs K := JT.s ha hx hv hn hu hl hp h
theorem zt {o : Operand} {x y : CC} (hb : ρ.ev o = some (.bool true)) (h : J P N x ρ cs Q) : J P N (.cond o x y) ρ cs Q := J.condT hb h
theorem zu {o : Operand} {x y : CC} (hb : ρ.ev o = some (.bool false)) (h : J P N y ρ cs Q) : J P N (.cond o x y) ρ cs Q := J.condF hb h
theorem yT {dst : Nat} {k : Kd} {g : Nat} {x : Bool} {p q : Prop} [H : BP x p q] (hg : ρ.lk g = some (.bool x)) (hp : p) (h : JT P (.st ⟨some dst, k, none⟩ t) ρ cs K) : JT P (.st ⟨some dst, k, some (g, true)⟩ t) ρ cs K := JT.gT hg hp h
theorem yF {dst : Nat} {k : Kd} {g : Nat} {x : Bool} {p q : Prop} [H : BP x p q] (hg : ρ.lk g = some (.bool x)) (hp : q) (h : JT P (.st ⟨some dst, k, none⟩ t) ρ cs K) : JT P (.st ⟨some dst, k, some (g, false)⟩ t) ρ cs K := JT.gF hg hp h
theorem yTs {dst : Nat} {k : Kd} {g : Nat} {x : Bool} {p q : Prop} [H : BP x p q] (hg : ρ.lk g = some (.bool x)) (hp : q) (h : JT P t ((dst, undef) :: ρ) cs K) : JT P (.st ⟨some dst, k, some (g, true)⟩ t) ρ cs K := JT.gTs hg hp h
theorem yFs {dst : Nat} {k : Kd} {g : Nat} {x : Bool} {p q : Prop} [H : BP x p q] (hg : ρ.lk g = some (.bool x)) (hp : p) (h : JT P t ((dst, undef) :: ρ) cs K) : JT P (.st ⟨some dst, k, some (g, false)⟩ t) ρ cs K := JT.gFs hg hp h
theorem yG {dst : Nat} {k : Kd} {g : Nat} {b : Bool} (hg : ρ.lk g = some (.bool b)) (h1 : JT P (.st ⟨some dst, k, none⟩ t) ρ cs K) : JT P (.st ⟨some dst, k, some (g, b)⟩ t) ρ cs K := JT.gk hg h1
theorem zp {dst : Nat} {k : Kd} {g : Nat} {x : Bool} {p q : Prop} [H : BP x p q] (hg : ρ.lk g = some (.bool x)) (h1 : p → JT P (.st ⟨some dst, k, none⟩ t) ρ cs K) (h2 : q → JT P t ((dst, undef) :: ρ) cs K) : JT P (.st ⟨some dst, k, some (g, true)⟩ t) ρ cs K := JT.gp hg h1 h2
theorem zn {dst : Nat} {k : Kd} {g : Nat} {x : Bool} {p q : Prop} [H : BP x p q] (hg : ρ.lk g = some (.bool x)) (h1 : q → JT P (.st ⟨some dst, k, none⟩ t) ρ cs K) (h2 : p → JT P t ((dst, undef) :: ρ) cs K) : JT P (.st ⟨some dst, k, some (g, false)⟩ t) ρ cs K := JT.gn hg h1 h2
theorem zv {dst : Nat} {k : Kd} {g : Nat} {b b' : Bool} (hg : ρ.lk g = some (.bool b')) (hb : b' = !b) (h : JT P t ((dst, undef) :: ρ) cs K) : JT P (.st ⟨some dst, k, some (g, b)⟩ t) ρ cs K := JT.skip hg hb h
theorem yR {rs : List RV} {v0 : Value} {cs1 : List Assn} {vs : List Value} (h : Rets ρ cs rs vs) (hv : mkRet vs = v0) (hi : Up cs cs1) : retQ rs (Det v0 cs1) .ret ρ cs := retQD h hv hi
theorem yQ {rs : List RV} {α : Type} {p : α → Prop} {V : α → Value} {C : α → List Assn} {vs : List Value} (x : α) (h : Rets ρ cs rs vs) (hp : p x) (hv : mkRet vs = V x) (hi : Up cs (C x)) : retQ rs (Some' p V C) .ret ρ cs := retQS x h hp hv hi
theorem zh {dst : Nat} {k : Kd} {v : Value} {g : Nat} {x : Bool} (hq : yK k = true) (hg : ρ.lk g = some (.bool x)) (he : x = false → Ev P k ρ cs v) (h : JT P t ((dst, gd (!x) v) :: ρ) cs K) : JT P (.st ⟨some dst, k, some (g, false)⟩ t) ρ cs K := JT.yh hq hg he h
theorem zm {dst : Nat} {k : Kd} {v : Value} {g : Nat} {x : Bool} (hq : yK k = true) (hg : ρ.lk g = some (.bool x)) (he : x = true → Ev P k ρ cs v) (h : JT P t ((dst, gd x v) :: ρ) cs K) : JT P (.st ⟨some dst, k, some (g, true)⟩ t) ρ cs K := JT.yg hq hg he h
end
theorem Imp.rf {cs : List Assn} : Imp cs cs := Imp.refl cs
theorem Imp.no {cs : List Assn} : Imp cs [] := Imp.nil cs
theorem Imp.d {c : Assn} {cs ds : List Assn} (h : Imp cs ds) : Imp (c :: cs) ds := Imp.dropT h
theorem Imp.t0 {c : Assn} {r ds : List Assn} (h : Imp r ds) : Imp (c :: r) (c :: ds) := Imp.take .here h
theorem Imp.t1 {c a1 : Assn} {r ds : List Assn} (h : Imp (a1 :: r) ds) : Imp (a1 :: c :: r) (c :: ds) := Imp.take (.there .here) h
theorem Imp.t2 {c a1 a2 : Assn} {r ds : List Assn} (h : Imp (a1 :: a2 :: r) ds) : Imp (a1 :: a2 :: c :: r) (c :: ds) := Imp.take (.there (.there .here)) h
theorem Imp.t3 {c a1 a2 a3 : Assn} {r ds : List Assn} (h : Imp (a1 :: a2 :: a3 :: r) ds) : Imp (a1 :: a2 :: a3 :: c :: r) (c :: ds) := Imp.take (.there (.there (.there .here))) h
theorem Imp.t4 {c a1 a2 a3 a4 : Assn} {r ds : List Assn} (h : Imp (a1 :: a2 :: a3 :: a4 :: r) ds) : Imp (a1 :: a2 :: a3 :: a4 :: c :: r) (c :: ds) := Imp.take (.there (.there (.there (.there .here)))) h
theorem Imp.t5 {c a1 a2 a3 a4 a5 : Assn} {r ds : List Assn} (h : Imp (a1 :: a2 :: a3 :: a4 :: a5 :: r) ds) : Imp (a1 :: a2 :: a3 :: a4 :: a5 :: c :: r) (c :: ds) := Imp.take (.there (.there (.there (.there (.there .here))))) h
theorem Imp.t6 {c a1 a2 a3 a4 a5 a6 : Assn} {r ds : List Assn} (h : Imp (a1 :: a2 :: a3 :: a4 :: a5 :: a6 :: r) ds) : Imp (a1 :: a2 :: a3 :: a4 :: a5 :: a6 :: c :: r) (c :: ds) := Imp.take (.there (.there (.there (.there (.there (.there .here)))))) h
theorem Imp.tk {c : Assn} {cs r ds : List Assn} (h : Has cs c r) (h' : Imp r ds) : Imp cs (c :: ds) := Imp.take h h'
end Go.SL
