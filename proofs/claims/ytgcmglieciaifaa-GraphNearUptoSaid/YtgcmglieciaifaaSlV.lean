/- The walk's own words, part V: a map's entry that is read and then written; iterators and loops over them. Conditions: none. -/
import Derived.Test.YtgcmglieciaifaaSlQ
set_option linter.unusedSimpArgs false
set_option linter.unusedVariables false
set_option linter.unusedSectionVars false
namespace Go.SL
open Go
section
variable {P : Program} {ρ : Env} {cs r : List Assn} {t : Tr} {K : Env → List Assn → Prop} {κ β : Type} [DecidableEq κ] {ke : κ → Value} {ve : β → Value}
/-- A map in which a key has a value. -/
def adef (m : List (κ × β)) (k : κ) (z : β) : List (κ × β) := match aix m k with
  | some _ => m
  | none => m ++ [(k, z)]
theorem adef_aput {m : List (κ × β)} {k : κ} {z v : β} : aput (adef m k z) k v = aput m k v := by
  unfold adef
  cases h : aix m k with
  | some i => rfl
  | none =>
    have h2 : aix (m ++ [(k, z)]) k = some m.length := by
      unfold aix at h ⊢
      rw [List.map_append, List.findIdx?_append, h]; simp
    unfold aput
    simp only [h, h2, List.set_append_right _ _ (Nat.le_refl _), Nat.sub_self]
    rfl
theorem mapOk.ent {es : Array MapEntry} {c : Nat} {m : List (κ × β)} (hm : mapOk es c (m.map fun x => (ke x.1, ve x.2))) (k : κ) (z : β) :
    ∃ es' c' i born, entPut es c (ke k) (ve z) (found ve m k) = .map es' c' ∧ mapOk es' c' ((adef m k z).map fun x => (ke x.1, ve x.2)) ∧ entVal es c (ve z) (found ve m k) = .tuple #[ve ((alk m k).getD z), .int .i64 (born : Nat)] ∧
      aix (adef m k z) k = some i ∧ (es'[i]?).map (·.born) = some born := by
  have hsz := hm.size
  cases h : aix m k with
  | none =>
    obtain ⟨es', c', e1, e2⟩ := hm.put k z
    have ha : aput m k z = adef m k z := by unfold aput adef; rw [h]
    have hf : found ve m k = none := by unfold found; rw [h]; rfl
    rw [ha] at e2
    rw [hf] at e1 ⊢
    refine ⟨es', c', m.length, c, e1, e2, ?_, ?_, ?_⟩
    · unfold entVal; rw [alk_aix, h]; rfl
    · unfold adef; rw [h]; simp only
      unfold aix at h ⊢
      rw [List.map_append, List.findIdx?_append, h]; simp
    · simp only [mapPut, Obj.map.injEq] at e1
      rw [← e1.1, ← hsz]; simp
  | some i =>
    obtain ⟨hlt, hk⟩ := aix_some h
    have hie : i < es.size := by omega
    have hv : alk m k = some (m[i]).2 := by rw [alk_aix, h]; simp [List.getElem?_eq_getElem hlt]
    obtain ⟨es', c', e1, e2⟩ := hm.put k (m[i]).2
    have ha : aput m k (m[i]).2 = m := by
      unfold aput; rw [h]; simp only
      have : (k, (m[i]).2) = m[i] := by rw [← hk]
      rw [this]; exact List.set_getElem_self hlt
    have had : adef m k z = m := by unfold adef; rw [h]
    have hf : found ve m k = some (i, ve (m[i]).2) := by unfold found; rw [h]; simp [List.getElem?_eq_getElem hlt]
    rw [ha] at e2
    rw [hf] at e1 ⊢
    rw [had]
    have hval := hm.val i
    rw [Array.getElem?_eq_getElem hie, List.getElem?_eq_getElem hlt] at hval
    simp only [Option.map_some, Option.some.injEq, Prod.mk.injEq] at hval
    have hmod : (es.modify i fun e => { e with key := ke k, val := ve (m[i]).2 }) = es.modify i fun e => { e with key := ke k } := by
      apply Array.ext_getElem?
      intro j
      rw [Array.getElem?_modify, Array.getElem?_modify]
      by_cases hij : i = j
      · subst hij
        rw [if_pos rfl, if_pos rfl, Array.getElem?_eq_getElem hie]
        simp [hval.2]
      · rw [if_neg hij, if_neg hij]
    simp only [mapPut] at e1
    rw [hmod] at e1
    refine ⟨es', c', i, es[i].born, e1, e2, ?_, h, ?_⟩
    · unfold entVal; rw [hv]; simp [Array.getElem?_eq_getElem hie]
    · simp only [Obj.map.injEq] at e1
      rw [← e1.1, Array.getElem?_modify, if_pos rfl, Array.getElem?_eq_getElem hie]; rfl
theorem JT.mpe {d b : Nat} {kt : TypeId} {zero : Value} {mo ko : Operand} {m : List (κ × β)} {kk : κ} (z : β) (hx : ρ.ev mo = some (.map (some b))) (hi : ρ.ev ko = some (ke kk)) (hz : zero = ve z) (hh : Has cs (Mt b ke ve m) r) (hk : KeyOk P kt ke)
    (h : ∀ es c i born, aix (adef m kk z) kk = some i → ((es : Array MapEntry)[i]?).map (·.born) = some born → JT P t ((d, .tuple [ve ((alk m kk).getD z), .int .i64 (born : Nat)].toArray) :: ρ) (Me b es c ke ve (adef m kk z) :: r) K) :
    JT P (.st ⟨some d, .mpe kt zero mo ko, none⟩ t) ρ cs K := ⟨by
  intro w hs
  obtain ⟨es, c, hs', hm⟩ := (hs.imp hh).mtPt
  obtain ⟨es', c', i, born, e1, e2, e3, e4, e5⟩ := hm.ent kk z
  simp only [runT, semG, Kd.sem]
  subst hz
  refine ⟨b, es, c, _, _, hx, hi, hs'.get, hk.at_ hm kk, ?_⟩
  rw [e1, e3]
  refine (h es' c' i born e4 e5).run _ ?_
  refine (Sat.setM (o' := .map es' c') hs' rfl).imp ?_
  rintro S H ⟨H1, H2, h1, h2, hd, hp, hr⟩
  exact ⟨H1, H2, h1, h2, hd, ⟨hp, e2⟩, hr⟩⟩
theorem JT.ens {b c i born : Nat} {es : Array MapEntry} {mo so vo : Operand} {m : List (κ × β)} {kk : κ} {v : β} (hx : ρ.ev mo = some (.map (some b))) (hso : ρ.ev so = some (.int .i64 (born : Int))) (hv : ρ.ev vo = some (ve v)) (hh : Has cs (Me b es c ke ve m) r)
    (ha : aix m kk = some i) (hb : (es[i]?).map (·.born) = some born) (h : JT P t ρ (Mt b ke ve (aput m kk v) :: r) K) : JT P (.st ⟨none, .ens mo so vo, none⟩ t) ρ cs K := ⟨by
  intro w hs
  obtain ⟨hob, hm⟩ := hs.me hh
  have hsz := hm.size
  obtain ⟨hlt, hk⟩ := aix_some ha
  have hie : i < es.size := by omega
  have hbi : es[i].born = born := by rw [Array.getElem?_eq_getElem hie] at hb; simpa using hb
  obtain ⟨es', c', e1, e2⟩ := hm.put kk v
  have hf : found ve m kk = some (i, ve (m[i]).2) := by unfold found; rw [ha]; simp [List.getElem?_eq_getElem hlt]
  rw [hf] at e1
  have hval := hm.val i
  rw [Array.getElem?_eq_getElem hie, List.getElem?_eq_getElem hlt] at hval
  simp only [Option.map_some, Option.some.injEq, Prod.mk.injEq] at hval
  have hmod : (es.modify i fun e => { e with key := ke kk, val := ve v }) = es.modify i fun e => { e with val := ve v } := by
    apply Array.ext_getElem?
    intro j
    rw [Array.getElem?_modify, Array.getElem?_modify]
    by_cases hij : i = j
    · subst hij
      rw [if_pos rfl, if_pos rfl, Array.getElem?_eq_getElem hie]
      simp [hval.1, hk]
    · rw [if_neg hij, if_neg hij]
  simp only [mapPut, hmod, Obj.map.injEq] at e1
  have hfind : es.findIdx? (fun e => (e.born : Int) == (born : Int)) = some i := by
    rw [Array.findIdx?_eq_some_iff_getElem]
    refine ⟨hie, by simp [hbi], fun j hj => ?_⟩
    have hje : j < es.size := by omega
    simp only [beq_iff_eq, Bool.not_eq_true]
    intro hcon
    have h3 := hm.2.2
    have := (List.getElem_inj (i := j) (j := i) (h₀ := by simpa using hje) (h₁ := by simpa using hie) h3).1 (by simp only [List.getElem_map, Array.getElem_toList]; rw [hbi]; exact_mod_cast hcon)
    omega
  simp only [runT, semG, Kd.sem]
  refine ⟨b, es, c, _, _, _, i, hx, hso, hv, hob, hfind, h.run _ ?_⟩
  have hpt : Sat w (pt b (.map es c) :: r) := by
    refine (hs.imp hh).imp ?_
    rintro S H ⟨H1, H2, h1, h2, hd, hp, hr⟩
    exact ⟨H1, H2, h1, h2, hd, hp.1, hr⟩
  have hput := Sat.setM (o' := .map (es.modify i fun e => { e with val := ve v }) c) hpt rfl
  rw [e1.1, e1.2] at hput
  rw [e1.1, e1.2]
  exact hput.mtMk e2⟩
end
end Go.SL
