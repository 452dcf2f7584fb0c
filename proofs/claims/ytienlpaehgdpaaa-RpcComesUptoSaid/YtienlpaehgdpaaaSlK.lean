/- The walk's own words, part K: contracts of functions; a rule for each kind of operation. Conditions: none. -/
import Derived.Test.YtienlpaehgdpaaaSlO
set_option linter.unusedSimpArgs false
set_option linter.unusedVariables false
set_option linter.unusedSectionVars false
namespace Go.SL
open Go

/-! ### Contracts -/

def callOk (P : Program) (f : Nat) : Bool := P.funcs[f]?.any fun fn => fn.body.isSome && fn.name != "runtime.NumGoroutine"

/-- Called so, where 'cs' is known, it comes back with a value and a heap of which R speaks. -/
def Meets (P : Program) (f : Nat) (args : List Value) (cs : List Assn) (R : Value → List Assn → Prop) : Prop :=
  callOk P f = true ∧ ∀ w : World, Sat w.heap cs → Calls P f args.toArray w fun e w' => ∃ v cs', e = .returned v ∧ Keeps w w' ∧ Sat w'.heap cs' ∧ R v cs'

/-- Where a result is read. -/
inductive RV where
  | t (t : Nat)
  | c (t : Nat) (n : Option Nat)

def cleanRV (P : Program) : List ResultVar → Option (List RV)
  | [] => some []
  | .tmp t :: r => (cleanRV P r).map (.t t :: ·)
  | .cell t T :: r => match isAggT P T, P.info? T, cleanRV P r with
    | some true, some i, some l => some (.c t (some i.size) :: l)
    | some false, some _, some l => some (.c t none :: l)
    | _, _, _ => none

def bodyOf (P : Program) (f : Nat) : Option (Nat × List RV × CC) :=
  match P.funcs[f]? with
  | none => none
  | some fn => match fn.body with
    | none => none
    | some c => match cleanRV P fn.results.toList, cleanC P fn.ntmps c with
      | some rs, some cc => some (fn.ntmps, rs, cc)
      | _, _ => none

def rvT : RV → Nat
  | .t t => t
  | .c t _ => t
/-- The body, made shorter: slots of E1 hold only what others do, slots of E2 only hand on. -/
def bodyO (E1 E2 : Nat) (P : Program) (f : Nat) : Option (Nat × List RV × CC) :=
  match bodyOf P f with
  | none => none
  | some (N, rs, cc) => match mapC E1 (optT E1 []) (flat cc .skip) with
    | none => none
    | some c1 => match mapC E2 (peT E2) c1 with
      | none => none
      | some c2 => bif rs.all (fun r => !tb E1 (rvT r) && !tb E2 (rvT r)) then some (N, rs, c2) else none

/-- The results, read where they lie. -/
inductive Rets (ρ : Env) (cs : List Assn) : List RV → List Value → Prop
  | nil : Rets ρ cs [] []
  | t {t v rs vs} (h : ρ.lk t = some v) (hr : Rets ρ cs rs vs) : Rets ρ cs (.t t :: rs) (v :: vs)
  | c1 {t ad v rs vs} (h : ρ.lk t = some (.pointer (some ad))) (hv : ∀ h, Sat h cs → heapCell h ad = some v) (hr : Rets ρ cs rs vs) : Rets ρ cs (.c t none :: rs) (v :: vs)
  | cn {t n ad us rs vs} (h : ρ.lk t = some (.pointer (some ad))) (hv : ∀ h, Sat h cs → heapCells h ad 0 n = some us) (hr : Rets ρ cs rs vs) : Rets ρ cs (.c t (some n) :: rs) (.agg us.toArray :: vs)

def mkRet : List Value → Value
  | [v] => v
  | vs => .tuple vs.toArray

def retQ (rs : List RV) (R : Value → List Assn → Prop) : Exit → Env → List Assn → Prop
  | .ret, ρ, cs => ∃ vs cs2, Rets ρ cs rs vs ∧ Up cs cs2 ∧ R (mkRet vs) cs2
  | .normal, ρ, cs => ∃ vs cs2, Rets ρ cs rs vs ∧ Up cs cs2 ∧ R (mkRet vs) cs2
  | _, _, _ => False

def argEnv : Nat → List Value → Env
  | _, [] => []
  | i, v :: r => (i, v) :: argEnv (i + 1) r

theorem argEnv_lk : ∀ {args : List Value} {i t : Nat} {v : Value}, Env.lk (argEnv i args) t = some v → i ≤ t ∧ args[t - i]? = some v
  | [], i, t, v, h => by simp [argEnv, Env.lk] at h
  | u :: r, i, t, v, h => by
    simp only [argEnv, lk_cons] at h
    split at h
    · rename_i e; subst e; simp at h; simp [h]
    · obtain ⟨h1, h2⟩ := argEnv_lk h
      refine ⟨by omega, ?_⟩
      rw [show t - i = (t - (i + 1)) + 1 by omega]; simpa using h2

def rvRun (a : Act) : ResultVar → Sem Value
  | .tmp t => pure (a.tmps.getD t undef)
  | .cell x t => do loadVar t (← asAddr (a.tmps.getD x undef))

theorem run_asAddr {P : Program} {ad : Addr} {w : World} : (asAddr (.pointer (some ad))).run P w = .ok ad w := rfl

theorem run_result {P : Program} {a : Act} {ρ : Env} {cs : List Assn} {w : World} (hs : Sat w.heap cs) : ∀ {l : List ResultVar} {rs : List RV} {vs : List Value}, (∀ r ∈ rs, ∀ v, ρ.lk (rvT r) = some v → a.tmps.getD (rvT r) undef = v) →
    cleanRV P l = some rs → Rets ρ cs rs vs →
    (l.mapM (rvRun a)).run P w = .ok vs w
  | [], rs, vs, ha, h, hr => by simp only [cleanRV, Option.some.injEq] at h; subst h; cases hr; simp
  | .tmp t :: l, rs, vs, ha, h, hr => by
    simp only [cleanRV, Option.map_eq_some_iff] at h
    obtain ⟨rs', h', rfl⟩ := h
    cases hr with
    | t h0 hr =>
      have e0 : a.tmps.getD t undef = _ := ha (.t t) List.mem_cons_self _ h0
      have := run_result hs (fun r hr' => ha r (by simp [hr'])) h' hr
      simp only [List.mapM_cons, Sem.run_bind, Sem.run_pure, Result.andThen, this, rvRun, e0]
  | .cell x T :: l, rs, vs, ha, h, hr => by
    simp only [cleanRV] at h
    split at h
    · rename_i i l' hA hi h'
      cases h
      cases hr with
      | cn h0 hv hr =>
        have e0 : a.tmps.getD x undef = _ := ha (.c x _) List.mem_cons_self _ h0
        have := run_result hs (fun r hr' => ha r (by simp [hr'])) h' hr
        have hl := run_loadVar hA hi (hv _ hs)
        simp only [List.mapM_cons, Sem.run_bind, Sem.run_pure, Result.andThen, this, rvRun, e0, run_asAddr, hl]
    · rename_i hA hi h'
      cases h
      cases hr with
      | c1 h0 hv hr =>
        have e0 : a.tmps.getD x undef = _ := ha (.c x _) List.mem_cons_self _ h0
        have := run_result hs (fun r hr' => ha r (by simp [hr'])) h' hr
        have hl := run_loadVar1 (P := P) hA (hv _ hs)
        simp only [List.mapM_cons, Sem.run_bind, Sem.run_pure, Result.andThen, this, rvRun, e0, run_asAddr, hl]
    · simp at h

theorem bodyO_spec {P : Program} {E1 E2 f N : Nat} {rs : List RV} {c2 : CC} (hb : bodyO E1 E2 P f = some (N, rs, c2)) : ∃ cc, bodyOf P f = some (N, rs, cc) ∧ (∀ r ∈ rs, tb E1 (rvT r) = false ∧ tb E2 (rvT r) = false) ∧
    ∀ {Q : Exit → Fr → Heap → Prop} {φ : Fr} {h : Heap}, wpC P c2 Q φ h → wpC P cc (fun e φ0 h' => ∃ φ1, REq E1 φ1 φ0 ∧ ∃ φ2, REq E2 φ2 φ1 ∧ Q e φ2 h') φ h := by
  unfold bodyO at hb
  split at hb
  · cases hb
  · rename_i N' rs' cc h0
    split at hb
    · cases hb
    · rename_i c1 h1
      split at hb
      · cases hb
      · rename_i c2' h2
        cases hr : rs'.all (fun r => !tb E1 (rvT r) && !tb E2 (rvT r)) with
        | false => rw [hr] at hb; cases hb
        | true =>
          rw [hr] at hb
          cases hb
          refine ⟨cc, h0, fun r hm => ?_, fun {Q φ h} H => ?_⟩
          · have := (List.all_eq_true.1 hr) r hm
            simp only [Bool.and_eq_true, Bool.not_eq_true'] at this
            exact this
          · have a1 := mapC_ok (peT_reg P E2) h2 (φ0 := φ) (fun _ _ => rfl) H
            have a2 := mapC_ok (optT_reg P E1) h1 (φ0 := φ) (fun _ _ => rfl) a1
            exact wpC_mono seqH_skip' (flat_ok a2)

theorem Meets.intro {P : Program} {E1 E2 f N : Nat} {rs : List RV} {cc : CC} {args : List Value} {cs : List Assn} {R : Value → List Assn → Prop} (hb : bodyO E1 E2 P f = some (N, rs, cc)) (hok : callOk P f = true)
    (hl : args.length ≤ N) (h : J P N cc (argEnv 0 args) cs (retQ rs R)) : Meets P f args cs R := by
  obtain ⟨cc0, hb, hrv, hop⟩ := bodyO_spec hb
  refine ⟨hok, fun w hs => ?_⟩
  unfold bodyOf at hb
  split at hb
  · simp at hb
  · rename_i fn hfn
    split at hb
    · simp at hb
    · rename_i c hc
      split at hb
      · rename_i rs' cc' hrs hcc
        cases hb
        refine calls_of_wp hfn hc ?_
        have ha : Agr (frame { tmps := args.toArray ++ Array.replicate (fn.ntmps - args.toArray.size) undef, defers := [] }) (argEnv 0 args) := by
          intro t v ht
          obtain ⟨_, h2⟩ := argEnv_lk ht
          have hlt : t < args.length := by
            rcases Nat.lt_or_ge t args.length with h' | h'
            · exact h'
            · rw [Nat.sub_zero, List.getElem?_eq_none h'] at h2; cases h2
          simp only [frame, Array.getD_eq_getD_getElem?]
          rw [Array.getElem?_append_left (by simpa using hlt)]
          simp at h2 ⊢
          rw [h2]; rfl
        refine wp_mono (wpC_wp cc0 hcc rfl (by simp; omega) (hop (h.run _ ha w.heap hs))) ?_
        rintro e a' w' ⟨hkp, hd', hz', φ1, r1, φ2, r2, ρ', cs', hA, hs', hq⟩
        have hrd : ∀ r ∈ rs, ∀ v, ρ'.lk (rvT r) = some v → a'.tmps.getD (rvT r) undef = v := by
          intro r hr v hv
          have h1 := hrv r hr
          have h2 := hA _ _ hv
          rw [r2 _ h1.2, r1 _ h1.1] at h2
          exact h2
        have key : (∃ vs cs2, Rets ρ' cs' rs vs ∧ Up cs' cs2 ∧ R (mkRet vs) cs2) → a'.defers = [] ∧ ∃ v, (results fn a'.tmps).run P w' = .ok v w' ∧ (∃ v1 cs1, Ending.returned v = .returned v1 ∧ Keeps w w' ∧ Sat w'.heap cs1 ∧ R v1 cs1) := by
          rintro ⟨vs, cs2, hvs, hi, hR⟩
          refine ⟨hd', mkRet vs, ?_, _, cs2, rfl, hkp, hi _ hs', hR⟩
          have := run_result (P := P) hs' hrd hrs hvs
          have hf : (fn.results.mapM (rvRun a')).run P w' = .ok vs.toArray w' := by
            rw [Array.mapM_eq_mapM_toList]
            simp [this]
          have : results fn a'.tmps = (do let vs ← fn.results.mapM (rvRun a'); pure (if h : vs.size = 1 then vs[0] else .tuple vs)) := by
            unfold results
            congr 1
          rw [this, Sem.run_bind, hf]
          simp only [Result.andThen, Sem.run_pure]
          congr 1
          cases vs with
          | nil => rfl
          | cons v r => cases r <;> simp [mkRet]
        cases e with
        | normal => exact key hq
        | ret => exact key hq
        | _ => exact hq.elim
      · simp at hb

end Go.SL
