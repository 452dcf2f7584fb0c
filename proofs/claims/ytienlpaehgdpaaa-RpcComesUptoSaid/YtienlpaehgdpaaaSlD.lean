/- The walk's own words, part D: a region's operations, one behind the other or in whatever order the tape draws. Conditions: none. -/
import Derived.Test.YtienlpaehgdpaaaSlC
set_option linter.unusedSimpArgs false
set_option linter.unusedVariables false
namespace Go.SL
open Go

def guardOf (ops : Array Oper) (g : Option (Nat × Bool)) : Option (Option (Nat × Bool)) :=
  match g with
  | none => some none
  | some (j, b) => match (ops[j]?).bind (·.dst) with
    | some t => some (some (t, b))
    | none => none

def dstOk (N : Nat) : Option Nat → Bool
  | none => true
  | some d => d < N

def cleanOp (P : Program) (N : Nat) (ops : Array Oper) (o : Oper) : Option COp :=
  match cleanK P o, guardOf ops o.guard with
  | some k, some g => if dstOk N o.dst then some ⟨o.dst, k, g⟩ else none
  | _, _ => none

section
variable {P : Program} {N : Nat} {ops : Array Oper}

theorem cleanOp_spec {o : Oper} {c : COp} (h : cleanOp P N ops o = some c) :
    cleanK P o = some c.k ∧ guardOf ops o.guard = some c.guard ∧ c.dst = o.dst ∧ ∀ d, o.dst = some d → d < N := by
  unfold cleanOp at h
  split at h
  · rename_i k g hk hg
    split at h
    · rename_i hd
      cases h
      exact ⟨hk, hg, rfl, fun d hd' => by rw [hd'] at hd; simpa [dstOk] using hd⟩
    · simp at h
  · simp at h

def asB : Value → Option Bool
  | .bool c => some c
  | _ => none

/-- Is the operation carried out? -/
theorem wanted_none {o : Oper} (hg : guardOf ops o.guard = some none) (a : Act) : Region.wanted o (yielded ops a.tmps) = true := by
  unfold guardOf at hg
  split at hg
  · rename_i h0; simp [Region.wanted, h0]
  · split at hg <;> simp at hg

theorem wanted_some {o : Oper} {t : Nat} {b : Bool} (hg : guardOf ops o.guard = some (some (t, b))) (a : Act) {v : Value} (hv : a.tmps.getD t undef = v) :
    (v = .bool b → Region.wanted o (yielded ops a.tmps) = true) ∧ (v ≠ .bool b → Region.wanted o (yielded ops a.tmps) = false) := by
  unfold guardOf at hg
  split at hg
  · simp at hg
  · rename_i j b' h0
    split at hg
    · rename_i t' ht
      simp at hg
      obtain ⟨rfl, rfl⟩ := hg
      have hy : yielded ops a.tmps j = asB v := by
        simp only [yielded, ht, Option.bind_some]
        simp only [Array.getD_eq_getD_getElem?] at hv
        cases h : a.tmps[t']? with
        | none => rw [h] at hv; simp [undef] at hv; subst hv; rfl
        | some u => rw [h] at hv; simp at hv; subst hv; cases u <;> rfl
      refine ⟨fun e => ?_, fun e => ?_⟩
      · subst e; simp [Region.wanted, h0, hy, asB]
      · simp only [Region.wanted, h0, hy]
        clear hv
        cases v
        case bool c =>
          have : c ≠ b' := fun e' => e (by rw [e'])
          cases c <;> cases b' <;> simp_all [asB]
        all_goals rfl
    · simp at hg

/-- One operation, its guard looked at. -/
def semG (P : Program) (c : COp) (ρ : Env) (h : Heap) (K : Value → Heap → Prop) : Prop :=
  match c.guard with
  | none => c.k.sem P ρ h K
  | some (t, b) => ∃ g, ρ.lk t = some g ∧ (g = .bool b → c.k.sem P ρ h K) ∧ (g ≠ .bool b → K undef h)

/-- At a frame 'x' of which ρ is known, carried out at a frame 'a' in which its operands read the same. -/
theorem wpOp_of {Q : Exit → Act → World → Prop} {i : Nat} {o : Oper} {c : COp} {a x : Act} {ρ : Env} {w : World} {Kt : Value → Heap → Prop} {next : Act → World → Prop}
    (hi : ops[i]? = some o) (hc : cleanOp P N ops o = some c) (hx : Agrees x ρ N) (he : execOp a.eval o = execOp x.eval o)
    (hg : ∀ t b, c.guard = some (t, b) → a.tmps.getD t undef = x.tmps.getD t undef) (hs : semG P c ρ w.heap Kt)
    (hn : ∀ v w', Keeps w w' → Kt v w'.heap → next (a.put o.dst v) w') : wpOp P ops Q i next a w := by
  obtain ⟨hk, hgo, hd, _⟩ := cleanOp_spec hc
  unfold wpOp
  simp only [hi]
  unfold semG at hs
  cases hcg : c.guard with
  | none =>
    rw [hcg] at hgo hs
    rw [if_pos (wanted_none hgo a)]
    refine .inl (RunOk.wp (Kt := Kt) ?_ hn)
    rw [he]; exact K_sound hk hx hs
  | some tb =>
    obtain ⟨t, b⟩ := tb
    rw [hcg] at hgo hs
    obtain ⟨g, hlk, hs1, hs2⟩ := hs
    have hv := hx.lk t _ hlk
    rw [← hg t b hcg] at hv
    have hw := wanted_some hgo a hv
    by_cases hgb : g = .bool b
    · rw [if_pos (hw.1 hgb)]
      refine .inl (RunOk.wp (Kt := Kt) ?_ hn)
      rw [he]; exact K_sound hk hx (hs1 hgb)
    · rw [hw.2 hgb]
      exact hn _ _ (Keeps.refl w) (hs2 hgb)

end

/-- The operations of a region, in the order in which they are to be looked at. -/
inductive Tr where
  | done
  | st (c : COp) (t : Tr)
  | ag (c : COp) (t : Tr)
  | both (t u : Tr)

/-- It still gives what it gave. -/
def againG (P : Program) (c : COp) (ρ : Env) (h : Heap) : Prop :=
  semG P c ρ h fun v h' => h' = h ∧ ∀ d, c.dst = some d → ρ.lk d = some v

def runT (P : Program) : Tr → Env → Heap → (Env → Heap → Prop) → Prop
  | .done, ρ, h, K => K ρ h
  | .st c t, ρ, h, K => semG P c ρ h fun v h' => runT P t (ρ.put c.dst v) h' K
  | .ag c t, ρ, h, K => againG P c ρ h ∧ runT P t ρ h K
  | .both t u, ρ, h, K => runT P t ρ h K ∧ runT P u ρ h K

def listT : List COp → Tr
  | [] => .done
  | c :: r => .st c (listT r)

section
variable {P : Program} {N : Nat} {ops : Array Oper} {Q : Exit → Act → World → Prop}

/-- The lexical order. -/
theorem wpOps_list {w0 : World} {K : Env → Heap → Prop} (hQ : ∀ ρ a w, Keeps w0 w → K ρ w.heap → Agrees a ρ N → Q .normal a w) : ∀ (is : List Nat) (cs : List COp) (a : Act) (ρ : Env) (w : World),
    (is.map fun i => (ops[i]?).bind (cleanOp P N ops)) = cs.map some → Keeps w0 w → Agrees a ρ N → runT P (listT cs) ρ w.heap K → wpOps P ops Q is a w
  | [], [], a, ρ, w, _, hw, ha, h => hQ _ _ _ hw h ha
  | [], _ :: _, _, _, _, he, _, _, _ => by simp at he
  | _ :: _, [], _, _, _, he, _, _, _ => by simp at he
  | i :: is, c :: cs, a, ρ, w, he, hw, ha, h => by
    simp only [List.map_cons, List.cons.injEq] at he
    obtain ⟨h1, h2⟩ := he
    cases ho : ops[i]? with
    | none => simp [ho] at h1
    | some o =>
      simp [ho] at h1
      obtain ⟨_, _, hd, hdn⟩ := cleanOp_spec h1
      rw [wpOps_cons]
      refine wpOp_of ho h1 ha rfl (fun _ _ _ => rfl) h fun v w' hk hv => ?_
      rw [← hd] at hdn ⊢
      exact wpOps_list hQ is cs _ _ _ h2 (hw.trans hk) (ha.put hdn v) hv

end
end Go.SL
