/- Layer 11: the skip graph of some peers (plain Lean). Conditions: none. -/
import Derived.Test.YtgcmglieciaifaaVa
set_option linter.unusedSimpArgs false
set_option linter.unusedVariables false
namespace Go.SL
open Go
theorem keyLt_irrefl (a : Key) : ¬ keyLt a a := by unfold keyLt; omega
theorem keyLt_trans {a b c : Key} (h : keyLt a b) (h' : keyLt b c) : keyLt a c := by unfold keyLt at *; omega
theorem keyLt_tri (a b : Key) : keyLt a b ∨ a = b ∨ keyLt b a := by
  obtain ⟨r, n⟩ := a; obtain ⟨s, m⟩ := b
  unfold keyLt; simp only [Key.mk.injEq]; omega
theorem keyLt_asymm {a b : Key} (h : keyLt a b) : ¬ keyLt b a := fun h' => keyLt_irrefl a (keyLt_trans h h')
/-- Members of a graph of a height. -/
def gMem (h : Int) (r : Ref) : Prop := 2 ≤ r.id ∧ r.id < 1024 ∧ r.key.rank = 2 ∧ vecOk r.vec ∧ r.vec.len = h
instance (h : Int) (r : Ref) : Decidable (gMem h r) := by unfold gMem; infer_instance
structure grOk (h : Int) (l : List Ref) : Prop where
  h0 : 0 ≤ h
  h32 : h ≤ 32
  len : l.length ≤ 1022
  mem : ∀ r ∈ l, gMem h r
  ids : (l.map (·.id)).Nodup
  keys : (l.map (·.key)).Nodup
instance (h : Int) (l : List Ref) : Decidable (grOk h l) :=
  if H : 0 ≤ h ∧ h ≤ 32 ∧ l.length ≤ 1022 ∧ (∀ r ∈ l, gMem h r) ∧ (l.map (·.id)).Nodup ∧ (l.map (·.key)).Nodup then .isTrue ⟨H.1, H.2.1, H.2.2.1, H.2.2.2.1, H.2.2.2.2.1, H.2.2.2.2.2⟩
  else .isFalse fun g => H ⟨g.h0, g.h32, g.len, g.mem, g.ids, g.keys⟩
def gE (h : Int) (l : List Ref) : Int := if grOk h l then 0 else 110
/-! ### In their keys' order -/
def gins (x : Ref) : List Ref → List Ref
  | [] => [x]
  | y :: l => if keyLt y.key x.key then y :: gins x l else x :: y :: l
def gsort (l : List Ref) : List Ref := l.foldl (fun out x => gins x out) []
def gsrt (l : List Ref) : Prop := l.Pairwise fun x y => keyLt x.key y.key
theorem gins_perm (x : Ref) : ∀ l : List Ref, (gins x l).Perm (x :: l)
  | [] => .refl _
  | y :: l => by
    unfold gins
    split
    · exact ((gins_perm x l).cons y).trans (.swap _ _ _)
    · exact .refl _
theorem gins_srt {x : Ref} : ∀ {l : List Ref}, gsrt l → (∀ y ∈ l, y.key ≠ x.key) → gsrt (gins x l)
  | [], _, _ => List.pairwise_singleton _ _
  | y :: l, hs, hx => by
    have hs' := List.pairwise_cons.1 hs
    unfold gins
    split
    · rename_i hlt
      refine List.pairwise_cons.2 ⟨fun z hz => ?_, gins_srt hs'.2 fun z hz => hx z (by simp [hz])⟩
      rcases List.mem_cons.1 ((gins_perm x l).mem_iff.1 hz) with rfl | hz
      · exact hlt
      · exact hs'.1 z hz
    · rename_i hn
      have hyx : keyLt x.key y.key := ((keyLt_tri y.key x.key).resolve_left hn).resolve_left (hx y (by simp))
      refine List.pairwise_cons.2 ⟨fun z hz => ?_, hs⟩
      rcases List.mem_cons.1 hz with rfl | hz
      · exact hyx
      · exact keyLt_trans hyx (hs'.1 z hz)
theorem gsort_snoc (l : List Ref) (x : Ref) : gsort (l ++ [x]) = gins x (gsort l) := by unfold gsort; rw [List.foldl_append]; rfl
theorem gsort_perm (l : List Ref) : (gsort l).Perm l := by
  suffices h : ∀ n, (gsort (l.take n)).Perm (l.take n) by simpa using h l.length
  intro n
  induction n with
  | zero => simp [gsort]
  | succ n ih =>
    rcases Nat.lt_or_ge n l.length with h | h
    · rw [List.take_succ_eq_append_getElem h, gsort_snoc]
      exact (gins_perm _ _).trans ((List.Perm.cons _ ih).trans (List.perm_append_singleton _ _).symm)
    · rw [List.take_of_length_le (by omega)]; rw [List.take_of_length_le h] at ih; exact ih
theorem gsort_srt {l : List Ref} (hk : (l.map (·.key)).Nodup) : gsrt (gsort l) := by
  suffices h : ∀ n, gsrt (gsort (l.take n)) by simpa using h l.length
  intro n
  induction n with
  | zero => simp [gsort, gsrt]
  | succ n ih =>
    rcases Nat.lt_or_ge n l.length with h | h
    · rw [List.take_succ_eq_append_getElem h, gsort_snoc]
      refine gins_srt ih fun y hy e => ?_
      have hy' := (gsort_perm _).mem_iff.1 hy
      obtain ⟨i, hi, rfl⟩ := List.mem_iff_getElem.1 hy'
      rw [List.length_take] at hi
      rw [List.getElem_take] at e
      have := (List.getElem_inj (i := i) (j := n) (h₀ := by simpa using (by omega : i < l.length)) (h₁ := by simpa using h) hk).1 (by simpa using e)
      omega
    · rw [List.take_of_length_le (by omega)]; rw [List.take_of_length_le h] at ih; exact ih
theorem gsrt_nodup {l : List Ref} (h : gsrt l) : (l.map (·.key)).Nodup := by
  rw [List.nodup_iff_pairwise_ne, List.pairwise_map]
  unfold gsrt at h
  refine h.imp ?_
  intro a b hab e
  rw [e] at hab; exact keyLt_irrefl _ hab
/-- There is one such order. -/
theorem gsrt_eq {l m : List Ref} (hl : gsrt l) (hm : gsrt m) (hp : l.Perm m) : l = m := by
  unfold gsrt at hl hm
  exact List.Perm.eq_of_pairwise (le := fun x y => keyLt x.key y.key) (fun x y _ _ h1 h2 => absurd h2 (keyLt_asymm h1)) hl hm hp
theorem gsort_eq {l m : List Ref} (hk : (m.map (·.key)).Nodup) (hp : l.Perm m) (hl : l.Pairwise fun x y => ¬ kcmp y.key x.key < 0) : l = gsort m := by
  have hd : (l.map (·.key)).Nodup := ((hp.map (·.key)).nodup_iff).2 hk
  refine gsrt_eq ?_ (gsort_srt hk) (hp.trans (gsort_perm m).symm)
  rw [List.nodup_iff_pairwise_ne, List.pairwise_map] at hd
  refine (hl.and hd).imp fun {a b} ⟨h1, h2⟩ => ?_
  rw [kcmp_lt] at h1
  exact ((keyLt_tri a.key b.key).resolve_right fun h => h.elim h2 h1)
theorem gsort_self {l : List Ref} (h : gsrt l) : gsort l = l := gsrt_eq (gsort_srt (gsrt_nodup h)) h (gsort_perm l)
theorem gsort_filter {l : List Ref} (hk : (l.map (·.key)).Nodup) (p : Ref → Bool) : gsort (l.filter p) = (gsort l).filter p := by
  have hk' : ((l.filter p).map (·.key)).Nodup := hk.sublist (List.Sublist.map _ List.filter_sublist)
  exact gsrt_eq (gsort_srt hk') ((gsort_srt hk).sublist List.filter_sublist) ((gsort_perm _).trans ((gsort_perm l).filter p).symm)
/-! ### Lists -/
/-- A list's members. -/
def gmem (l : List Ref) (w : Vec) : List Ref := (gsort l).filter fun r => decide (vbegins r.vec w)
abbrev gHead (h : Int) : Ref := ⟨0, ⟨1, 0⟩, ⟨h, 0⟩⟩
abbrev gTail (h : Int) : Ref := ⟨1, ⟨3, 0⟩, ⟨h, 0⟩⟩
/-- A list, with its ends. -/
def grow (h : Int) (l : List Ref) (w : Vec) : List Ref := gHead h :: (gmem l w ++ [gTail h])
def gmay (h : Int) (w : Vec) : Prop := vecOk w ∧ w.len ≤ h
instance (h : Int) (w : Vec) : Decidable (gmay h w) := by unfold gmay; infer_instance
/-- Those beside one of a row. -/
def gix (row : List Ref) (id : Int) : Option Nat := row.findIdx? fun r => decide (r.id = id)
def gl (row : List Ref) (i : Nat) : Ref := if 0 < i then nth row (i - 1) else zR
def gr (row : List Ref) (i : Nat) : Ref := if i + 1 < row.length then nth row (i + 1) else zR
def gbes (row : List Ref) (id : Int) : Ref × Ref × Bool := match gix row id with
  | some i => (gl row i, gr row i, true)
  | none => (zR, zR, false)
/-! ### How it is built -/
abbrev GB := List (Vec × List Ref)
def gput (m : GB) (w : Vec) (r : Ref) : GB := aput m w ((alk m w).getD [] ++ [r])
def gputs (m : GB) (r : Ref) (k : Nat) : GB := (List.range k).foldl (fun (m : GB) (j : Nat) => gput m (vpre r.vec (j : Int)) r) m
theorem gputs_succ (m : GB) (r : Ref) (k : Nat) : gputs m r (k + 1) = gput (gputs m r k) (vpre r.vec k) r := by unfold gputs; rw [List.range_succ, List.foldl_append]; rfl
def gby (s : List Ref) (n : Nat) : GB := s.foldl (fun m r => gputs m r n) []
theorem gby_snoc (s : List Ref) (r : Ref) (n : Nat) : gby (s ++ [r]) n = gputs (gby s n) r n := by unfold gby; rw [List.foldl_append]; rfl
theorem vpre_len (v : Vec) (n : Int) : (vpre v n).len = n := rfl
theorem alk_gput (m : GB) (w : Vec) (r : Ref) (w' : Vec) : alk (gput m w r) w' = if w' = w then some ((alk m w).getD [] ++ [r]) else alk m w' := by unfold gput; rw [alk_put]
theorem alk_gputs (m : GB) (r : Ref) (w : Vec) : ∀ k, alk (gputs m r k) w = if 0 ≤ w.len ∧ w.len < k ∧ vpre r.vec w.len = w then some ((alk m w).getD [] ++ [r]) else alk m w
  | 0 => by rw [if_neg (by omega)]; simp [gputs]
  | k + 1 => by
    rw [gputs_succ, alk_gput, alk_gputs m r w k]
    by_cases e : w = vpre r.vec k
    · rw [if_pos e]
      have hl : w.len = k := by rw [e]; rfl
      rw [if_pos ⟨by omega, by omega, by rw [hl]; exact e.symm⟩]
      rw [alk_gputs m r (vpre r.vec k) k, if_neg (by rw [← e]; omega), ← e]
    · rw [if_neg e]
      by_cases h : 0 ≤ w.len ∧ w.len < k ∧ vpre r.vec w.len = w
      · rw [if_pos h, if_pos ⟨h.1, by omega, h.2.2⟩]
      · rw [if_neg h, if_neg (fun h' => h ⟨h'.1, by
          have : w.len ≠ k := fun hk => e (by rw [← hk]; exact h'.2.2.symm)
          omega, h'.2.2⟩)]
theorem two_p (n : Nat) : (1 : Int) ≤ 2 ^ n := by
  have : 0 < 2 ^ n := Nat.pow_pos (by decide)
  have e : ((2 : Int) ^ n) = ((2 ^ n : Nat) : Int) := by simp
  rw [e]; omega
theorem vpre_ok {v : Vec} (hv : vecOk v) (hb : 0 ≤ v.bits) {n : Int} (h0 : 0 ≤ n) (h1 : n ≤ v.len) : vecOk (vpre v n) ∧ 0 ≤ (vpre v n).bits := by
  obtain ⟨q1, q2, q3⟩ := hv
  have hp : (0 : Int) < 2 ^ (v.len - n).toNat := by have := two_p (v.len - n).toNat; omega
  have e : (2 : Int) ^ v.len.toNat = 2 ^ n.toNat * 2 ^ (v.len - n).toNat := by
    rw [← Int.pow_add]; congr 1; omega
  refine ⟨⟨h0, by show n ≤ 32; omega, ?_⟩, ?_⟩
  · show v.bits.fdiv (2 ^ (v.len - n).toNat) ≤ 2 ^ n.toNat - 1
    rw [Int.fdiv_eq_ediv_of_nonneg _ (by omega)]
    have : v.bits / 2 ^ (v.len - n).toNat < 2 ^ n.toNat := Int.ediv_lt_of_lt_mul hp (by omega)
    omega
  · show 0 ≤ v.bits.fdiv (2 ^ (v.len - n).toNat)
    rw [Int.fdiv_eq_ediv_of_nonneg _ (by omega)]
    exact Int.ediv_nonneg hb (by omega)
theorem pre_iff {h : Int} {r : Ref} (hr : gMem h r) (hb : 0 ≤ r.vec.bits) (w : Vec) : (0 ≤ w.len ∧ w.len < ((h.toNat + 1 : Nat) : Int) ∧ vpre r.vec w.len = w) ↔ vbegins r.vec w := by
  obtain ⟨_, _, _, q1, q2⟩ := hr
  have := q1.1
  constructor
  · rintro ⟨a, b, c⟩
    refine ⟨q1, ?_, by omega, c⟩
    rw [← c]; exact (vpre_ok q1 hb a (by omega)).1
  · rintro ⟨_, a, b, c⟩
    exact ⟨a.1, by omega, c⟩
/-- What a graph that is built has for each list. -/
theorem alk_gby {h : Int} {s : List Ref} (hs : ∀ r ∈ s, gMem h r ∧ 0 ≤ r.vec.bits) (w : Vec) :
    alk (gby s (h.toNat + 1)) w = if (s.filter fun r => decide (vbegins r.vec w)) = [] then none else some (s.filter fun r => decide (vbegins r.vec w)) := by
  suffices H : ∀ n, n ≤ s.length → alk (gby (s.take n) (h.toNat + 1)) w = if ((s.take n).filter fun r => decide (vbegins r.vec w)) = [] then none else some ((s.take n).filter fun r => decide (vbegins r.vec w)) by simpa using H s.length (Nat.le_refl _)
  intro n
  induction n with
  | zero => intro _; simp [gby, alk]
  | succ n ih =>
    intro hn
    have ih := ih (by omega)
    rw [List.take_succ_eq_append_getElem (by omega), gby_snoc, alk_gputs, List.filter_append]
    obtain ⟨h1, h2⟩ := hs s[n] (List.getElem_mem _)
    have hi := pre_iff h1 h2 w
    by_cases hb : vbegins s[n].vec w
    · rw [if_pos (hi.2 hb), ih]
      simp only [List.filter_cons, hb, decide_true, if_true, List.filter_nil]
      by_cases he : ((s.take n).filter fun r => decide (vbegins r.vec w)) = []
      · rw [if_pos he, he]; simp
      · rw [if_neg he]; simp
    · rw [if_neg (fun h => hb (hi.1 h)), ih]
      simp [hb]
theorem gby_get {h : Int} {s : List Ref} (hs : ∀ r ∈ s, gMem h r ∧ 0 ≤ r.vec.bits) (w : Vec) : (alk (gby s (h.toNat + 1)) w).getD [] = s.filter fun r => decide (vbegins r.vec w) := by
  rw [alk_gby hs]
  split
  · rename_i e; rw [e]; rfl
  · rfl
end Go.SL
