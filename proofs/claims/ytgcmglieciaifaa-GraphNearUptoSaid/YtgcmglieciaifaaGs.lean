/- Layer 11: which lists there are (plain Lean). Conditions: none. -/
import Derived.Test.YtgcmglieciaifaaGf
set_option linter.unusedSimpArgs false
set_option linter.unusedVariables false
namespace Go.SL
open Go
/-! ### Keys in order -/
def vins (w : Vec) : List Vec → List Vec
  | [] => [w]
  | y :: l => if vlt y w then y :: vins w l else if y = w then y :: l else w :: y :: l
def vsrt (l : List Vec) : Prop := l.Pairwise vlt
theorem vlt_irrefl (v : Vec) : ¬ vlt v v := lexLt_irrefl _
theorem vlt_trans {a b c : Vec} (h : vlt a b) (h' : vlt b c) : vlt a c := lexLt_trans h h'
theorem vins_mem {w x : Vec} : ∀ {l : List Vec}, x ∈ vins w l ↔ x = w ∨ x ∈ l
  | [] => by simp [vins]
  | y :: l => by
    unfold vins
    split
    · rw [List.mem_cons, vins_mem, List.mem_cons]; exact ⟨fun h => by rcases h with h | h | h <;> simp [h], fun h => by rcases h with h | h | h <;> simp [h]⟩
    · split
      · rename_i e; subst e; simp
      · simp
theorem vins_srt {w : Vec} (hw : vecG w) : ∀ {l : List Vec}, (∀ x ∈ l, vecG x) → vsrt l → vsrt (vins w l)
  | [], _, _ => List.pairwise_singleton _ _
  | y :: l, hg, hs => by
    obtain ⟨h1, h2⟩ := List.pairwise_cons.1 hs
    unfold vins
    split
    · rename_i hlt
      refine List.pairwise_cons.2 ⟨fun z hz => ?_, vins_srt hw (fun x hx => hg x (by simp [hx])) h2⟩
      rcases vins_mem.1 hz with rfl | hz
      · exact hlt
      · exact h1 z hz
    · rename_i hn
      split
      · exact hs
      · rename_i hne
        have hwy : vlt w y := ((vlt_total (hg y (by simp)) hw).resolve_left hn).resolve_left hne
        refine List.pairwise_cons.2 ⟨fun z hz => ?_, hs⟩
        rcases List.mem_cons.1 hz with rfl | hz
        · exact hwy
        · exact vlt_trans hwy (h1 z hz)
theorem vsrt_nodup {l : List Vec} (h : vsrt l) : l.Nodup := by
  rw [List.nodup_iff_pairwise_ne]
  exact h.imp fun {a b} hab e => by subst e; exact vlt_irrefl _ hab
theorem vsrt_eq {l m : List Vec} (hl : vsrt l) (hm : vsrt m) (h : ∀ x, x ∈ l ↔ x ∈ m) : l = m :=
  List.Perm.eq_of_pairwise (le := vlt) (fun x y _ _ h1 h2 => absurd (vlt_trans h1 h2) (vlt_irrefl _)) hl hm ((List.perm_ext_iff_of_nodup (vsrt_nodup hl) (vsrt_nodup hm)).2 h)
theorem vsrt_of {l : List Vec} (hg : ∀ x ∈ l, vecG x) (hn : l.Nodup) (h : l.Pairwise fun x y => ¬ vcmp y x < 0) : vsrt l := by
  rw [List.nodup_iff_pairwise_ne] at hn
  have := List.pairwise_iff_getElem.1 h
  have hn' := List.pairwise_iff_getElem.1 hn
  refine List.pairwise_iff_getElem.2 fun i j hi hj hij => ?_
  have h1 := this i j hi hj hij
  have h2 := hn' i j hi hj hij
  rw [vcmp_lt] at h1
  exact (vlt_total (hg _ (List.getElem_mem hi)) (hg _ (List.getElem_mem hj))).resolve_right fun h => h.elim h2 h1
/-! ### The reference's lists -/
def vfold (r : Ref) (n : Nat) (l : List Vec) : List Vec := (List.range n).foldl (fun l (j : Nat) => vins (vpre r.vec (j : Int)) l) l
theorem vfold_succ (r : Ref) (n : Nat) (l : List Vec) : vfold r (n + 1) l = vins (vpre r.vec (n : Int)) (vfold r n l) := by unfold vfold; rw [List.range_succ, List.foldl_append]; rfl
def vall (xs : List Ref) (n : Nat) : List Vec := xs.foldl (fun l r => vfold r n l) []
theorem vall_snoc (xs : List Ref) (r : Ref) (n : Nat) : vall (xs ++ [r]) n = vfold r n (vall xs n) := by unfold vall; rw [List.foldl_append]; rfl
theorem vfold_mem {r : Ref} {l : List Vec} {x : Vec} : ∀ {n : Nat}, x ∈ vfold r n l ↔ (∃ j, j < n ∧ x = vpre r.vec (j : Int)) ∨ x ∈ l
  | 0 => by simp [vfold]
  | n + 1 => by
    rw [vfold_succ, vins_mem, vfold_mem (n := n)]
    constructor
    · rintro (h | ⟨j, hj, h⟩ | h)
      · exact .inl ⟨n, by omega, h⟩
      · exact .inl ⟨j, by omega, h⟩
      · exact .inr h
    · rintro (⟨j, hj, h⟩ | h)
      · rcases Nat.lt_or_ge j n with hq | hq
        · exact .inr (.inl ⟨j, hq, h⟩)
        · obtain rfl : j = n := by omega
          exact .inl h
      · exact .inr (.inr h)
theorem vall_mem {xs : List Ref} {n : Nat} {x : Vec} : x ∈ vall xs n ↔ ∃ r ∈ xs, ∃ j, j < n ∧ x = vpre r.vec (j : Int) := by
  suffices H : ∀ k, k ≤ xs.length → (x ∈ vall (xs.take k) n ↔ ∃ r ∈ xs.take k, ∃ j, j < n ∧ x = vpre r.vec (j : Int)) by simpa using H xs.length (Nat.le_refl _)
  intro k
  induction k with
  | zero => simp [vall]
  | succ k ih =>
    intro hk
    rw [List.take_succ_eq_append_getElem (by omega), vall_snoc, vfold_mem, ih (by omega)]
    simp only [List.mem_append, List.mem_singleton]
    constructor
    · rintro (⟨j, hj, h⟩ | ⟨r, hr, h⟩)
      · exact ⟨_, .inr rfl, j, hj, h⟩
      · exact ⟨r, .inl hr, h⟩
    · rintro ⟨r, hr | rfl, h⟩
      · exact .inr ⟨r, hr, h⟩
      · exact .inl h
theorem vfold_srt {r : Ref} {l : List Vec} {n : Nat} (hg : ∀ j, j < n → vecG (vpre r.vec (j : Int))) (hl : ∀ x ∈ l, vecG x) (hs : vsrt l) : vsrt (vfold r n l) ∧ ∀ x ∈ vfold r n l, vecG x := by
  have hall : ∀ k, k ≤ n → ∀ x ∈ vfold r k l, vecG x := fun k hk x hx => by
    rcases vfold_mem.1 hx with ⟨j, hj, rfl⟩ | hx
    · exact hg j (by omega)
    · exact hl x hx
  refine ⟨?_, hall n (Nat.le_refl _)⟩
  suffices H : ∀ k, k ≤ n → vsrt (vfold r k l) from H n (Nat.le_refl _)
  intro k
  induction k with
  | zero => intro _; exact hs
  | succ k ih => intro hk; rw [vfold_succ]; exact vins_srt (hg k (by omega)) (hall k (by omega)) (ih (by omega))
theorem vall_srt {xs : List Ref} {n : Nat} (hg : ∀ r ∈ xs, ∀ j, j < n → vecG (vpre r.vec (j : Int))) : vsrt (vall xs n) ∧ ∀ x ∈ vall xs n, vecG x := by
  suffices H : ∀ k, k ≤ xs.length → vsrt (vall (xs.take k) n) ∧ ∀ x ∈ vall (xs.take k) n, vecG x by simpa using H xs.length (Nat.le_refl _)
  intro k
  induction k with
  | zero => intro _; simp [vall, vsrt]
  | succ k ih =>
    intro hk
    obtain ⟨h1, h2⟩ := ih (by omega)
    rw [List.take_succ_eq_append_getElem (by omega), vall_snoc]
    exact vfold_srt (fun j hj => hg _ (List.getElem_mem _) j hj) h2 h1
/-! ### The program's lists -/
theorem gput_keys {m : GB} {w : Vec} {r : Ref} : (∀ x, x ∈ (gput m w r).map (·.1) ↔ x = w ∨ x ∈ m.map (·.1)) ∧ ((m.map (·.1)).Nodup → ((gput m w r).map (·.1)).Nodup) := by
  unfold gput aput
  cases h : aix m w with
  | none =>
    have hn : w ∉ m.map (·.1) := by
      unfold aix at h
      rw [List.findIdx?_eq_none_iff] at h
      intro hm
      have := h w hm
      simp at this
    simp only [List.map_append, List.map_cons, List.map_nil]
    refine ⟨fun x => by simp [or_comm], fun hd => ?_⟩
    rw [List.nodup_append]
    exact ⟨hd, by simp, fun a ha b hb e => by simp only [List.mem_singleton] at hb; subst hb; subst e; exact hn ha⟩
  | some i =>
    obtain ⟨hlt, hk⟩ := aix_some h
    have hs : (m.set i (w, (alk m w).getD [] ++ [r])).map (·.1) = m.map (·.1) := by
      rw [List.map_set]
      have : w = (m.map (·.1))[i]'(by simpa using hlt) := by rw [List.getElem_map]; exact hk.symm
      rw [this]; exact List.set_getElem_self (by simpa using hlt)
    simp only [hs]
    refine ⟨fun x => ⟨fun h => .inr h, fun h => ?_⟩, fun h => h⟩
    rcases h with rfl | h
    · rw [← hk]; exact List.mem_map.2 ⟨_, List.getElem_mem hlt, rfl⟩
    · exact h
theorem gputs_keys {m : GB} {r : Ref} : ∀ {n : Nat}, (∀ x, x ∈ (gputs m r n).map (·.1) ↔ (∃ j, j < n ∧ x = vpre r.vec (j : Int)) ∨ x ∈ m.map (·.1)) ∧ ((m.map (·.1)).Nodup → ((gputs m r n).map (·.1)).Nodup)
  | 0 => by simp [gputs]
  | n + 1 => by
    rw [gputs_succ]
    obtain ⟨h1, h2⟩ := gput_keys (m := gputs m r n) (w := vpre r.vec (n : Int)) (r := r)
    obtain ⟨h3, h4⟩ := gputs_keys (m := m) (r := r) (n := n)
    refine ⟨fun x => ?_, fun h => h2 (h4 h)⟩
    rw [h1, h3]
    constructor
    · rintro (h | ⟨j, hj, h⟩ | h)
      · exact .inl ⟨n, by omega, h⟩
      · exact .inl ⟨j, by omega, h⟩
      · exact .inr h
    · rintro (⟨j, hj, h⟩ | h)
      · rcases Nat.lt_or_ge j n with hq | hq
        · exact .inr (.inl ⟨j, hq, h⟩)
        · obtain rfl : j = n := by omega
          exact .inl h
      · exact .inr (.inr h)
theorem gby_keys {s : List Ref} {n : Nat} : (∀ x, x ∈ (gby s n).map (·.1) ↔ ∃ r ∈ s, ∃ j, j < n ∧ x = vpre r.vec (j : Int)) ∧ ((gby s n).map (·.1)).Nodup := by
  suffices H : ∀ k, k ≤ s.length → (∀ x, x ∈ (gby (s.take k) n).map (·.1) ↔ ∃ r ∈ s.take k, ∃ j, j < n ∧ x = vpre r.vec (j : Int)) ∧ ((gby (s.take k) n).map (·.1)).Nodup by simpa using H s.length (Nat.le_refl _)
  intro k
  induction k with
  | zero => intro _; simp [gby]
  | succ k ih =>
    intro hk
    obtain ⟨h1, h2⟩ := ih (by omega)
    rw [List.take_succ_eq_append_getElem (by omega), gby_snoc]
    obtain ⟨h3, h4⟩ := gputs_keys (m := gby (s.take k) n) (r := s[k]) (n := n)
    refine ⟨fun x => ?_, h4 h2⟩
    rw [h3, h1]
    simp only [List.mem_append, List.mem_singleton]
    constructor
    · rintro (⟨j, hj, h⟩ | ⟨r, hr, h⟩)
      · exact ⟨_, .inr rfl, j, hj, h⟩
      · exact ⟨r, .inl hr, h⟩
    · rintro ⟨r, hr | rfl, h⟩
      · exact .inr ⟨r, hr, h⟩
      · exact .inl h
theorem gput_len (m : GB) (w : Vec) (r : Ref) : (gput m w r).length ≤ m.length + 1 := by
  unfold gput aput; split <;> simp
theorem gputs_len (m : GB) (r : Ref) : ∀ n, (gputs m r n).length ≤ m.length + n
  | 0 => by simp [gputs]
  | n + 1 => by rw [gputs_succ]; have := gput_len (gputs m r n) (vpre r.vec (n : Int)) r; have := gputs_len m r n; omega
theorem gby_len (s : List Ref) (n : Nat) : (gby s n).length ≤ s.length * n := by
  suffices H : ∀ k, k ≤ s.length → (gby (s.take k) n).length ≤ k * n by simpa using H s.length (Nat.le_refl _)
  intro k
  induction k with
  | zero => intro _; simp [gby]
  | succ k ih =>
    intro hk
    rw [List.take_succ_eq_append_getElem (by omega), gby_snoc, Nat.succ_mul]
    have := gputs_len (gby (s.take k) n) s[k] n
    have := ih (by omega)
    omega
theorem gby_len' {h : Int} {xs : List Ref} (hg : grOk h xs) : (gby (gsort xs) (h.toNat + 1)).length ≤ 40000 := by
  have h1 := gby_len (gsort xs) (h.toNat + 1)
  have h2 : (gsort xs).length ≤ 1022 := by rw [(gsort_perm xs).length_eq]; exact hg.len
  have h3 := hg.h32
  have h4 : (gsort xs).length * (h.toNat + 1) ≤ 1022 * 33 := Nat.mul_le_mul h2 (by omega)
  omega
/-- All the lists, in order. -/
def glists (h : Int) (xs : List Ref) : List Vec := vall xs (h.toNat + 1)
theorem pre_G {h : Int} {xs : List Ref} (hg : grOk h xs) (hb : ∀ r ∈ xs, 0 ≤ r.vec.bits) : ∀ r ∈ xs, ∀ j : Nat, j < h.toNat + 1 → vecG (vpre r.vec (j : Int)) := fun r hr j hj => by
  have hm := hg.mem r hr
  have h0 := hg.h0
  exact vpre_ok hm.2.2.2.1 (hb r hr) (by omega) (by rw [hm.2.2.2.2]; omega)
theorem glists_eq {h : Int} {xs : List Ref} (hg : grOk h xs) (hb : ∀ r ∈ xs, 0 ≤ r.vec.bits) {l : List Vec} (hp : l.Perm ((gby (gsort xs) (h.toNat + 1)).map (·.1))) (hs : l.Pairwise fun x y => ¬ vcmp y x < 0) : l = glists h xs := by
  obtain ⟨k1, k2⟩ := gby_keys (s := gsort xs) (n := h.toNat + 1)
  obtain ⟨v1, v2⟩ := vall_srt (pre_G hg hb)
  have hmem : ∀ x, x ∈ l ↔ x ∈ glists h xs := fun x => by
    rw [hp.mem_iff, k1]; unfold glists; rw [vall_mem]
    constructor
    · rintro ⟨r, hr, h⟩; exact ⟨r, (gsort_perm xs).mem_iff.1 hr, h⟩
    · rintro ⟨r, hr, h⟩; exact ⟨r, (gsort_perm xs).mem_iff.2 hr, h⟩
  exact vsrt_eq (vsrt_of (fun x hx => v2 x ((hmem x).1 hx)) (hp.nodup_iff.2 k2) hs) v1 hmem
end Go.SL
