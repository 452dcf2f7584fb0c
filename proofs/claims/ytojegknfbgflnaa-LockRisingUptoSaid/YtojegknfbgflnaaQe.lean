/- Who is stuck: what the book tells. Conditions: none. -/
import Derived.Test.YtojegknfbgflnaaQd
set_option linter.unusedSimpArgs false
set_option linter.unusedVariables false
set_option maxRecDepth 100000
set_option maxHeartbeats 2000000
namespace Go.Proofs.Ytojegknfbgflnaa
open Go Go.SL
attribute [local irreducible] pc rc SlT Me Mt It pt ro pur ex sep old Meets

theorem rdyM_eq {xs : List Cl} {g : List (Int × HE)} {wl : List (CK × Bool)} {S : List Owner} {o : Owner} (hg : ∀ p h, h ∈ holders g p ↔ ∃ c ∈ xs, c.held = true ∧ c.place = p ∧ c.o = h) (hw : ∀ x, x ∈ wl.map (·.1) ↔ ∃ c ∈ xs, c.held = false ∧ (c.o, c.place) = x) :
    rdyM g wl S o = rdy xs S o := by
  rw [Bool.eq_iff_iff, rdyM_true, rdy_true]
  constructor
  · intro h c hc e1 e2 d hd e3 e4 e5
    obtain ⟨x, hx1, hx2⟩ := List.mem_map.1 ((hw (c.o, c.place)).2 ⟨c, hc, e2, rfl⟩)
    have h1 : okE g S o x.1 := h x hx1
    rw [hx2] at h1
    rcases h1 e1 d.o ((hg _ _).2 ⟨d, hd, e3, e4, rfl⟩) with h2 | h2
    · exact absurd h2 e5
    · exact h2
  · intro h x hx e1 p hp
    obtain ⟨c, hc, e2, e3⟩ := (hw x.1).1 (List.mem_map.2 ⟨x, hx, rfl⟩)
    obtain ⟨d, hd, e4, e5, e6⟩ := (hg _ _).1 hp
    have f1 : c.o = x.1.1 := congrArg Prod.fst e3
    have f2 : c.place = x.1.2 := congrArg Prod.snd e3
    by_cases e7 : p = o
    · exact .inl e7
    · right
      have h1 : clOk xs S o c := h c hc
      subst e6
      exact h1 (by rw [f1, e1]) e2 d hd e4 (by rw [e5, f2]) e7

theorem dedup_mem : ∀ {l : List Owner} {x : Owner}, x ∈ dedup l ↔ x ∈ l
  | [], x => by simp [dedup]
  | [a], x => by simp [dedup]
  | a :: b :: l, x => by
    have ih := dedup_mem (l := b :: l) (x := x)
    unfold dedup
    split
    · rename_i e; rw [ih, e]; simp
    · rw [List.mem_cons, ih]; simp
theorem dedup_rising : ∀ {l : List Owner}, l.Pairwise (fun x y => ¬ olt y x) → rising (dedup l)
  | [], _ => by simp [dedup, rising]
  | [a], _ => by simp [dedup, rising]
  | a :: b :: l, h => by
    rw [List.pairwise_cons] at h
    have ih := dedup_rising h.2
    unfold dedup
    split
    · exact ih
    · rename_i e
      refine List.pairwise_cons.2 ⟨fun x hx => ?_, ih⟩
      have hx' := dedup_mem.1 hx
      have hb : olt a b := by
        rcases olt_total a b with h1 | h1 | h1
        · exact h1
        · exact absurd h1 e
        · exact absurd h1 (h.1 b (by simp))
      rcases List.mem_cons.1 hx' with rfl | hx'
      · exact hb
      · rcases olt_total b x with h1 | h1 | h1
        · exact olt_trans hb h1
        · rw [← h1]; exact hb
        · exact absurd h1 ((List.pairwise_cons.1 h.2).1 x hx')
theorem dedup_alls {xs : List Cl} {ys : List Owner} (hp : ys.Perm (xs.map (·.o))) (hs : ys.Pairwise (fun x y => ¬ ocmp y x < 0)) : dedup ys = alls xs := by
  refine rising_ext (dedup_rising (hs.imp fun h => by rwa [ocmp_lt] at h)) (alls_rising xs) fun x => ?_
  rw [dedup_mem, hp.mem_iff, alls_mem]; simp

theorem lkStuck_no {a1 : Option Addr} {c1 : Nat} {xs : List Cl} {F : List Assn} [Hs : HS F (.slice a1 xs.length c1) Cl clC 4 c1 xs] (hS : xs.length ≤ 4096) (hb : ¬ ∀ j, j < xs.length → okO (nth xs j).o) :
    Meets Try.prog 35 [.slice a1 xs.length c1] F (Det (.tuple #[.slice none 0 0, i64 70]) F) := by
  refine Meets.intro b35 k35 (by simp) ?_
  focus
    refine J.so ?_
    iterate 2 refine JT.c rfl ?_
    refine JT.done ?_
    refine J.so ?_
  refine JT.mkm (fun n : Int => i64 n) hev (fun hm => ?_)
  refine JT.mkm ckv Value.bool (fun wm => ?_)
  refine JT.mkm ov Value.bool (fun sm => ?_)
  focus
    refine JT.y rfl (Ev.agg (by repeat (first | exact Cells.nil | apply Cells.z | (apply Cells.cl; rfl; rfl; rfl)))) ?_
    refine JT.box rfl (fun b20 => ?_)
    refine JT.c rfl ?_
    refine JT.done ?_
    refine J.seq ?_
    refine J.so ?_
    iterate 3 refine JT.c rfl ?_
    refine JT.done ?_
    refine J.block ?_
  refine J.lp (ι := Nat) (fun k => k ≤ xs.length ∧ ∀ j, j < k → okO (nth xs j).o) (fun k => [(23, i64 (k : Int))])
    (fun _ => pc b20 123 [.map (some hm), .map (some wm), .slice none 0 0, .map (some sm)] :: F) (fun k => xs.length - k) 0 ⟨by omega, fun j hj => by omega⟩ (by (repeat (first | exact subx_nil | apply subx_dup rfl | apply subx_cons rfl))) (by (first | (refine Up.of ?_; (repeat (first | exact Imp.refl _ | (apply Imp.take; (· (repeat (first | exact Has.here | assumption | apply Has.there)))) | fail | apply Imp.dropT | exact Imp.nil _)); done) | (refine Up.frz (by (repeat (first | exact Has.here | assumption | apply Has.there))) ?_; refine Up.of ?_; (repeat (first | exact Imp.refl _ | (apply Imp.take; (· (repeat (first | exact Has.here | assumption | apply Has.there)))) | fail | apply Imp.dropT | exact Imp.nil _)); done))) (fun k hk => ?_)
  obtain ⟨hk, hn⟩ := hk
  focus
    refine J.so ?_
    refine JT.y rfl (Ev.int rfl rfl rfl) ?_
    refine JT.done ?_
    refine J.seq ?_
    refine J.c rfl (fun h1 => ?_) (fun h1 => ?_)
    refine J.skip ?_
    refine seqQ_n ?_
    refine J.seq ?_
    refine J.block ?_
    refine J.so ?_
    refine JT.y rfl (Ev.iC rfl rfl (by omega)) ?_
    refine JT.y rfl (Ev.LE rfl (by omega)) ?_
    refine JT.new (fun b6 => ?_)
    refine JT.w rfl rfl rfl rfl rfl ?_
    refine JT.done ?_
    refine J.so ?_
    refine JT.y rfl (Ev.fa' 0 rfl rfl) ?_
    refine JT.y rfl (Ev.Lp (us := [_, _]) rfl (Nat.le_of_ble_eq_true rfl) rfl) ?_
    refine JT.callD rfl rfl (Up.of (Imp.refl _)) (lkCheck_fn _ _) ?_
    refine JT.c rfl ?_
    refine JT.done ?_
    refine J.so ?_
    refine JT.c rfl ?_
    refine JT.y rfl (Ev.int rfl rfl rfl) ?_
    refine JT.done ?_
    refine J.c rfl (fun h2 => ?_) (fun h2 => ?_)
    refine J.so ?_
    iterate 3 refine JT.c rfl ?_
    refine JT.done ?_
    refine J.ret ?_
    refine blockQ_r ?_
    iterate 2 refine seqQ_r ?_
    refine blockQ_r ?_
    refine seqQ_r ?_
    refine retQD (.t rfl (.t rfl .nil)) ?_ (Up.of (.dropT (.dropT (Imp.refl _))))
    rotate_left
    refine J.skip ?_
    refine blockQ_n ?_
    refine seqQ_n ?_
    refine J.ops ?_
    refine JT.y rfl (Ev.addN rfl rfl (by omega)) ?_
    refine JT.c rfl ?_
    refine JT.done ?_
    refine seqQ_n ?_
    refine ⟨_, ?_, (by omega), (subx_cons rfl (subx_dup rfl (subx_cons rfl (subx_cons rfl (subx_cons rfl (subx_cons rfl (subx_cons rfl (subx_cons rfl (subx_cons rfl (subx_cons rfl (subx_cons rfl (subx_cons rfl (subx_cons rfl subx_nil))))))))))))), (Up.of (.take (.there .here) (.dropT (Imp.refl _))))⟩
    rotate_left
    refine J.exit ?_
    iterate 2 refine seqQ_x ?_
    refine blockQ_hit ?_
    refine seqQ_n ?_
    refine J.seq ?_
    refine J.so ?_
    iterate 2 refine JT.c rfl ?_
    refine JT.y rfl (Ev.cgtF rfl rfl (by omega)) ?_
    refine JT.done ?_
    refine J.condF rfl ?_
    refine J.skip ?_
    refine seqQ_n ?_
    refine J.seq ?_
    refine J.so ?_
    iterate 3 refine JT.c rfl ?_
    refine JT.done ?_
    refine J.block ?_
    rotate_left
  · simp only [mkRet]; rw [ckE, if_neg (by assumption)]
  · exact ⟨by omega, all_lt_succ hn (by assumption)⟩
  · exact absurd (fun j hj => hn j (by omega)) hb

/-- What the book tells of the first claims. -/
def Bk (xs : List Cl) (g : List (Int × HE)) (wl : List (CK × Bool)) : Prop :=
  (∀ p h, h ∈ holders g p ↔ ∃ c ∈ xs, c.held = true ∧ c.place = p ∧ c.o = h) ∧ (∀ x, x ∈ wl.map (·.1) ↔ ∃ c ∈ xs, c.held = false ∧ (c.o, c.place) = x) ∧ ∀ p, (holders g p).length ≤ xs.length
theorem Bk.nil : Bk [] [] [] := ⟨by simp [holders, alk], by simp, by simp [holders, alk]⟩
theorem holders_put (g : List (Int × HE)) (p q : Int) (v : HE) : holders (aput g p v) q = if q = p then v.2.2 else holders g q := by
  unfold holders; rw [alk_put]; by_cases e : q = p <;> simp [e]
theorem Bk.held {xs : List Cl} {g : List (Int × HE)} {wl : List (CK × Bool)} (I : Bk xs g wl) {c : Cl} (hc : c.held = true) {v : HE} (hv : v.2.2 = holders g c.place ++ [c.o]) : Bk (xs ++ [c]) (aput g c.place v) wl := by
  obtain ⟨h1, h2, h3⟩ := I
  refine ⟨fun p h => ?_, fun x => ?_, fun p => ?_⟩
  · rw [holders_put]
    split
    · rename_i e; subst e
      rw [hv, List.mem_append, h1]
      constructor
      · rintro (⟨d, hd, r⟩ | hm)
        · exact ⟨d, by simp [hd], r⟩
        · exact ⟨c, by simp, hc, rfl, (List.mem_singleton.1 hm).symm⟩
      · rintro ⟨d, hd, r1, r2, r3⟩
        rcases List.mem_append.1 hd with hd | hd
        · exact .inl ⟨d, hd, r1, r2, r3⟩
        · simp at hd; subst hd; right; simp [r3]
    · rename_i e
      rw [h1]
      constructor
      · rintro ⟨d, hd, r⟩; exact ⟨d, by simp [hd], r⟩
      · rintro ⟨d, hd, r1, r2, r3⟩
        rcases List.mem_append.1 hd with hd | hd
        · exact ⟨d, hd, r1, r2, r3⟩
        · simp at hd; subst hd; exact absurd r2.symm e
  · rw [h2]
    constructor
    · rintro ⟨d, hd, r⟩; exact ⟨d, by simp [hd], r⟩
    · rintro ⟨d, hd, r1, r2⟩
      rcases List.mem_append.1 hd with hd | hd
      · exact ⟨d, hd, r1, r2⟩
      · simp at hd; subst hd; rw [hc] at r1; cases r1
  · rw [holders_put]
    split
    · rw [hv]; have := h3 c.place; simp; omega
    · have := h3 p; simp; omega
theorem keys_put {wl : List (CK × Bool)} {k x : CK} {b : Bool} : x ∈ (aput wl k b).map (·.1) ↔ x = k ∨ x ∈ wl.map (·.1) := by
  unfold aput
  cases e : aix wl k with
  | none => simp [or_comm]
  | some i =>
    obtain ⟨hlt, hk⟩ := aix_some e
    simp only [List.map_set]
    have : (wl.map (·.1)).set i k = wl.map (·.1) := by
      apply List.ext_getElem (by simp)
      intro j h1 h2
      rw [List.getElem_set]
      split
      · rename_i e; subst e; simp [hk]
      · rfl
    rw [this]
    constructor
    · exact .inr
    · rintro (rfl | h)
      · rw [← hk]; exact List.mem_map.2 ⟨_, List.getElem_mem hlt, rfl⟩
      · exact h
theorem Bk.waits {xs : List Cl} {g : List (Int × HE)} {wl : List (CK × Bool)} (I : Bk xs g wl) {c : Cl} (hc : c.held = false) (b : Bool) : Bk (xs ++ [c]) g (aput wl (c.o, c.place) b) := by
  obtain ⟨h1, h2, h3⟩ := I
  refine ⟨fun p h => ?_, fun x => ?_, fun p => ?_⟩
  · rw [h1]
    constructor
    · rintro ⟨d, hd, r⟩; exact ⟨d, by simp [hd], r⟩
    · rintro ⟨d, hd, r1, r2⟩
      rcases List.mem_append.1 hd with hd | hd
      · exact ⟨d, hd, r1, r2⟩
      · simp at hd; subst hd; rw [hc] at r1; cases r1
  · rw [keys_put, h2]
    constructor
    · rintro (rfl | ⟨d, hd, r⟩)
      · exact ⟨c, by simp, hc, rfl⟩
      · exact ⟨d, by simp [hd], r⟩
    · rintro ⟨d, hd, r1, r2⟩
      rcases List.mem_append.1 hd with hd | hd
      · exact .inr ⟨d, hd, r1, r2⟩
      · simp at hd; subst hd; exact .inl r2.symm
  · have := h3 p; simp; omega
theorem mapS_put {S : List Owner} {o : Owner} (h : o ∉ S) : aput (S.map fun x => (x, true)) o true = (S ++ [o]).map fun x => (x, true) := by
  have e : aix (S.map fun x => (x, true)) o = none := by
    unfold aix
    rw [List.findIdx?_eq_none_iff]
    intro x hx
    simp only [List.map_map, List.mem_map, Function.comp_apply] at hx
    obtain ⟨y, hy, rfl⟩ := hx
    simp; rintro rfl; exact h hy
  unfold aput; rw [e]; simp
theorem HsA.aput_in {g : List (Int × HE)} {p : Int} {v : HE} (h : alk g p = some v) : ∃ i : Nat, g[i]? = some (p, v) ∧ ∀ (v' : HE) r, Imp (sO v' :: HsA (g.eraseIdx i) :: r) (HsA (aput g p v') :: r) := by
  have h0 := h
  rw [alk_aix] at h
  cases e : aix g p with
  | none => rw [e] at h; simp at h
  | some i =>
    obtain ⟨hlt, hk⟩ := aix_some e
    rw [e] at h
    simp only [Option.bind_some, List.getElem?_eq_getElem hlt, Option.map_some, Option.some.injEq] at h
    have hg : g[i]? = some (p, v) := by rw [List.getElem?_eq_getElem hlt, ← hk, ← h]
    refine ⟨i, hg, fun v' r => ?_⟩
    unfold aput; rw [e]
    exact HsA.put hg
theorem HsA.aput_no {g : List (Int × HE)} {p : Int} {v : HE} (h : alk g p = none) {r : List Assn} : Imp (sO v :: HsA g :: r) (HsA (aput g p v) :: r) := by
  have e : aix g p = none := by
    cases e : aix g p with
    | none => rfl
    | some i =>
      obtain ⟨hlt, hk⟩ := aix_some e
      rw [alk_aix, e] at h; simp [List.getElem?_eq_getElem hlt] at h
  unfold aput; rw [e]; exact HsA.snoc
end Go.Proofs.Ytojegknfbgflnaa
