/- Layer 11: the law GraphParted: what its function does. Conditions: none. -/
import Derived.Test.YtgcmglieciaifaaGp
set_option linter.unusedSimpArgs false
set_option linter.unusedVariables false
set_option maxRecDepth 100000
set_option maxHeartbeats 4000000
namespace Go.SL
open Go
/-- A vector, and one bit more. -/
def vsub (w : Vec) (b : Nat) : Vec := ⟨w.len + 1, w.bits * 2 + (b : Int)⟩
theorem vsub_nat {w : Vec} (hw : vecG w) (b : Nat) : (vsub w b).n = w.n + 1 ∧ (vsub w b).b = w.b * 2 + b := by
  have h1 := hw.len.1
  have h2 := hw.bits
  unfold vsub Vec.n Vec.b at *
  constructor
  · show (w.len + 1).toNat = _; omega
  · show (w.bits * 2 + (b : Int)).toNat = _; omega
theorem vsub_G {w : Vec} (hw : vecG w) (h : w.n < 32) {b : Nat} (hb : b ≤ 1) : vecG (vsub w b) := by
  have h1 := hw.len.1
  have h2 := hw.bits
  have h3 := hw.lt
  have h4 := vsub_nat hw b
  have hb0 : 0 ≤ (vsub w b).bits := by unfold vsub; show 0 ≤ w.bits * 2 + (b : Int); omega
  refine ⟨⟨?_, ?_, ?_⟩, hb0⟩
  · show 0 ≤ w.len + 1; omega
  · show w.len + 1 ≤ 32; omega
  · show w.bits * 2 + (b : Int) ≤ 2 ^ (w.len + 1).toNat - 1
    have e : (w.len + 1).toNat = w.n + 1 := h4.1
    rw [e]
    have e2 : ((2 : Int) ^ (w.n + 1)) = ((2 ^ (w.n + 1) : Nat) : Int) := by simp
    rw [e2, Nat.pow_succ]; omega
theorem parted {v w : Vec} (hv : vecG v) (hw : vecG w) (hl : w.n < v.n) : (vbegins v w ↔ vbegins v (vsub w 0) ∨ vbegins v (vsub w 1)) ∧ ¬ (vbegins v (vsub w 0) ∧ vbegins v (vsub w 1)) := by
  have hv1 := hv.len
  have hw1 := hw.len
  have g0 := vsub_G hw (by omega) (b := 0) (by omega)
  have g1 := vsub_G hw (by omega) (b := 1) (by omega)
  have n0 := vsub_nat hw 0
  have n1 := vsub_nat hw 1
  have hp := vpre_nat hv (n := w.n) (by omega)
  have hq := vpre_nat hv (n := w.n + 1) (by omega)
  have hdiv : v.b / 2 ^ (v.n - w.n) = v.b / 2 ^ (v.n - (w.n + 1)) / 2 := by
    rw [show v.n - w.n = (v.n - (w.n + 1)) + 1 by omega, Nat.pow_succ, Nat.div_div_eq_div_mul]
  have key : ∀ (u : Vec) (k : Nat), vecG u → u.n = k → k ≤ v.n → (vbegins v u ↔ v.b / 2 ^ (v.n - k) = u.b) := by
    intro u k hu hk hkl
    have hu1 := hu.len
    have hpk := vpre_nat hv (n := k) hkl
    have hG := vpre_G hv (n := k) hkl
    constructor
    · rintro ⟨_, _, _, e⟩
      rw [hu1.1, hk, hpk] at e
      rw [← e]; show _ = (((v.b / 2 ^ (v.n - k) : Nat) : Int)).toNat; rw [Int.toNat_natCast]
    · intro e
      refine ⟨hv.1, hu.1, by omega, ?_⟩
      rw [hu1.1, hk]
      refine vec_ext hG hu ?_ ?_
      · rw [vpre_n]; exact hk.symm
      · rw [hpk]; show (((v.b / 2 ^ (v.n - k) : Nat) : Int)).toNat = u.b; rw [Int.toNat_natCast]; exact e
  rw [key w w.n hw rfl (by omega), key (vsub w 0) (w.n + 1) g0 n0.1 (by omega), key (vsub w 1) (w.n + 1) g1 n1.1 (by omega), n0.2, n1.2, hdiv]
  generalize v.b / 2 ^ (v.n - (w.n + 1)) = q
  constructor
  · constructor
    · intro e; omega
    · rintro (e | e) <;> omega
  · rintro ⟨e1, e2⟩; omega
theorem nth_filter {α : Type} [Inhabited α] {l : List α} {p : α → Bool} {n : Nat} (hn : n < l.length) (hp : p (nth l n) = true) :
    ((l.take n).filter p).length < (l.filter p).length ∧ nth (l.filter p) ((l.take n).filter p).length = nth l n := by
  have e : l.filter p = (l.take n).filter p ++ nth l n :: (l.drop (n + 1)).filter p := by
    conv => lhs; rw [← List.take_append_drop n l]
    rw [List.filter_append, List.drop_eq_getElem_cons hn, List.filter_cons, ← nth_eq hn, if_pos hp]
  rw [e]
  refine ⟨by simp, ?_⟩
  rw [nth_eq (by simp), List.getElem_append_right (Nat.le_refl _)]; simp
theorem filter_succ {α : Type} [Inhabited α] {l : List α} {p : α → Bool} {n : Nat} (hn : n < l.length) : ((l.take (n + 1)).filter p).length = ((l.take n).filter p).length + (if p (nth l n) then 1 else 0) := by
  rw [List.take_succ_eq_append_getElem hn, List.filter_append, List.length_append, ← nth_eq hn]
  by_cases hp : p (nth l n) = true
  · simp [hp]
  · simp [hp]
theorem nth_mem_filter {α : Type} [Inhabited α] {l : List α} {p : α → Bool} {i : Nat} (h : i < (l.filter p).length) : p (nth (l.filter p) i) = true := by
  rw [nth_eq h]; exact (List.mem_filter.1 (List.getElem_mem h)).2
section
variable {h : Int} {xs : List Ref}
theorem gmem_sub (hg : grOk h xs) (hb : ∀ r ∈ xs, 0 ≤ r.vec.bits) {w : Vec} (hw : vecG w) (hl : w.len < h) {b : Nat} (hb1 : b ≤ 1) : gmem xs (vsub w b) = (gmem xs w).filter fun r => decide (vbegins r.vec (vsub w b)) := by
  unfold gmem
  rw [List.filter_filter]
  refine List.filter_congr fun r hr => ?_
  have hm := hg.mem r ((gsort_perm xs).mem_iff.1 hr)
  have hv : vecG r.vec := ⟨hm.2.2.2.1, hb r ((gsort_perm xs).mem_iff.1 hr)⟩
  have h1 := hv.len; have h2 := hw.len; have h3 := hm.2.2.2.2
  have hp := (parted hv hw (by omega)).1
  by_cases hx : vbegins r.vec (vsub w b)
  · have : vbegins r.vec w := hp.2 (by rcases Nat.le_one_iff_eq_zero_or_eq_one.1 hb1 with rfl | rfl <;> simp [hx])
    simp [hx, this]
  · simp [hx]
theorem gmem_part (hg : grOk h xs) (hb : ∀ r ∈ xs, 0 ≤ r.vec.bits) {w : Vec} (hw : vecG w) (hl : w.len < h) {r : Ref} (hr : r ∈ gmem xs w) : (vbegins r.vec (vsub w 0) ∨ vbegins r.vec (vsub w 1)) ∧ ¬ (vbegins r.vec (vsub w 0) ∧ vbegins r.vec (vsub w 1)) := by
  obtain ⟨h1, h2⟩ := List.mem_filter.1 hr
  have hm := hg.mem r ((gsort_perm xs).mem_iff.1 h1)
  have hv : vecG r.vec := ⟨hm.2.2.2.1, hb r ((gsort_perm xs).mem_iff.1 h1)⟩
  have q1 := hv.len; have q2 := hw.len; have q3 := hm.2.2.2.2
  have hp := parted hv hw (by omega)
  exact ⟨hp.1.1 (by simpa using h2), hp.2⟩
theorem gmem_lens (hg : grOk h xs) (hb : ∀ r ∈ xs, 0 ≤ r.vec.bits) {w : Vec} (hw : vecG w) (hl : w.len < h) : (gmem xs w).length = (gmem xs (vsub w 0)).length + (gmem xs (vsub w 1)).length := by
  rw [gmem_sub hg hb hw hl (b := 0) (by omega), gmem_sub hg hb hw hl (b := 1) (by omega)]
  have hall := fun r hr => gmem_part hg hb hw hl (r := r) hr
  generalize gmem xs w = L at *
  induction L with
  | nil => rfl
  | cons x l ih =>
    have ih := ih (fun r hr => hall r (by simp [hr]))
    obtain ⟨h1, h2⟩ := hall x (by simp)
    rw [List.filter_cons, List.filter_cons]
    by_cases ha : vbegins x.vec (vsub w 0)
    · have hb' : ¬ vbegins x.vec (vsub w 1) := fun h => h2 ⟨ha, h⟩
      simp [ha, hb']; omega
    · have hb' : vbegins x.vec (vsub w 1) := h1.resolve_left ha
      simp [ha, hb']; omega
theorem gmem_srt (hg : grOk h xs) (w : Vec) {n : Nat} (h0 : 0 < n) (hn : n < (gmem xs w).length) : keyLt (nth (gmem xs w) (n - 1)).key (nth (gmem xs w) n).key := by
  have hs : gsrt (gmem xs w) := (gsort_srt hg.keys).sublist List.filter_sublist
  have := List.pairwise_iff_getElem.1 hs (n - 1) n (by omega) hn (by omega)
  rw [nth_eq (by omega), nth_eq hn]; exact this
end
end Go.SL
namespace Go.Proofs.Ytgcmglieciaifaa
open Go Go.SL
attribute [local irreducible] pc rc SlT Me Mt It pt ro pur ex sep old Meets
instance : TE 30 Vec vecC 2 := ⟨by intro o; simp [vecC, isOne], by decide⟩
theorem r1Join_fn (w : Vec) (b : Nat) {a : Option Addr} {c : Nat} {F : List Assn} [Hs : HS F (.slice a [w, ⟨1, (b : Int)⟩].length c) Vec vecC 2 c [w, ⟨1, (b : Int)⟩]] (hw : vecG w) (hl : w.n < 32) (hb : b ≤ 1) :
    Meets Try.prog 17 [.slice a [w, ⟨1, (b : Int)⟩].length c] F (Det (.tuple #[vv (vsub w b), i64 0]) F) := by
  refine Meets.intro b17 k17 (by simp) ?_
  refine J.sl Hs (fun hC hL _ => ?_)
  have hg1 : vecG ⟨1, (b : Int)⟩ := ⟨⟨by show (0 : Int) ≤ 1; decide, by show (1 : Int) ≤ 32; decide, by show (b : Int) ≤ 2 ^ (1 : Int).toNat - 1; simp; omega⟩, by show (0 : Int) ≤ b; omega⟩
  have hb1 : vbits ⟨1, (b : Int)⟩ = [b] := by
    have h1 : (⟨1, (b : Int)⟩ : Vec).n = 1 := rfl
    have h2 : (⟨1, (b : Int)⟩ : Vec).b = b := by simp [Vec.b]
    unfold vbits; rw [h1, h2]; rcases Nat.le_one_iff_eq_zero_or_eq_one.1 hb with rfl | rfl <;> rfl
  have e0 : nth [w, (⟨1, (b : Int)⟩ : Vec)] 0 = w := rfl
  have e1 : nth [w, (⟨1, (b : Int)⟩ : Vec)] 1 = ⟨1, (b : Int)⟩ := rfl
  have hlen : [w, (⟨1, (b : Int)⟩ : Vec)].length = 2 := rfl
  generalize hL2 : [w, (⟨1, (b : Int)⟩ : Vec)] = L at *
  have G0 : vecG (nth L 0) := by rw [e0]; exact hw
  have G1 : vecG (nth L 1) := by rw [e1]; exact hg1
  have ok0 := G0.1
  have ok1 := G1.1
  have hvl : (vbits (nth L 0)).length < 32 := by rw [e0, vbits_len]; exact hl
  have hvl1 : vbits (nth L 1) = [b] := by rw [e1]; exact hb1
  have hvl2 : (vbits (nth L 1)).length = 1 := by rw [hvl1]; rfl
  have hB0 := fun F => r1Bits_fn (nth L 0) F G0
  have hB1 := fun F => r1Bits_fn (nth L 1) F G1
  have hO := fun {a : Option Addr} {c : Nat} {F : List Assn} [HS F (.slice a (nI (vbits (nth L 0) ++ vbits (nth L 1))).length c) Int intE 1 c (nI (vbits (nth L 0) ++ vbits (nth L 1)))] => r1Of_fn (a := a) (c := c) (xs := vbits (nth L 0) ++ vbits (nth L 1)) (F := F) (fun x hx => by
    rcases List.mem_append.1 hx with hx | hx
    · rcases bits_bin _ _ x hx with h | h <;> omega
    · rcases bits_bin _ _ x hx with h | h <;> omega) (by rw [List.length_append]; omega)
  have hres : (⟨((vbits (nth L 0) ++ vbits (nth L 1)).length : Int), ((ofBits (vbits (nth L 0) ++ vbits (nth L 1)) : Nat) : Int)⟩ : Vec) = vsub w b := by
    rw [hvl1, ofBits_snoc, e0]
    have q1 : ofBits (vbits w) = w.b := ofBits_bits _ _ hw.lt
    have q2 := hw.bits
    have q3 := hw.len.1
    have q4 := vbits_len w
    unfold vsub
    rw [q1]
    simp only [Vec.mk.injEq, List.length_append, List.length_singleton]
    omega
  rw [hres] at hO
  focus
   refine zs <| yN fun b2 => zc rfl <| zc rfl <| zc rfl <| zd <| zq <| zb ?_
  refine J.lp (ι := Nat) (fun k => k ≤ 2) (fun k => [(5, i64 (k : Int))]) (fun _ => pc b2 30 (vecC zV) :: F) (fun k => 2 - k) 0 (by omega) (by exact subxR rfl) (.of (.t0 .rf)) (fun k hk => ?_)
  have hk' : k = 0 ∨ k = 1 ∨ k = 2 := by omega
  rcases hk' with rfl | rfl | rfl
  · focus
     refine zs <| zc rfl <| zy (.cltT rfl rfl (by omega)) <| zd <| zq <| zt rfl <| zk <| zq <| zb <| zs <| zy (.iC rfl rfl (by omega)) <| zy (.LE rfl (by omega)) ?_
     refine yD rfl rfl (.of .rf) (r1Right_fn _ _) <| zc rfl <| zd <| zi rfl (fun h1 => ?_) (fun h1 => ?_)
     contradiction
     refine zk <| zo <| zy (.addN rfl rfl (by omega)) <| zd <| ⟨_, ?_, (by omega), (subxR rfl), (.of (.t0 .rf))⟩
     omega
  · focus
     refine zs <| zc rfl <| zy (.cltT rfl rfl (by omega)) <| zd <| zq <| zt rfl <| zk <| zq <| zb <| zs <| zy (.iC rfl rfl (by omega)) <| zy (.LE rfl (by omega)) ?_
     refine yD rfl rfl (.of .rf) (r1Right_fn _ _) <| zc rfl <| zd <| zi rfl (fun h1 => ?_) (fun h1 => ?_)
     contradiction
     refine zk <| zo <| zy (.addN rfl rfl (by omega)) <| zd <| ⟨_, ?_, (by omega), (subxR rfl), (.of (.t0 .rf))⟩
     omega
  · focus
     refine zs <| zc rfl <| zy (.cltF rfl rfl (by omega)) <| zd <| zq <| zu rfl <| zx <| zs <| zc rfl <| zd <| zq <| zb ?_
    refine J.lp (ι := Nat × Option Addr × Nat × List Int) (fun i => i.1 ≤ 2 ∧ i.2.2.2 = nI (if i.1 = 0 then [] else if i.1 = 1 then vbits (nth L 0) else vbits (nth L 0) ++ vbits (nth L 1))) (fun i => [(4, .slice i.2.1 i.2.2.2.length i.2.2.1), (6, i64 (i.1 : Int))]) (fun i => SlT true intE 1 (.slice i.2.1 i.2.2.2.length i.2.2.1) i.2.2.1 i.2.2.2 :: pc b2 30 (vecC zV) :: F) (fun i => 2 - i.1) (0, none, 0, []) ⟨by simp, by simp⟩ (by exact subxR rfl) (Up.nilS (enc := intE) (sz := 1) true (by decide) (.of (.t0 (.t0 .rf)))) (fun i hi => ?_)
    obtain ⟨k, oa, oc, out⟩ := i
    obtain ⟨hk, ho⟩ := hi
    dsimp only at hk ho ⊢
    have hk' : k = 0 ∨ k = 1 ∨ k = 2 := by omega
    rcases hk' with rfl | rfl | rfl
    · simp only [if_true] at ho
      subst ho
      have hn0 : (nI ([] : List Nat) ++ List.map (fun b : Nat => (b : Int)) (vbits (nth L 0))).length < 32 := by simpa using hvl
      focus
       refine zs <| zc rfl <| zy (.cltT rfl rfl (by omega)) <| zd <| zq <| zt rfl <| zk <| zq <| zb <| zs <| zy (.iC rfl rfl (by omega)) <| zy (.LE rfl (by omega)) ?_
       refine yE rfl rfl (.of .rf) (hB0 _) fun ⟨a31, c31⟩ _ => ?_
       (refine JT.A3 rfl rfl rfl (by decide) (by simp; omega) (fun a4 c4 hc4 => ?_))
       refine zc rfl <| zy (.cgtF rfl rfl (by omega)) <| zd <| zu rfl <| zk <| zo <| zy (.addN rfl rfl (by omega)) <| zd <| ⟨⟨_, ⟨_, ⟨_, _⟩⟩⟩, ?_, (by omega), (subxR rfl), (.of (.t0 (.t1 (.d .rf))))⟩
      exact ⟨by dsimp only; omega, by simp [nI]⟩
    · simp only [Nat.one_ne_zero, if_false, if_true] at ho
      subst ho
      have hn1 : (nI (vbits (nth L 0)) ++ List.map (fun b : Nat => (b : Int)) (vbits (nth L 1))).length ≤ 32 := by simp; omega
      focus
       refine zs <| zc rfl <| zy (.cltT rfl rfl (by omega)) <| zd <| zq <| zt rfl <| zk <| zq <| zb <| zs <| zy (.iC rfl rfl (by omega)) <| zy (.LE rfl (by omega)) ?_
       refine yE rfl rfl (.of .rf) (hB1 _) fun ⟨a31, c31⟩ _ => ?_
       (refine JT.A3 rfl rfl rfl (by decide) (by simp; omega) (fun a4 c4 hc4 => ?_))
       refine zc rfl <| zy (.cgtF rfl rfl (by omega)) <| zd <| zu rfl <| zk <| zo <| zy (.addN rfl rfl (by omega)) <| zd <| ⟨⟨_, ⟨_, ⟨_, _⟩⟩⟩, ?_, (by omega), (subxR rfl), (.of (.t0 (.t1 (.d .rf))))⟩
      exact ⟨by dsimp only; omega, by simp [nI]⟩
    · simp only [Nat.succ_ne_zero, Nat.reduceEqDiff, if_false] at ho
      subst ho
      focus
       refine zs <| zc rfl <| zy (.cltF rfl rfl (by omega)) <| zd <| zq <| zu rfl <| zx <| zs <| yD rfl rfl (.of .rf) hO <| yW rfl rfl rfl rfl rfl <| zc rfl <| zd ?_
       refine zr <| yR (.w rfl rfl (.t rfl .nil)) rfl (.of (.d (.d .rf)))
theorem GraphParted_fn (h : Int) (w : Vec) {a1 : Option Addr} {c1 : Nat} {xs : List SL.Ref} (hw : 0 ≤ w.bits) (hx : ∀ r ∈ xs, 0 ≤ r.vec.bits) (F : List Assn) :
    Meets Try.prog 4 [i64 h, vv w, .slice a1 xs.length c1] (SlT false refC 5 (.slice a1 xs.length c1) c1 xs :: F) (Det (.bool true) (SlT false refC 5 (.slice a1 xs.length c1) c1 xs :: F)) := by
  refine Meets.intro b4 k4 (by simp) ?_
  have hf := few_pos hx
  generalize hys : xs.take 12 = ys at hf
  have hfw := fun F => l11few_fn (a := a1) (c := c1) (xs := xs) F
  rw [hys] at hfw
  have hc := fun {a : Option Addr} {c : Nat} {F : List Assn} [HS F (.slice a ys.length c) SL.Ref refC 5 c ys] => r11Check_fn h (a1 := a) (c1 := c) (xs := ys) (F := F)
  unfold gE at hc
  by_cases hg : grOk h ys
  · simp only [if_pos hg] at hc
    by_cases hv : vecOk w
    · by_cases hl : w.len < h
      · have hwG : vecG w := ⟨hv, hw⟩
        have hwl := hwG.len
        have h32 := hg.h32
        have g0 := vsub_G hwG (by omega) (b := 0) (by omega)
        have g1 := vsub_G hwG (by omega) (b := 1) (by omega)
        have hJ0 := fun {a : Option Addr} {c : Nat} {F : List Assn} [HS F (.slice a [w, ⟨1, 0⟩].length c) Vec vecC 2 c [w, ⟨1, 0⟩]] => r1Join_fn w 0 (a := a) (c := c) (F := F) hwG (by omega) (by omega)
        have hJ1 := fun {a : Option Addr} {c : Nat} {F : List Assn} [HS F (.slice a [w, ⟨1, 1⟩].length c) Vec vecC 2 c [w, ⟨1, 1⟩]] => r1Join_fn w 1 (a := a) (c := c) (F := F) hwG (by omega) (by omega)
        have hMa := fun {a : Option Addr} {c : Nat} {F : List Assn} [HS F (.slice a ys.length c) SL.Ref refC 5 c ys] => gMembers_ok h w (a1 := a) (c1 := c) (xs := ys) (F := F) hg hf ⟨hv, by omega⟩
        have hMb := fun {a : Option Addr} {c : Nat} {F : List Assn} [HS F (.slice a ys.length c) SL.Ref refC 5 c ys] => gMembers_ok h (vsub w 0) (a1 := a) (c1 := c) (xs := ys) (F := F) hg hf ⟨g0.1, by show w.len + 1 ≤ h; omega⟩
        have hMc := fun {a : Option Addr} {c : Nat} {F : List Assn} [HS F (.slice a ys.length c) SL.Ref refC 5 c ys] => gMembers_ok h (vsub w 1) (a1 := a) (c1 := c) (xs := ys) (F := F) hg hf ⟨g1.1, by show w.len + 1 ≤ h; omega⟩
        have hlens := gmem_lens hg hf hwG hl
        have hpart := fun r hr => gmem_part hg hf hwG hl (r := r) hr
        have hsub0 := gmem_sub hg hf hwG hl (b := 0) (by omega)
        have hsub1 := gmem_sub hg hf hwG hl (b := 1) (by omega)
        have hsrt := fun n => gmem_srt hg w (n := n)
        have hle := gmem_le hg w
        have hpx := fun x (hx : x ∈ gmem ys w) => hpart x hx
        generalize gmem ys (vsub w 0) = B at *
        generalize gmem ys (vsub w 1) = C at *
        generalize gmem ys w = L at *
        focus
         refine zs <| yB rfl fun b4 => zc rfl <| yE rfl rfl (.of (.t1 .rf)) (hfw _) fun ⟨a2, c2⟩ _ => yD rfl rfl (.of .rf) hc <| zy (.cneF rfl rfl (by decide)) <| yG rfl <| zw rfl rfl <| yG rfl <| yD rfl rfl (.of .rf) (r1Right_fn _ _) <| yG rfl <| zc rfl ?_
         refine zy (.pickF rfl rfl) <| yF rfl (by assumption) <| zf 0 rfl rfl <| yF rfl (by assumption) <| zl rfl rfl <| yF rfl (by assumption) <| zy (.cgeF rfl rfl (by omega)) <| zy (.pickFp rfl (by assumption) rfl) <| zd <| zq <| zu rfl <| zk ?_
         refine zs <| zw rfl rfl <| zg rfl <| JT.bT [⟨_, _⟩, ⟨_, _⟩] (by repeat (first | exact Cells.nil | apply Cells.z | (apply Cells.cl; rfl; rfl; rfl))) rfl (by decide) fun a41 => ?_
         refine yD rfl rfl (.of .rf) hJ0 <| zc rfl <| zc rfl <| yN fun b7 => yW rfl rfl rfl rfl rfl <| zw rfl rfl <| zg rfl <| JT.bT [⟨_, _⟩, ⟨_, _⟩] (by repeat (first | exact Cells.nil | apply Cells.z | (apply Cells.cl; rfl; rfl; rfl))) rfl (by decide) fun a48 => ?_
         refine yD rfl rfl (.of .rf) hJ1 <| zc rfl <| zc rfl <| yN fun b9 => yW rfl rfl rfl rfl rfl <| zw rfl rfl <| yE rfl rfl (.of .rf) hMa fun ⟨a56, c56⟩ _ => zc rfl <| zc rfl <| zc rfl <| zw rfl rfl <| yE rfl rfl (.of .rf) hMb fun ⟨a63, c63⟩ _ => ?_
         refine zc rfl <| zc rfl <| zc rfl <| zw rfl rfl <| yE rfl rfl (.of .rf) hMc fun ⟨a70, c70⟩ _ => zc rfl <| zc rfl <| zc rfl <| zy (.cneF rfl rfl (by decide)) <| yG rfl <| zy (.cneF rfl rfl (by decide)) <| zy (.pickF rfl rfl) ?_
         refine yG rfl <| zy (.cneF rfl rfl (by decide)) <| zy (.pickF rfl rfl) <| yG rfl <| zc rfl <| yG rfl <| zc rfl <| yG rfl <| zc rfl <| yG rfl <| zy (.addN rfl rfl (by omega)) <| yG rfl ?_
         refine zy (.cneF rfl rfl (by omega)) <| zy (.pickF rfl rfl) <| zd <| zq <| zu rfl <| zk <| zs <| zc rfl <| zc rfl <| zc rfl <| zd <| zq ?_
         refine zb ?_
        refine J.lp (ι := Nat × Nat × Nat) (fun i => i.2.2 ≤ L.length ∧ i.1 = ((L.take i.2.2).filter fun r => decide (vbegins r.vec (vsub w 0))).length ∧ i.2.1 = ((L.take i.2.2).filter fun r => decide (vbegins r.vec (vsub w 1))).length) (fun i => [(17, i64 (i.1 : Int)), (18, i64 (i.2.1 : Int)), (19, i64 (i.2.2 : Int))])
          (fun _ => SlT true refC 5 (.slice a70 C.length c70) c70 C :: SlT true refC 5 (.slice a63 B.length c63) c63 B :: SlT true refC 5 (.slice a56 L.length c56) c56 L :: SlT false refC 5 (.slice a1 xs.length c1) c1 xs :: F) (fun i => L.length - i.2.2) (0, 0, 0) ⟨by simp, by simp, by simp⟩ (by exact subxR rfl) (.of (.t0 (.t0 (.t0 (.t5 (.d (.d (.d (.d (.d (.d .rf))))))))))) (fun i hi => ?_)
        obtain ⟨i, k, n⟩ := i
        obtain ⟨hn, hi, hk⟩ := hi
        dsimp only at hn hi hk ⊢
        by_cases hnl : n < L.length
        · obtain ⟨p1, p2⟩ := hpx (nth L n) (by rw [nth_eq hnl]; exact List.getElem_mem hnl)
          have hs0 := filter_succ (p := fun r : SL.Ref => decide (vbegins r.vec (vsub w 0))) hnl
          have hs1 := filter_succ (p := fun r : SL.Ref => decide (vbegins r.vec (vsub w 1))) hnl
          have hsn := hsrt n
          by_cases hv0 : vbegins (nth L n).vec (vsub w 0)
          · have hv1 : ¬ vbegins (nth L n).vec (vsub w 1) := fun h => p2 ⟨hv0, h⟩
            obtain ⟨f1, f2⟩ := nth_filter (p := fun r : SL.Ref => decide (vbegins r.vec (vsub w 0))) hnl (by simp [hv0])
            rw [← hi, ← hsub0] at f1 f2
            simp only [hv0, hv1, decide_true, decide_false, if_true, Bool.false_eq_true, if_false] at hs0 hs1
            by_cases hn0 : n = 0
            · focus
               refine zs <| zc rfl <| zy (.cltT rfl rfl (by omega)) <| zd <| zq <| zt rfl <| zk <| zq <| zb <| zq <| zb <| zs ?_
               refine zc rfl <| zy (.cltT rfl rfl (by omega)) <| yG rfl <| zy (.iC rfl rfl (by omega)) <| yG rfl <| zy (.LE rfl (by omega)) <| yG rfl <| zy (.iC rfl rfl (by omega)) <| yG rfl <| zy (.LE rfl (by omega)) <| yG rfl ?_
               refine zy (.eqTt rfl rfl (by assumption)) <| zy (.pickT rfl rfl) <| zd <| zt rfl <| zo <| zy (.addN rfl rfl (by omega)) <| zd <| zs <| zy (.cgtF rfl rfl (by omega)) <| zv rfl rfl <| zv rfl rfl <| zv rfl rfl ?_
               refine zv rfl rfl <| zv rfl rfl <| zv rfl rfl <| zv rfl rfl <| zv rfl rfl <| zv rfl rfl <| zy (.pickF rfl rfl) <| zd <| zu rfl <| zk <| zo <| zy (.addN rfl rfl (by omega)) ?_
               refine zd <| ⟨⟨_, ⟨_, _⟩⟩, ?_, (by simp only; omega), (subxR rfl), (.of (.t0 (.t0 (.t0 (.t0 .rf)))))⟩
              exact ⟨by dsimp only; omega, by dsimp only; omega, by dsimp only; omega⟩
            · have hsn' := hsn (by omega) hnl
              focus
               refine zs <| zc rfl <| zy (.cltT rfl rfl (by omega)) <| zd <| zq <| zt rfl <| zk <| zq <| zb <| zq <| zb <| zs ?_
               refine zc rfl <| zy (.cltT rfl rfl (by omega)) <| yG rfl <| zy (.iC rfl rfl (by omega)) <| yG rfl <| zy (.LE rfl (by omega)) <| yG rfl <| zy (.iC rfl rfl (by omega)) <| yG rfl <| zy (.LE rfl (by omega)) <| yG rfl ?_
               refine zy (.eqTt rfl rfl (by assumption)) <| zy (.pickT rfl rfl) <| zd <| zt rfl <| zo <| zy (.addN rfl rfl (by omega)) <| zd <| zs <| zy (.cgtT rfl rfl (by omega)) <| yG rfl <| zy (.subN rfl rfl (by omega) (by omega)) <| yG rfl ?_
               refine zy (.iC rfl rfl (by omega)) <| yG rfl <| zy (.fe rfl) <| yG rfl <| zy (.LEf rfl (by omega) (by decide)) <| yG rfl <| zy (.iC rfl rfl (by omega)) <| yG rfl <| zy (.fe rfl) <| yG rfl <| zy (.LEf rfl (by omega) (by decide)) <| yG rfl ?_
               refine yD rfl rfl (.of .rf) (r9Less_fn _ _ _) <| yG rfl <| zc rfl <| zy (.pickT rfl rfl) <| zd <| zi rfl (fun h1 => ?_) (fun h1 => ?_)
               contradiction
               refine zk <| zo <| zy (.addN rfl rfl (by omega)) <| zd <| ⟨⟨_, ⟨_, _⟩⟩, ?_, (by simp only; omega), (subxR rfl), (.of (.t0 (.t0 (.t0 (.t0 .rf)))))⟩
              exact ⟨by dsimp only; omega, by dsimp only; omega, by dsimp only; omega⟩
          · have hv1 : vbegins (nth L n).vec (vsub w 1) := p1.resolve_left hv0
            obtain ⟨f1, f2⟩ := nth_filter (p := fun r : SL.Ref => decide (vbegins r.vec (vsub w 1))) hnl (by simp [hv1])
            rw [← hk, ← hsub1] at f1 f2
            simp only [hv0, hv1, decide_true, decide_false, if_true, Bool.false_eq_true, if_false] at hs0 hs1
            have hne : i < B.length → nth B i ≠ nth L n := fun hlt e => by
              rw [hsub0] at hlt e
              have := nth_mem_filter hlt
              rw [e] at this; simp [hv0] at this
            by_cases hib : i < B.length
            · have hne' := hne hib
              by_cases hn0 : n = 0
              · focus
                 refine zs <| zc rfl <| zy (.cltT rfl rfl (by omega)) <| zd <| zq <| zt rfl <| zk <| zq <| zb <| zq <| zb <| zs ?_
                 refine zc rfl <| zy (.cltT rfl rfl (by omega)) <| yG rfl <| zy (.iC rfl rfl (by omega)) <| yG rfl <| zy (.LE rfl (by omega)) <| yG rfl <| zy (.iC rfl rfl (by omega)) <| yG rfl <| zy (.LE rfl (by omega)) <| yG rfl ?_
                 refine zy (.eqTf rfl rfl (by assumption)) <| zy (.pickT rfl rfl) <| zd <| zu rfl <| zs <| zc rfl <| zy (.cltT rfl rfl (by omega)) <| yG rfl <| zy (.iC rfl rfl (by omega)) <| yG rfl <| zy (.LE rfl (by omega)) <| yG rfl ?_
                 refine zy (.iC rfl rfl (by omega)) <| yG rfl <| zy (.LE rfl (by omega)) <| yG rfl ?_
                 refine zy (.eqTt rfl rfl (by assumption)) <| zy (.pickT rfl rfl) <| zd <| zt rfl <| zo <| zy (.addN rfl rfl (by omega)) <| zd <| zs <| zy (.cgtF rfl rfl (by omega)) <| zv rfl rfl <| zv rfl rfl <| zv rfl rfl ?_
                 refine zv rfl rfl <| zv rfl rfl <| zv rfl rfl <| zv rfl rfl <| zv rfl rfl <| zv rfl rfl <| zy (.pickF rfl rfl) <| zd <| zu rfl <| zk <| zo <| zy (.addN rfl rfl (by omega)) ?_
                 refine zd <| ⟨⟨_, ⟨_, _⟩⟩, ?_, (by simp only; omega), (subxR rfl), (.of (.t0 (.t0 (.t0 (.t0 .rf)))))⟩
                exact ⟨by dsimp only; omega, by dsimp only; omega, by dsimp only; omega⟩
              · have hsn' := hsn (by omega) hnl
                focus
                 refine zs <| zc rfl <| zy (.cltT rfl rfl (by omega)) <| zd <| zq <| zt rfl <| zk <| zq <| zb <| zq <| zb <| zs ?_
                 refine zc rfl <| zy (.cltT rfl rfl (by omega)) <| yG rfl <| zy (.iC rfl rfl (by omega)) <| yG rfl <| zy (.LE rfl (by omega)) <| yG rfl <| zy (.iC rfl rfl (by omega)) <| yG rfl <| zy (.LE rfl (by omega)) <| yG rfl ?_
                 refine zy (.eqTf rfl rfl (by assumption)) <| zy (.pickT rfl rfl) <| zd <| zu rfl <| zs <| zc rfl <| zy (.cltT rfl rfl (by omega)) <| yG rfl <| zy (.iC rfl rfl (by omega)) <| yG rfl <| zy (.LE rfl (by omega)) <| yG rfl ?_
                 refine zy (.iC rfl rfl (by omega)) <| yG rfl <| zy (.LE rfl (by omega)) <| yG rfl ?_
                 refine zy (.eqTt rfl rfl (by assumption)) <| zy (.pickT rfl rfl) <| zd <| zt rfl <| zo <| zy (.addN rfl rfl (by omega)) <| zd <| zs <| zy (.cgtT rfl rfl (by omega)) <| yG rfl <| zy (.subN rfl rfl (by omega) (by omega)) <| yG rfl ?_
                 refine zy (.iC rfl rfl (by omega)) <| yG rfl <| zy (.fe rfl) <| yG rfl <| zy (.LEf rfl (by omega) (by decide)) <| yG rfl <| zy (.iC rfl rfl (by omega)) <| yG rfl <| zy (.fe rfl) <| yG rfl <| zy (.LEf rfl (by omega) (by decide)) <| yG rfl ?_
                 refine yD rfl rfl (.of .rf) (r9Less_fn _ _ _) <| yG rfl <| zc rfl <| zy (.pickT rfl rfl) <| zd <| zi rfl (fun h1 => ?_) (fun h1 => ?_)
                 contradiction
                 refine zk <| zo <| zy (.addN rfl rfl (by omega)) <| zd <| ⟨⟨_, ⟨_, _⟩⟩, ?_, (by simp only; omega), (subxR rfl), (.of (.t0 (.t0 (.t0 (.t0 .rf)))))⟩
                exact ⟨by dsimp only; omega, by dsimp only; omega, by dsimp only; omega⟩
            · by_cases hn0 : n = 0
              · focus
                 refine zs <| zc rfl <| zy (.cltT rfl rfl (by omega)) <| zd <| zq <| zt rfl <| zk <| zq <| zb <| zq <| zb <| zs ?_
                 refine zc rfl <| zy (.cltF rfl rfl (by omega)) <| zv rfl rfl <| zv rfl rfl <| zv rfl rfl <| zv rfl rfl <| zv rfl rfl <| zy (.pickF rfl rfl) <| zd <| zu rfl <| zs <| zc rfl ?_
                 refine zy (.cltT rfl rfl (by omega)) <| yG rfl <| zy (.iC rfl rfl (by omega)) <| yG rfl <| zy (.LE rfl (by omega)) <| yG rfl <| zy (.iC rfl rfl (by omega)) <| yG rfl <| zy (.LE rfl (by omega)) <| yG rfl ?_
                 refine zy (.eqTt rfl rfl (by assumption)) <| zy (.pickT rfl rfl) <| zd <| zt rfl <| zo <| zy (.addN rfl rfl (by omega)) <| zd <| zs <| zy (.cgtF rfl rfl (by omega)) <| zv rfl rfl <| zv rfl rfl <| zv rfl rfl ?_
                 refine zv rfl rfl <| zv rfl rfl <| zv rfl rfl <| zv rfl rfl <| zv rfl rfl <| zv rfl rfl <| zy (.pickF rfl rfl) <| zd <| zu rfl <| zk <| zo <| zy (.addN rfl rfl (by omega)) ?_
                 refine zd <| ⟨⟨_, ⟨_, _⟩⟩, ?_, (by simp only; omega), (subxR rfl), (.of (.t0 (.t0 (.t0 (.t0 .rf)))))⟩
                exact ⟨by dsimp only; omega, by dsimp only; omega, by dsimp only; omega⟩
              · have hsn' := hsn (by omega) hnl
                focus
                 refine zs <| zc rfl <| zy (.cltT rfl rfl (by omega)) <| zd <| zq <| zt rfl <| zk <| zq <| zb <| zq <| zb <| zs ?_
                 refine zc rfl <| zy (.cltF rfl rfl (by omega)) <| zv rfl rfl <| zv rfl rfl <| zv rfl rfl <| zv rfl rfl <| zv rfl rfl <| zy (.pickF rfl rfl) <| zd <| zu rfl <| zs <| zc rfl ?_
                 refine zy (.cltT rfl rfl (by omega)) <| yG rfl <| zy (.iC rfl rfl (by omega)) <| yG rfl <| zy (.LE rfl (by omega)) <| yG rfl <| zy (.iC rfl rfl (by omega)) <| yG rfl <| zy (.LE rfl (by omega)) <| yG rfl ?_
                 refine zy (.eqTt rfl rfl (by assumption)) <| zy (.pickT rfl rfl) <| zd <| zt rfl <| zo <| zy (.addN rfl rfl (by omega)) <| zd <| zs <| zy (.cgtT rfl rfl (by omega)) <| yG rfl <| zy (.subN rfl rfl (by omega) (by omega)) <| yG rfl ?_
                 refine zy (.iC rfl rfl (by omega)) <| yG rfl <| zy (.fe rfl) <| yG rfl <| zy (.LEf rfl (by omega) (by decide)) <| yG rfl <| zy (.iC rfl rfl (by omega)) <| yG rfl <| zy (.fe rfl) <| yG rfl <| zy (.LEf rfl (by omega) (by decide)) <| yG rfl ?_
                 refine yD rfl rfl (.of .rf) (r9Less_fn _ _ _) <| yG rfl <| zc rfl <| zy (.pickT rfl rfl) <| zd <| zi rfl (fun h1 => ?_) (fun h1 => ?_)
                 contradiction
                 refine zk <| zo <| zy (.addN rfl rfl (by omega)) <| zd <| ⟨⟨_, ⟨_, _⟩⟩, ?_, (by simp only; omega), (subxR rfl), (.of (.t0 (.t0 (.t0 (.t0 .rf)))))⟩
                exact ⟨by dsimp only; omega, by dsimp only; omega, by dsimp only; omega⟩
        · focus
           refine zs <| zc rfl <| zy (.cltF rfl rfl (by omega)) <| zd <| zq <| zu rfl <| zx <| zs <| yD rfl rfl (.of .rf) (l11alive_fn _) <| zd <| zr <| yR (.t rfl .nil) rfl (.of (.t3 (.d (.d (.d .rf)))))
      · focus
         refine zs <| yB rfl fun b4 => zc rfl <| yE rfl rfl (.of (.t1 .rf)) (hfw _) fun ⟨a2, c2⟩ _ => yD rfl rfl (.of .rf) hc <| zy (.cneF rfl rfl (by decide)) <| yG rfl <| zw rfl rfl <| yG rfl <| yD rfl rfl (.of .rf) (r1Right_fn _ _) <| yG rfl <| zc rfl ?_
         refine zy (.pickF rfl rfl) <| yF rfl (by assumption) <| zf 0 rfl rfl <| yF rfl (by assumption) <| zl rfl rfl <| yF rfl (by assumption) <| zy (.cgeT rfl rfl (by omega)) <| zy (.pickFp rfl (by assumption) rfl) <| zd <| zq <| zt rfl <| zs ?_
         refine yD rfl rfl (.of .rf) (l11alive_fn _) <| zd <| zr <| yR (.t rfl .nil) rfl (.of (.t1 (.d (.d .rf))))
    · focus
       refine zs <| yB rfl fun b4 => zc rfl <| yE rfl rfl (.of (.t1 .rf)) (hfw _) fun ⟨a2, c2⟩ _ => yD rfl rfl (.of .rf) hc <| zy (.cneF rfl rfl (by decide)) <| yG rfl <| zw rfl rfl <| yG rfl <| yD rfl rfl (.of .rf) (r1Right_fn _ _) <| yG rfl <| zc rfl ?_
       refine zy (.pickF rfl rfl) <| yFs rfl (by assumption) <| yFs rfl (by assumption) <| yFs rfl (by assumption) <| zy (.pickTp rfl (by assumption) rfl) <| zd <| zq <| zt rfl <| zs <| yD rfl rfl (.of .rf) (l11alive_fn _) <| zd <| zr ?_
       refine yR (.t rfl .nil) rfl (.of (.t1 (.d (.d .rf))))
  · simp only [if_neg hg] at hc
    focus
     refine zs <| yB rfl fun b4 => zc rfl <| yE rfl rfl (.of (.t1 .rf)) (hfw _) fun ⟨a2, c2⟩ _ => yD rfl rfl (.of .rf) hc <| zy (.cneT rfl rfl (by decide)) <| zv rfl rfl <| zv rfl rfl <| zv rfl rfl <| zy (.pickT rfl rfl) <| zv rfl rfl <| zv rfl rfl ?_
     refine zv rfl rfl <| zy (.pickT rfl rfl) <| zd <| zq <| zt rfl <| zs <| yD rfl rfl (.of .rf) (l11alive_fn _) <| zd <| zr <| yR (.t rfl .nil) rfl (.of (.t1 (.d (.d .rf))))
end Go.Proofs.Ytgcmglieciaifaa
