/- Layer 11: the laws GraphBeside, GraphWays, GraphInverse: what their functions do. Conditions: none. -/
import Derived.Test.YtgcmglieciaifaaGn
set_option linter.unusedSimpArgs false
set_option linter.unusedVariables false
set_option maxRecDepth 100000
set_option maxHeartbeats 4000000
namespace Go.SL
open Go
theorem hop_eq {x y : HopE} (h : x.level = y.level ∧ x.at' = y.at') : x = y := by
  obtain ⟨a, b⟩ := x; obtain ⟨c, d⟩ := y
  obtain ⟨e1, e2⟩ := h
  simp only at e1 e2; rw [e1, e2]
theorem few_pos {xs : List Ref} (h : ∀ r ∈ xs, 0 ≤ r.vec.bits) : ∀ r ∈ xs.take 12, 0 ≤ r.vec.bits := fun r hr => h r (List.mem_of_mem_take hr)
theorem gbesE_ok {h : Int} {xs : List Ref} {w : Vec} {id : Int} (e : (gbesE h xs w id).2.2 = 0) : grOk h xs ∧ gmay h w ∧ (gbes (grow h xs w) id).2.2 = true ∧ (gbesE h xs w id).1 = (gbes (grow h xs w) id).1 ∧ (gbesE h xs w id).2.1 = (gbes (grow h xs w) id).2.1 := by
  unfold gbesE at *
  by_cases hg : grOk h xs
  · rw [if_pos hg] at e ⊢
    by_cases hm : gmay h w
    · rw [if_pos hm] at e ⊢
      refine ⟨hg, hm, ?_, rfl, rfl⟩
      cases hx : (gbes (grow h xs w) id).2.2
      · rw [hx] at e; simp at e
      · rfl
    · rw [if_neg hm] at e; simp at e
  · rw [if_neg hg] at e; simp at e
theorem gbesE_of {h : Int} {xs : List Ref} {w : Vec} {id : Int} (hg : grOk h xs) (hm : gmay h w) {A B : Ref} (e : gbes (grow h xs w) id = (A, B, true)) : gbesE h xs w id = (A, B, 0) := by
  unfold gbesE; rw [if_pos hg, if_pos hm, e]; rfl
/-- Where one stands, told by its number. -/
theorem gbes_ix {L : List Ref} {id : Int} (e : (gbes L id).2.2 = true) : ∃ i, i < L.length ∧ (nth L i).id = id ∧ gbes L id = (gl L i, gr L i, true) := by
  unfold gbes at *
  cases hx : gix L id with
  | none => rw [hx] at e; cases e
  | some i =>
    unfold gix at hx
    obtain ⟨hi, h2, _⟩ := List.findIdx?_eq_some_iff_getElem.1 hx
    exact ⟨i, hi, by rw [nth_eq hi]; simpa using h2, rfl⟩
theorem gbes_nth {h : Int} {xs : List Ref} (hg : grOk h xs) {w : Vec} {i : Nat} (hi : i < (grow h xs w).length) : gbes (grow h xs w) (nth (grow h xs w) i).id = (gl (grow h xs w) i, gr (grow h xs w) i, true) := by
  refine gbes_at hi (fun j hj e => ?_) rfl
  have := row_uniq hg (by omega) hi e
  omega
theorem inv_right {h : Int} {xs : List Ref} {w : Vec} {id : Int} (e : (gbesE h xs w id).2.2 = 0) (hne : id ≠ 1) : (gbesE h xs w (gbesE h xs w id).2.1.id).2.2 = 0 ∧ (gbesE h xs w (gbesE h xs w id).2.1.id).1.id = id := by
  obtain ⟨hg, hm, ho, _, e2⟩ := gbesE_ok e
  obtain ⟨i, hi, hid, hb⟩ := gbes_ix ho
  rw [e2, hb]
  have hl := grow_last (h := h) (xs := xs) (w := w)
  have hlt : i + 1 < (grow h xs w).length := by
    rcases Nat.lt_or_ge (i + 1) (grow h xs w).length with hq | hq
    · exact hq
    · exfalso
      have : i = (grow h xs w).length - 1 := by omega
      rw [← this] at hl; rw [hl] at hid; exact hne hid.symm
  have hr : gr (grow h xs w) i = nth (grow h xs w) (i + 1) := if_pos hlt
  have hn := gbes_nth hg hlt
  show (gbesE h xs w (gr (grow h xs w) i).id).2.2 = 0 ∧ (gbesE h xs w (gr (grow h xs w) i).id).1.id = id
  rw [hr, gbesE_of hg hm hn]
  refine ⟨rfl, ?_⟩
  show (gl (grow h xs w) (i + 1)).id = id
  unfold gl; rw [if_pos (by omega)]; exact hid
theorem inv_left {h : Int} {xs : List Ref} {w : Vec} {id : Int} (e : (gbesE h xs w id).2.2 = 0) (hne : id ≠ 0) : (gbesE h xs w (gbesE h xs w id).1.id).2.2 = 0 ∧ (gbesE h xs w (gbesE h xs w id).1.id).2.1.id = id := by
  obtain ⟨hg, hm, ho, e1, _⟩ := gbesE_ok e
  obtain ⟨i, hi, hid, hb⟩ := gbes_ix ho
  rw [e1, hb]
  have hpos : 0 < i := by
    rcases Nat.eq_zero_or_pos i with rfl | hq
    · exact absurd hid.symm hne
    · exact hq
  have hr : gl (grow h xs w) i = nth (grow h xs w) (i - 1) := if_pos hpos
  have hn := gbes_nth (i := i - 1) hg (w := w) (by omega)
  show (gbesE h xs w (gl (grow h xs w) i).id).2.2 = 0 ∧ (gbesE h xs w (gl (grow h xs w) i).id).2.1.id = id
  rw [hr, gbesE_of hg hm hn]
  refine ⟨rfl, ?_⟩
  show (gr (grow h xs w) (i - 1)).id = id
  unfold gr; rw [if_pos (by omega), show i - 1 + 1 = i by omega]; exact hid
end Go.SL
namespace Go.Proofs.Ytgcmglieciaifaa
open Go Go.SL
attribute [local irreducible] pc rc SlT Me Mt It pt ro pur ex sep old Meets
theorem r11SameHops_fn {a1 a2 : Option Addr} {c1 c2 : Nat} {xs ys : List HopE} {F : List Assn} [Hs : HS F (.slice a1 xs.length c1) HopE hopC 6 c1 xs] [Hs2 : HS F (.slice a2 ys.length c2) HopE hopC 6 c2 ys] : Meets Try.prog 13 [.slice a1 xs.length c1, .slice a2 ys.length c2] F (Det (.bool (decide (xs = ys))) F) := by
  refine Meets.intro b13 k13 (by simp) ?_
  refine J.sl Hs (fun hC hL _ => ?_)
  by_cases hl : xs.length = ys.length
  · focus
     refine zs <| zc rfl <| zc rfl <| zc rfl <| zy (.cneF rfl rfl (by omega)) <| zd <| zq <| zu rfl <| zk <| zs <| zc rfl <| zd ?_
     refine zq <| zb ?_
    refine J.lp (ι := Nat) (fun k => k ≤ xs.length ∧ ∀ j, j < k → nth xs j = nth ys j) (fun k => [(5, i64 (k : Int))]) (fun _ => F) (fun k => xs.length - k) 0 ⟨by omega, fun j hj => by omega⟩ (by exact subxR rfl) (Up.refl _) (fun k hk => ?_)
    obtain ⟨hk, hn⟩ := hk
    focus
     refine zs <| zc rfl <| zj rfl rfl rfl <| zd <| zq <| zi rfl (fun h1 => ?_) (fun h1 => ?_)
     refine zk <| zq <| zb <| zs <| zy (.iC rfl rfl (by omega)) <| zy (.LE rfl (by omega)) <| zy (.iC rfl rfl (by omega)) <| zy (.LE rfl (by omega)) <| zy (.eqs rfl rfl (by repeat (first | exact EqC.nil | apply EqC.i | apply EqC.b | apply EqC.s))) ?_
     refine zd <| zi rfl (fun h2 => ?_) (fun h2 => ?_)
     refine zs <| zc rfl <| zd <| zr <| yR (.t rfl .nil) ?_ (.of .rf)
     rotate_left
     refine zk <| zo <| zy (.addN rfl rfl (by omega)) <| zd <| ⟨_, ?_, (by omega), (subxR rfl), (.of .rf)⟩
     rotate_left
     refine zx <| zs <| zc rfl <| zd <| zr <| yR (.t rfl .nil) ?_ (.of .rf)
     rotate_left
    · simp only [mkRet]; rw [decide_eq_false (fun e => h2.elim (fun h => h (by rw [e])) (fun h => h (by rw [e])))]
    · have h3 := hop_eq h2
      exact ⟨by omega, fun j hj => (Nat.lt_or_eq_of_le (Nat.le_of_lt_succ hj)).elim (hn j) (fun e => e ▸ h3)⟩
    · simp only [mkRet]; rw [decide_eq_true (eqNth hl fun j hj => hn j (by omega))]
  · focus
     refine zs <| zc rfl <| zc rfl <| zc rfl <| zy (.cneT rfl rfl (by omega)) <| zd <| zq <| zt rfl <| zs <| zc rfl <| zd <| zr ?_
     refine yR (.t rfl .nil) ?_ (.of .rf)
    simp only [mkRet]; rw [decide_eq_false (fun e => hl (by rw [e]))]
theorem r11SameHops_ne {a : Option Addr} {c : Nat} {F : List Assn} [H : HS F (.slice a ([] : List HopE).length c) HopE hopC 6 c []] : Meets Try.prog 13 [.slice none 0 0, .slice a ([] : List HopE).length c] F (Det (.bool true) F) := by
  have hs : HS (SlT true hopC 6 (.slice none 0 0) 0 ([] : List HopE) :: F) (.slice none ([] : List HopE).length 0) HopE hopC 6 0 [] := (inferInstance : HS (SlT true hopC 6 (.slice none 0 0) 0 ([] : List HopE) :: F) (.slice none 0 0) HopE hopC 6 0 [])
  refine (Meets.up (Up.nilS (enc := hopC) (sz := 6) true (by decide) (Up.refl _)) (r11SameHops_fn (F := SlT true hopC 6 (.slice none 0 0) 0 ([] : List HopE) :: F) (xs := []) (ys := []) (a1 := none) (c1 := 0) (a2 := a) (c2 := c))).post ?_
  rintro v c ⟨rfl, rfl⟩
  exact ⟨_, Up.of Imp.drop, rfl, rfl⟩
theorem r11SameHops_nn {F : List Assn} : Meets Try.prog 13 [.slice none 0 0, .slice none 0 0] F (Det (.bool true) F) := by
  have hs : HS (SlT true hopC 6 (.slice none 0 0) 0 ([] : List HopE) :: F) (.slice none ([] : List HopE).length 0) HopE hopC 6 0 [] := (inferInstance : HS (SlT true hopC 6 (.slice none 0 0) 0 ([] : List HopE) :: F) (.slice none 0 0) HopE hopC 6 0 [])
  refine (Meets.up (Up.nilS (enc := hopC) (sz := 6) true (by decide) (Up.refl _)) (r11SameHops_fn (F := SlT true hopC 6 (.slice none 0 0) 0 ([] : List HopE) :: F) (xs := []) (ys := []) (a1 := none) (c1 := 0) (a2 := none) (c2 := 0))).post ?_
  rintro v c ⟨rfl, rfl⟩
  exact ⟨_, Up.of Imp.drop, rfl, rfl⟩
theorem GraphBeside_fn (h : Int) (w : Vec) (id : Int) {a1 : Option Addr} {c1 : Nat} {xs : List SL.Ref} (hw : 0 ≤ w.bits) (hx : ∀ r ∈ xs, 0 ≤ r.vec.bits) (F : List Assn) :
    Meets Try.prog 6 [i64 h, vv w, i64 id, .slice a1 xs.length c1] (SlT false refC 5 (.slice a1 xs.length c1) c1 xs :: F) (Det (.bool true) (SlT false refC 5 (.slice a1 xs.length c1) c1 xs :: F)) := by
  refine Meets.intro b6 k6 (by simp) ?_
  have hf := few_pos hx
  have h1 := fun {a : Option Addr} {c : Nat} {F : List Assn} [HS F (.slice a (xs.take 12).length c) SL.Ref refC 5 c (xs.take 12)] => gBeside_fn h (a1 := a) (c1 := c) (xs := xs.take 12) w id (F := F) hf
  have h2 := fun {a : Option Addr} {c : Nat} {F : List Assn} [HS F (.slice a (xs.take 12).length c) SL.Ref refC 5 c (xs.take 12)] => r11Beside_fn h (a1 := a) (c1 := c) (xs := xs.take 12) w id (F := F) hf hw
  generalize gbesE h (xs.take 12) w id = R at *
  obtain ⟨A, B, e⟩ := R
  dsimp only at h1 h2
  focus
   refine zs <| yB rfl fun b5 => zc rfl <| yE rfl rfl (.of (.t1 .rf)) (l11few_fn _) fun ⟨a3, c3⟩ _ => zw rfl rfl <| yD rfl rfl (.of .rf) h1 <| zc rfl <| zc rfl <| zc rfl <| yN fun b9 => yN fun b10 => yW rfl rfl rfl rfl rfl ?_
   refine yW rfl rfl rfl rfl rfl <| zw rfl rfl <| yD rfl rfl (.of .rf) h2 <| zc rfl <| zc rfl <| zc rfl <| yN fun b12 => yN fun b13 => yW rfl rfl rfl rfl rfl <| yW rfl rfl rfl rfl rfl <| zw rfl rfl <| zw rfl rfl ?_
   refine zy (.eqT rfl rfl) <| zp rfl (fun h3 => ?_) (fun h3 => ?_)
   refine zw rfl rfl <| yT rfl (by assumption) <| zw rfl rfl <| yT rfl (by assumption) ?_
   refine zy (.eqT rfl rfl) <| zy (.pickTp rfl (by assumption) rfl) <| zp rfl (fun h4 => ?_) (fun h4 => ?_)
   refine zy (.ceqT rfl rfl (by omega)) <| zy (.pickTp rfl (by assumption) rfl) <| yG rfl <| yD rfl rfl (.of .rf) (l11alive_fn _) <| zy (.pickT rfl rfl) <| zd <| zr <| yR (.t rfl .nil) rfl (.of (.t5 (.d (.d (.d (.d (.d (.d .rf))))))))
   contradiction
   contradiction
theorem GraphInverse_fn (h : Int) (w : Vec) (id : Int) {a1 : Option Addr} {c1 : Nat} {xs : List SL.Ref} (hw : 0 ≤ w.bits) (hx : ∀ r ∈ xs, 0 ≤ r.vec.bits) (F : List Assn) :
    Meets Try.prog 7 [i64 h, vv w, i64 id, .slice a1 xs.length c1] (SlT false refC 5 (.slice a1 xs.length c1) c1 xs :: F) (Det (.bool true) (SlT false refC 5 (.slice a1 xs.length c1) c1 xs :: F)) := by
  refine Meets.intro b7 k7 (by simp) ?_
  have hf := few_pos hx
  have h1 := fun (id : Int) {a : Option Addr} {c : Nat} {F : List Assn} [HS F (.slice a (xs.take 12).length c) SL.Ref refC 5 c (xs.take 12)] => gBeside_fn h (a1 := a) (c1 := c) (xs := xs.take 12) w id (F := F) hf
  have hR := inv_right (h := h) (xs := xs.take 12) (w := w) (id := id)
  have hL := inv_left (h := h) (xs := xs.take 12) (w := w) (id := id)
  by_cases e0 : (gbesE h (xs.take 12) w id).2.2 = 0
  · by_cases i1 : id = 1
    · obtain ⟨l1, l2⟩ := hL e0 (by omega)
      focus
       refine zs <| yB rfl fun b5 => zc rfl <| yE rfl rfl (.of (.t1 .rf)) (l11few_fn _) fun ⟨a3, c3⟩ _ => zw rfl rfl <| yD rfl rfl (.of .rf) (h1 _) <| zc rfl <| zc rfl <| zc rfl <| yN fun b9 => yN fun b10 => yW rfl rfl rfl rfl rfl ?_
       refine yW rfl rfl rfl rfl rfl <| zy (.cneF rfl rfl (by omega)) <| zd <| zq <| zu rfl <| zk <| zs <| zy (.cneF rfl rfl (by omega)) <| zd <| zq <| zu rfl <| zk ?_
       refine zs <| zy (.cneT rfl rfl (by omega)) <| zd <| zq <| zt rfl <| zs <| zw rfl rfl <| zfl rfl rfl rfl <| yD rfl rfl (.of .rf) (h1 _) <| zc rfl <| zc rfl <| zc rfl ?_
       refine yN fun b15 => yN fun b16 => yW rfl rfl rfl rfl rfl <| yW rfl rfl rfl rfl rfl <| zy (.cneF rfl rfl (by omega)) <| yG rfl <| zf 0 rfl rfl <| yG rfl <| zl rfl rfl <| yG rfl <| zy (.cneF rfl rfl (by omega)) <| zy (.pickF rfl rfl) ?_
       refine zd <| zu rfl <| zk <| zs <| yD rfl rfl (.of .rf) (l11alive_fn _) <| zd <| zr <| yR (.t rfl .nil) rfl (.of (.t5 (.d (.d (.d (.d (.d (.d .rf))))))))
    · obtain ⟨r1, r2⟩ := hR e0 i1
      by_cases i0 : id = 0
      · focus
         refine zs <| yB rfl fun b5 => zc rfl <| yE rfl rfl (.of (.t1 .rf)) (l11few_fn _) fun ⟨a3, c3⟩ _ => zw rfl rfl <| yD rfl rfl (.of .rf) (h1 _) <| zc rfl <| zc rfl <| zc rfl <| yN fun b9 => yN fun b10 => yW rfl rfl rfl rfl rfl ?_
         refine yW rfl rfl rfl rfl rfl <| zy (.cneF rfl rfl (by omega)) <| zd <| zq <| zu rfl <| zk <| zs <| zy (.cneT rfl rfl (by omega)) <| zd <| zq <| zt rfl <| zs ?_
         refine zw rfl rfl <| zfl rfl rfl rfl <| yD rfl rfl (.of .rf) (h1 _) <| zc rfl <| zc rfl <| zc rfl <| yN fun b12 => yN fun b13 => yW rfl rfl rfl rfl rfl <| yW rfl rfl rfl rfl rfl <| zy (.cneF rfl rfl (by omega)) <| yG rfl ?_
         refine zf 0 rfl rfl <| yG rfl <| zl rfl rfl <| yG rfl <| zy (.cneF rfl rfl (by omega)) <| zy (.pickF rfl rfl) <| zd <| zu rfl <| zk <| zs <| zy (.cneF rfl rfl (by omega)) <| zd ?_
         refine zq <| zu rfl <| zk <| zs <| yD rfl rfl (.of .rf) (l11alive_fn _) <| zd <| zr <| yR (.t rfl .nil) rfl (.of (.t5 (.d (.d (.d (.d (.d (.d .rf))))))))
      · obtain ⟨l1, l2⟩ := hL e0 i0
        focus
         refine zs <| yB rfl fun b5 => zc rfl <| yE rfl rfl (.of (.t1 .rf)) (l11few_fn _) fun ⟨a3, c3⟩ _ => zw rfl rfl <| yD rfl rfl (.of .rf) (h1 _) <| zc rfl <| zc rfl <| zc rfl <| yN fun b9 => yN fun b10 => yW rfl rfl rfl rfl rfl ?_
         refine yW rfl rfl rfl rfl rfl <| zy (.cneF rfl rfl (by omega)) <| zd <| zq <| zu rfl <| zk <| zs <| zy (.cneT rfl rfl (by omega)) <| zd <| zq <| zt rfl <| zs ?_
         refine zw rfl rfl <| zfl rfl rfl rfl <| yD rfl rfl (.of .rf) (h1 _) <| zc rfl <| zc rfl <| zc rfl <| yN fun b12 => yN fun b13 => yW rfl rfl rfl rfl rfl <| yW rfl rfl rfl rfl rfl <| zy (.cneF rfl rfl (by omega)) <| yG rfl ?_
         refine zf 0 rfl rfl <| yG rfl <| zl rfl rfl <| yG rfl <| zy (.cneF rfl rfl (by omega)) <| zy (.pickF rfl rfl) <| zd <| zu rfl <| zk <| zs <| zy (.cneT rfl rfl (by omega)) <| zd ?_
         refine zq <| zt rfl <| zs <| zw rfl rfl <| zfl rfl rfl rfl <| yD rfl rfl (.of .rf) (h1 _) <| zc rfl <| zc rfl <| zc rfl <| yN fun b15 => yN fun b16 => yW rfl rfl rfl rfl rfl ?_
         refine yW rfl rfl rfl rfl rfl <| zy (.cneF rfl rfl (by omega)) <| yG rfl <| zf 0 rfl rfl <| yG rfl <| zl rfl rfl <| yG rfl <| zy (.cneF rfl rfl (by omega)) <| zy (.pickF rfl rfl) <| zd <| zu rfl <| zk ?_
         refine zs <| yD rfl rfl (.of .rf) (l11alive_fn _) <| zd <| zr <| yR (.t rfl .nil) rfl (.of (.tk (.there (.there (.there (.there (.there (.there (.there .here))))))) (.d (.d (.d (.d (.d (.d (.d (.d .rf))))))))))
  · focus
     refine zs <| yB rfl fun b5 => zc rfl <| yE rfl rfl (.of (.t1 .rf)) (l11few_fn _) fun ⟨a3, c3⟩ _ => zw rfl rfl <| yD rfl rfl (.of .rf) (h1 _) <| zc rfl <| zc rfl <| zc rfl <| yN fun b9 => yN fun b10 => yW rfl rfl rfl rfl rfl ?_
     refine yW rfl rfl rfl rfl rfl <| zy (.cneT rfl rfl (by omega)) <| zd <| zq <| zt rfl <| zs <| yD rfl rfl (.of .rf) (l11alive_fn _) <| zd <| zr <| yR (.t rfl .nil) rfl (.of (.t3 (.d (.d (.d (.d .rf))))))
theorem GraphWays_fn (h from' : Int) (tgt : SL.Key) {a1 : Option Addr} {c1 : Nat} {xs : List SL.Ref} (hx : ∀ r ∈ xs, 0 ≤ r.vec.bits) (F : List Assn) :
    Meets Try.prog 3 [i64 h, i64 from', kv tgt, .slice a1 xs.length c1] (SlT false refC 5 (.slice a1 xs.length c1) c1 xs :: F) (Det (.bool true) (SlT false refC 5 (.slice a1 xs.length c1) c1 xs :: F)) := by
  refine Meets.intro b3 k3 (by simp) ?_
  have hf := few_pos hx
  generalize hys : xs.take 12 = ys at hf
  have hfw := fun F => l11few_fn (a := a1) (c := c1) (xs := xs) F
  rw [hys] at hfw
  by_cases hg : grOk h ys
  · have h2 := fun {a : Option Addr} {c : Nat} {F : List Assn} [HS F (.slice a ys.length c) SL.Ref refC 5 c ys] => r11Way_ok h from' tgt (a1 := a) (c1 := c) (xs := ys) (F := F) hg hf
    cases ha : gat h ys from' with
    | none =>
      have h1 := fun {a : Option Addr} {c : Nat} {F : List Assn} [HS F (.slice a ys.length c) SL.Ref refC 5 c ys] => gWay_non h from' tgt (a1 := a) (c1 := c) (xs := ys) (F := F) hg hf ha
      have e : gwayE h ys from' tgt = ([], zR, zR, 111) := by unfold gwayE; rw [if_pos hg, ha]
      simp only [e] at h2
      focus
       refine zs <| yB rfl fun b6 => zc rfl <| yE rfl rfl (.of (.t1 .rf)) (hfw _) fun ⟨a3, c3⟩ _ => zw rfl rfl <| yD rfl rfl (.of .rf) h1 <| zc rfl <| zc rfl <| zc rfl <| zc rfl <| yN fun b10 => yN fun b11 => ?_
       refine yW rfl rfl rfl rfl rfl <| yW rfl rfl rfl rfl rfl <| zw rfl rfl <| yE rfl rfl (.of .rf) h2 fun ⟨a34, c34⟩ _ => zc rfl <| zc rfl <| zc rfl <| zc rfl <| yN fun b14 => yN fun b15 => yW rfl rfl rfl rfl rfl <| yW rfl rfl rfl rfl rfl ?_
       refine yD rfl rfl (.of .rf) r11SameHops_ne <| yG rfl <| zw rfl rfl <| yG rfl <| zw rfl rfl <| yG rfl ?_
       refine zy (.eqT rfl rfl) <| zy (.pickT rfl rfl) <| yG rfl <| zw rfl rfl <| yG rfl <| zw rfl rfl <| yG rfl ?_
       refine zy (.eqT rfl rfl) <| zy (.pickT rfl rfl) <| yG rfl <| zy (.ceqT rfl rfl (by decide)) <| zy (.pickT rfl rfl) <| yG rfl <| yD rfl rfl (.of .rf) (l11alive_fn _) <| zy (.pickT rfl rfl) <| zd <| zr <| yR (.t rfl .nil) rfl (.of (.t6 (.d (.d (.d (.d (.d (.d (.d .rf)))))))))
    | some r =>
      by_cases hk : keyOk tgt
      · have h1 := fun {a : Option Addr} {c : Nat} {F : List Assn} [HS F (.slice a ys.length c) SL.Ref refC 5 c ys] => gWay_ok h from' tgt (a1 := a) (c1 := c) (xs := ys) (F := F) hg hf ha hk
        have e : (gwayE h ys from' tgt).2.2.2 = 0 := by
          unfold gwayE; rw [if_pos hg, ha]; simp only [if_pos hk]; split <;> rfl
        generalize gwayE h ys from' tgt = R at *
        obtain ⟨H, A, B, z⟩ := R
        dsimp only at h1 h2 e
        subst e
        focus
         refine zs <| yB rfl fun b6 => zc rfl <| yE rfl rfl (.of (.t1 .rf)) (hfw _) fun ⟨a3, c3⟩ _ => zw rfl rfl <| yE rfl rfl (.of .rf) h1 fun ⟨a24, c24⟩ _ => zc rfl <| zc rfl <| zc rfl <| zc rfl <| yN fun b10 => yN fun b11 => ?_
         refine yW rfl rfl rfl rfl rfl <| yW rfl rfl rfl rfl rfl <| zw rfl rfl <| yE rfl rfl (.of .rf) h2 fun ⟨a34, c34⟩ _ => zc rfl <| zc rfl <| zc rfl <| zc rfl <| yN fun b14 => yN fun b15 => yW rfl rfl rfl rfl rfl <| yW rfl rfl rfl rfl rfl ?_
         refine yD rfl rfl (.of .rf) r11SameHops_fn <| zp rfl (fun h3 => ?_) (fun h3 => ?_)
         refine zw rfl rfl <| yT rfl (by assumption) <| zw rfl rfl <| yT rfl (by assumption) ?_
         refine zy (.eqT rfl rfl) <| zy (.pickTp rfl (by assumption) rfl) <| zp rfl (fun h4 => ?_) (fun h4 => ?_)
         refine zw rfl rfl <| yT rfl (by assumption) <| zw rfl rfl <| yT rfl (by assumption) ?_
         refine zy (.eqT rfl rfl) <| zy (.pickTp rfl (by assumption) rfl) <| zp rfl (fun h5 => ?_) (fun h5 => ?_)
         refine zy (.ceqT rfl rfl (by decide)) <| zy (.pickTp rfl (by assumption) rfl) <| yG rfl <| yD rfl rfl (.of .rf) (l11alive_fn _) <| zy (.pickT rfl rfl) <| zd <| zr <| yR (.t rfl .nil) rfl (.of (.tk (.there (.there (.there (.there (.there (.there (.there .here))))))) (.d (.d (.d (.d (.d (.d (.d (.d .rf))))))))))
         contradiction
         contradiction
         contradiction
      · have h1 := fun {a : Option Addr} {c : Nat} {F : List Assn} [HS F (.slice a ys.length c) SL.Ref refC 5 c ys] => gWay_key h from' tgt (a1 := a) (c1 := c) (xs := ys) (F := F) hg hf ha hk
        have e : gwayE h ys from' tgt = ([], zR, zR, 1) := by unfold gwayE; rw [if_pos hg, ha]; simp only [if_neg hk]
        simp only [e] at h2
        focus
         refine zs <| yB rfl fun b6 => zc rfl <| yE rfl rfl (.of (.t1 .rf)) (hfw _) fun ⟨a3, c3⟩ _ => zw rfl rfl <| yD rfl rfl (.of .rf) h1 <| zc rfl <| zc rfl <| zc rfl <| zc rfl <| yN fun b10 => yN fun b11 => ?_
         refine yW rfl rfl rfl rfl rfl <| yW rfl rfl rfl rfl rfl <| zw rfl rfl <| yE rfl rfl (.of .rf) h2 fun ⟨a34, c34⟩ _ => zc rfl <| zc rfl <| zc rfl <| zc rfl <| yN fun b14 => yN fun b15 => yW rfl rfl rfl rfl rfl <| yW rfl rfl rfl rfl rfl ?_
         refine yD rfl rfl (.of .rf) r11SameHops_ne <| yG rfl <| zw rfl rfl <| yG rfl <| zw rfl rfl <| yG rfl ?_
         refine zy (.eqT rfl rfl) <| zy (.pickT rfl rfl) <| yG rfl <| zw rfl rfl <| yG rfl <| zw rfl rfl <| yG rfl ?_
         refine zy (.eqT rfl rfl) <| zy (.pickT rfl rfl) <| yG rfl <| zy (.ceqT rfl rfl (by decide)) <| zy (.pickT rfl rfl) <| yG rfl <| yD rfl rfl (.of .rf) (l11alive_fn _) <| zy (.pickT rfl rfl) <| zd <| zr <| yR (.t rfl .nil) rfl (.of (.t6 (.d (.d (.d (.d (.d (.d (.d .rf)))))))))
  · have h1 := fun {a : Option Addr} {c : Nat} {F : List Assn} [HS F (.slice a ys.length c) SL.Ref refC 5 c ys] => gWay_bad h from' tgt (a1 := a) (c1 := c) (xs := ys) (F := F) hg
    have h2 := fun {a : Option Addr} {c : Nat} {F : List Assn} [HS F (.slice a ys.length c) SL.Ref refC 5 c ys] => r11Way_bad h from' tgt (a1 := a) (c1 := c) (xs := ys) (F := F) hg
    focus
     refine zs <| yB rfl fun b6 => zc rfl <| yE rfl rfl (.of (.t1 .rf)) (hfw _) fun ⟨a3, c3⟩ _ => zw rfl rfl <| yD rfl rfl (.of .rf) h1 <| zc rfl <| zc rfl <| zc rfl <| zc rfl <| yN fun b10 => yN fun b11 => ?_
     refine yW rfl rfl rfl rfl rfl <| yW rfl rfl rfl rfl rfl <| zw rfl rfl <| yD rfl rfl (.of .rf) h2 <| zc rfl <| zc rfl <| zc rfl <| zc rfl <| yN fun b14 => yN fun b15 => yW rfl rfl rfl rfl rfl <| yW rfl rfl rfl rfl rfl ?_
     refine yD rfl rfl (.of .rf) r11SameHops_nn <| yG rfl <| zw rfl rfl <| yG rfl <| zw rfl rfl <| yG rfl ?_
     refine zy (.eqT rfl rfl) <| zy (.pickT rfl rfl) <| yG rfl <| zw rfl rfl <| yG rfl <| zw rfl rfl <| yG rfl ?_
     refine zy (.eqT rfl rfl) <| zy (.pickT rfl rfl) <| yG rfl <| zy (.ceqT rfl rfl (by decide)) <| zy (.pickT rfl rfl) <| yG rfl <| yD rfl rfl (.of .rf) (l11alive_fn _) <| zy (.pickT rfl rfl) <| zd <| zr <| yR (.t rfl .nil) rfl (.of (.t5 (.d (.d (.d (.d (.d (.d .rf))))))))
end Go.Proofs.Ytgcmglieciaifaa
