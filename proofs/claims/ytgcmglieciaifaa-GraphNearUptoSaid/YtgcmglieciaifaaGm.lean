/- Layer 11: the reference's Way: the function. Conditions: none. -/
import Derived.Test.YtgcmglieciaifaaGl
import Derived.Test.YtgcmglieciaifaaBi
set_option linter.unusedSimpArgs false
set_option linter.unusedVariables false
set_option maxRecDepth 100000
set_option maxHeartbeats 4000000
namespace Go.SL
open Go
theorem row_uniq {h : Int} {xs : List Ref} (hg : grOk h xs) {w : Vec} {i j : Nat} (hi : i < (grow h xs w).length) (hj : j < (grow h xs w).length) (e : (nth (grow h xs w) i).id = (nth (grow h xs w) j).id) : i = j := by
  have := grow_ids hg w
  rw [nth_eq hi, nth_eq hj] at e
  exact (List.getElem_inj (i := i) (j := j) (h₀ := by simpa using hi) (h₁ := by simpa using hj) this).1 (by simpa using e)
theorem gat_no {h : Int} {xs : List Ref} {id : Int} (e : gat h xs id = none) : ∀ j, j < (grow h xs zV).length → (nth (grow h xs zV) j).id ≠ id := by
  unfold gat at e
  rw [List.find?_eq_none] at e
  intro j hj
  have := e _ (List.getElem_mem hj)
  rw [nth_eq hj]; simpa using this
/-- A search as the reference keeps it. -/
def rSt (h : Int) (xs : List Ref) (left : Bool) (tgt : Key) (W : Ref × List HopE) (lv : Int) (r : Ref) (hops : List HopE) : Prop :=
  (gSt h xs left tgt lv r ∧ ∃ f, gfuel h xs left lv r < f ∧ hops.length + f ≤ 50000 ∧ gwalk h xs left tgt f lv r hops = W) ∨ (lv = -1 ∧ gOn h xs r ∧ (r, hops) = W)
def rMu (h : Int) (xs : List Ref) (left : Bool) (lv : Int) (r : Ref) : Nat := if lv < 0 then 0 else gfuel h xs left lv r + 1
theorem rMu_lt {h : Int} {xs : List Ref} {left : Bool} {lv lv' : Int} {r r' : Ref} (h0 : 0 ≤ lv) (hl : 0 ≤ lv' → gfuel h xs left lv' r' < gfuel h xs left lv r) : rMu h xs left lv' r' < rMu h xs left lv r := by
  unfold rMu
  rw [if_neg (show ¬ lv < 0 by omega)]
  split
  · omega
  · have := hl (by omega); omega
end Go.SL
namespace Go.Proofs.Ytgcmglieciaifaa
open Go Go.SL
attribute [local irreducible] pc rc SlT Me Mt It pt ro pur ex sep old Meets
theorem r3IsKey_fn (k : SL.Key) (F : List Assn) : Meets Try.prog 40 [kv k] F (Det (.bool (decide (keyOk k))) F) := by
  refine Meets.intro b40 k40 (by simp) ?_
  focus
   refine zs <| yB rfl fun b1 => zc rfl <| zfl rfl rfl rfl <| zj rfl rfl rfl <| zn rfl (fun h1 => ?_) (fun h1 => ?_)
   refine zf 1 rfl rfl <| yF rfl (by assumption) <| zl rfl rfl <| yF rfl (by assumption) <| zj rfl rfl rfl <| yF rfl (by assumption) <| zc rfl <| zp rfl (fun h2 => ?_) (fun h2 => ?_)
   refine zf 0 rfl rfl <| yT rfl (by assumption) <| zl rfl rfl <| yT rfl (by assumption) <| zj rfl rfl rfl <| yT rfl (by assumption) <| zc rfl <| zn rfl (fun h3 => ?_) (fun h3 => ?_)
   refine zf 0 rfl rfl <| yF rfl (by assumption) <| zl rfl rfl <| yF rfl (by assumption) <| zj rfl rfl rfl <| yT rfl (by assumption) <| zy (.pickFp rfl (by assumption) rfl) <| yF rfl (by assumption) <| zy (.pickTp rfl (by assumption) rfl) <| zy (.pickFp rfl (by assumption) rfl) <| zd <| zr ?_
   refine yR (.t rfl .nil) ?_ (.of (.d .rf))
   rotate_left
   refine yFs rfl (by assumption) <| yFs rfl (by assumption) <| yT rfl (by assumption) <| zy (.pickTp rfl (by assumption) rfl) <| yF rfl (by assumption) <| zy (.pickTp rfl (by assumption) rfl) <| zy (.pickFp rfl (by assumption) rfl) <| zd <| zr <| yR (.t rfl .nil) ?_ (.of (.d .rf))
   rotate_left
   refine yTs rfl (by assumption) <| yTs rfl (by assumption) <| yTs rfl (by assumption) <| JT.skipU rfl <| JT.skipU rfl <| JT.skipU rfl <| yTs rfl (by assumption) <| yF rfl (by assumption) <| zy (.pickFp rfl (by assumption) rfl) <| zy (.pickFp rfl (by assumption) rfl) <| zd <| zr ?_
   refine yR (.t rfl .nil) ?_ (.of (.d .rf))
   rotate_left
   refine yFs rfl (by assumption) <| yFs rfl (by assumption) <| yFs rfl (by assumption) <| JT.skipU rfl <| JT.skipU rfl <| JT.skipU rfl <| JT.skipU rfl <| JT.skipU rfl <| JT.skipU rfl <| JT.skipU rfl <| JT.skipU rfl <| yFs rfl (by assumption) ?_
   refine zy (.pickTp rfl (by assumption) rfl) <| zd <| zr <| yR (.t rfl .nil) ?_ (.of (.d .rf))
   rotate_left
  all_goals (simp only [mkRet]; congr 1; first | rw [decide_eq_true (show keyOk k by unfold keyOk; omega)] | rw [decide_eq_false (show ¬ keyOk k by unfold keyOk; omega)] | (rw [Bool.eq_iff_iff]; simp only [decide_eq_true_eq]; unfold keyOk; omega))
theorem r11Way_bad (h from' : Int) (tgt : SL.Key) {a1 : Option Addr} {c1 : Nat} {xs : List SL.Ref} {F : List Assn} [Hs : HS F (.slice a1 xs.length c1) SL.Ref refC 5 c1 xs] (hg : ¬ grOk h xs) : Meets Try.prog 12 [i64 h, i64 from', kv tgt, .slice a1 xs.length c1] F (Det (.tuple #[.slice none 0 0, rv zR, rv zR, i64 110]) F) := by
  refine Meets.intro b12 k12 (by simp) ?_
  have hc : ∀ {F : List Assn} [HS F (.slice a1 xs.length c1) SL.Ref refC 5 c1 xs], Meets Try.prog 15 [i64 h, .slice a1 xs.length c1] F (Det (i64 110) F) := by
    intro F _
    have := r11Check_fn h (a1 := a1) (c1 := c1) (xs := xs) (F := F)
    unfold gE at this; rw [if_neg hg] at this; exact this
  focus
   refine zs <| yB rfl fun b6 => zc rfl <| yN fun b9 => yN fun b10 => zc rfl <| yD rfl rfl (.of .rf) hc <| zy (.cneT rfl rfl (by decide)) <| zd <| zq <| zt rfl <| zs ?_
   refine zg rfl <| zg rfl <| zc rfl <| yW rfl rfl rfl rfl rfl <| yW rfl rfl rfl rfl rfl <| zc rfl <| zd <| zr <| yR (.t rfl (.w rfl rfl (.w rfl rfl (.t rfl .nil)))) rfl (.of (.d (.d (.d .rf))))
theorem r11Way_ok (h from' : Int) (tgt : SL.Key) {a1 : Option Addr} {c1 : Nat} {xs : List SL.Ref} {F : List Assn} [Hs : HS F (.slice a1 xs.length c1) SL.Ref refC 5 c1 xs] (hg : grOk h xs) (hb : ∀ r ∈ xs, 0 ≤ r.vec.bits) :
    Meets Try.prog 12 [i64 h, i64 from', kv tgt, .slice a1 xs.length c1] F
      (Some' (fun _ : Option Addr × Nat => True) (fun x => .tuple #[.slice x.1 (gwayE h xs from' tgt).1.length x.2, rv (gwayE h xs from' tgt).2.1, rv (gwayE h xs from' tgt).2.2.1, i64 (gwayE h xs from' tgt).2.2.2]) (fun x => SlT true hopC 6 (.slice x.1 (gwayE h xs from' tgt).1.length x.2) x.2 (gwayE h xs from' tgt).1 :: F)) := by
  refine Meets.intro b12 k12 (by simp) ?_
  have hc : ∀ {F : List Assn} [HS F (.slice a1 xs.length c1) SL.Ref refC 5 c1 xs], Meets Try.prog 15 [i64 h, .slice a1 xs.length c1] F (Det (i64 0) F) := by
    intro F _
    have := r11Check_fn h (a1 := a1) (c1 := c1) (xs := xs) (F := F)
    unfold gE at this; rw [if_pos hg] at this; exact this
  have hR : ∀ {F : List Assn} [HS F (.slice a1 xs.length c1) SL.Ref refC 5 c1 xs], Meets Try.prog 27 [i64 h, vv zV, .slice a1 xs.length c1] F _ := fun {F} _ => r11Row_fn h zV (F := F) hg hb (by decide)
  have hN : ∀ (r : SL.Ref) (lv : Int) {F : List Assn} [HS F (.slice a1 xs.length c1) SL.Ref refC 5 c1 xs], gOn h xs r → 0 ≤ lv → lv ≤ h → Meets Try.prog 41 [i64 h, rv r, i64 lv, .slice a1 xs.length c1] F _ := fun r lv {F} _ h1 h2 h3 => r11next_fn h r lv (F := F) hg hb h1 h2 h3
  unfold gwayE
  rw [if_pos hg]
  have hll := grow_len hg zV
  cases hga : gat h xs from' with
  | none =>
    have hno := gat_no hga
    dsimp only
    generalize grow h xs zV = L at *
    focus
     refine zs <| yB rfl fun b6 => zc rfl <| yN fun b9 => yN fun b10 => zc rfl <| yD rfl rfl (.of .rf) hc <| zy (.cneF rfl rfl (by decide)) <| zd <| zq <| zu rfl <| zk ?_
     refine zs <| zg rfl <| yE rfl rfl (.of .rf) hR fun ⟨a12, c12⟩ _ => zg rfl <| yN fun b13 => yW rfl rfl rfl rfl rfl <| zc rfl <| zc rfl <| zd <| zq <| zb ?_
    refine J.lp (ι := Nat) (fun k => k ≤ L.length) (fun k => [(15, i64 (k : Int))]) (fun k => pc b13 32 (refC zR) :: SlT true refC 5 (.slice a12 L.length c12) c12 L :: pc b10 32 (refC zR) :: pc b9 32 (refC zR) :: pc b6 25 (keyC tgt) :: F) (fun k => L.length - k) 0 (by omega) (by exact subxR rfl) (.of (.t0 (.t0 (.t0 (.t0 (.t0 .rf)))))) (fun k hk => ?_)
    by_cases hlt : k < L.length
    · have hne := hno k hlt
      focus
       refine zs <| zc rfl <| zy (.cltT rfl rfl (by omega)) <| zd <| zq <| zt rfl <| zk <| zq <| zb <| zs <| zy (.iC rfl rfl (by omega)) <| zy (.fe rfl) ?_
       refine zy (.LE0 rfl (by omega) rfl) <| zy (.ceqF rfl rfl (by omega)) <| zd <| zu rfl <| zk <| zo <| zy (.addN rfl rfl (by omega)) <| zd <| ⟨_, ?_, (by omega), (subxR rfl), (.of (.t0 (.t0 (.t0 (.t0 (.t0 .rf))))))⟩
       omega
    · focus
       refine zs <| zc rfl <| zy (.cltF rfl rfl (by omega)) <| zd <| zq <| zu rfl <| zx <| zs <| zc rfl <| zd <| zq <| zt rfl ?_
       refine zs <| zg rfl <| zg rfl <| zc rfl <| yW rfl rfl rfl rfl rfl <| yW rfl rfl rfl rfl rfl <| zc rfl <| zd <| zr <| seqQ_r ?_
      exact retQS (none, 0) (by (repeat (first | exact Rets.nil | apply Rets.t rfl | (apply Rets.cw rfl; (· (repeat (first | exact Has.here | assumption | apply Has.there))); (· rfl)) | (apply Rets.cv rfl; (· (repeat (first | exact Has.here | assumption | apply Has.there))))))) trivial rfl (Up.nilS (enc := hopC) (sz := 6) true (by decide) (.of (.t0 (.d (.d (.d (.d (.d .rf))))))))
  | some r =>
    obtain ⟨hid, i, hi, hni, hx⟩ := gat_some hga
    have hr : gOn h xs r := gOn.of hg hb (w := zV) (by rw [← hni, nth_eq hi]; exact List.getElem_mem hi)
    have hu : ∀ k, k < (grow h xs zV).length → k ≠ i → (nth (grow h xs zV) k).id ≠ from' := fun k hk hki e => hki (row_uniq hg hk hi (by rw [e, hni, hid]))
    have hL0 : nth (grow h xs zV) 0 = gHead h := rfl
    have hLp : 0 < (grow h xs zV).length := by omega
    dsimp only
    have hbz : ∀ r' : SL.Ref, gOn h xs r' → gnext h xs false r' 0 = (gbes (grow h xs zV) r'.id).2.1 := fun r' ho => by
      unfold gnext; rw [vpre_zero ho.ok ho.pos]; rfl
    generalize hLL : grow h xs zV = L at *
    focus
     refine zs <| yB rfl fun b6 => zc rfl <| yN fun b9 => yN fun b10 => zc rfl <| yD rfl rfl (.of .rf) hc <| zy (.cneF rfl rfl (by decide)) <| zd <| zq <| zu rfl <| zk ?_
     refine zs <| zg rfl <| yE rfl rfl (.of .rf) hR fun ⟨a12, c12⟩ _ => zg rfl <| yN fun b13 => yW rfl rfl rfl rfl rfl <| zc rfl <| zc rfl <| zd <| zq <| zb ?_
    refine J.lp (ι := Nat × Bool × SL.Ref) (fun k => k.1 ≤ L.length ∧ k.2.1 = decide (i < k.1) ∧ k.2.2 = if i < k.1 then r else zR) (fun k => [(14, .bool k.2.1), (15, i64 (k.1 : Int))]) (fun k => pc b13 32 (refC k.2.2) :: SlT true refC 5 (.slice a12 L.length c12) c12 L :: pc b10 32 (refC zR) :: pc b9 32 (refC zR) :: pc b6 25 (keyC tgt) :: F) (fun k => L.length - k.1) (0, false, zR) ⟨by simp, by simp, by simp⟩ (by exact subxR rfl) (.of (.t0 (.t0 (.t0 (.t0 (.t0 .rf)))))) (fun k hk => ?_)
    obtain ⟨k, ok, at'⟩ := k
    obtain ⟨hk, hok, hat⟩ := hk
    dsimp only at hk hok hat ⊢
    by_cases hlt : k < L.length
    · by_cases hki : k = i
      · subst hki
        rw [if_neg (by omega)] at hat
        have hnid : (nth L k).id = from' := by rw [hni]; exact hid
        focus
         refine zs <| zc rfl <| zy (.cltT rfl rfl (by omega)) <| zd <| zq <| zt rfl <| zk <| zq <| zb <| zs <| zy (.iC rfl rfl (by omega)) <| zy (.fe rfl) ?_
         refine zy (.LE0 rfl (by omega) rfl) <| zy (.ceqT rfl rfl (by omega)) <| zd <| zt rfl <| zo <| zy (.iC rfl rfl (by omega)) <| zy (.LE rfl (by omega)) <| yW rfl rfl rfl rfl rfl <| zc rfl <| zd <| zo <| zy (.addN rfl rfl (by omega)) ?_
         refine zd <| ⟨⟨_, ⟨_, _⟩⟩, ?_, (by omega), (subxR rfl), (.of (.t0 (.t0 (.t0 (.t0 (.t0 .rf))))))⟩
        refine ⟨by dsimp only; omega, by simp, ?_⟩
        simp only [Nat.lt_succ_self, if_true]; exact hni
      · have hne := hu k hlt hki
        focus
         refine zs <| zc rfl <| zy (.cltT rfl rfl (by omega)) <| zd <| zq <| zt rfl <| zk <| zq <| zb <| zs <| zy (.iC rfl rfl (by omega)) <| zy (.fe rfl) ?_
         refine zy (.LE0 rfl (by omega) rfl) <| zy (.ceqF rfl rfl (by omega)) <| zd <| zu rfl <| zk <| zo <| zy (.addN rfl rfl (by omega)) <| zd <| ⟨⟨_, ⟨_, _⟩⟩, ?_, (by omega), (subxR rfl), (.of (.t0 (.t0 (.t0 (.t0 (.t0 .rf))))))⟩
        refine ⟨by dsimp only; omega, ?_, ?_⟩
        · dsimp only; rw [hok]; congr 1; rw [eq_iff_iff]; omega
        · dsimp only; rw [hat]; congr 1; rw [eq_iff_iff]; omega
    · obtain rfl : k = L.length := by omega
      rw [if_pos hi] at hat
      rw [decide_eq_true hi] at hok
      subst hat hok
      by_cases hko : keyOk tgt
      · simp only [if_pos hko]
        by_cases hlow : tgt.rank = 1
        · simp only [if_pos hlow]
          focus
           refine zs <| zc rfl <| zy (.cltF rfl rfl (by omega)) <| zd <| zq <| zu rfl <| zx <| zs <| zc rfl <| zd <| zq <| zu rfl ?_
           refine zk <| zs <| zw rfl rfl <| yD rfl rfl (.of .rf) (r3IsKey_fn _ _) <| zc rfl <| zd <| zq <| zi rfl (fun h1 => ?_) (fun h1 => ?_)
           contradiction
           refine zk <| zs <| zw rfl rfl <| zg rfl <| JT.bsl1 (by repeat (first | exact Cells.nil | apply Cells.z | (apply Cells.cl; rfl; rfl; rfl))) (by simp only [List.length_cons, List.length_nil, Nat.reduceAdd]; rfl) (by decide) (by rfl) fun a16 => ?_
           refine zfl rfl rfl rfl <| zy (.ceqT rfl rfl (by omega)) <| zd <| zq <| zt rfl <| zs <| zg rfl <| zy (.iC rfl rfl (by omega)) <| zy (.LE rfl (by omega)) <| zc rfl <| yW rfl rfl rfl rfl rfl <| JT.yA rfl (Ev.LE rfl (by omega)) ?_
           refine yW rfl rfl rfl rfl rfl <| zc rfl <| zd <| zr <| seqQ_r ?_
          refine retQ_up (Up.of (Imp.trans (Imp.take (c := SlT true (fun e : List Value => e) 6 (.slice a16 1 1) 1 [hopC ⟨h, at'⟩]) (by (repeat (first | exact Has.here | assumption | apply Has.there))) (Imp.refl _)) (SlT.ty (enc := hopC) [⟨h, at'⟩] rfl))) ?_
          rw [hL0]
          exact retQS (a16, 1) (by (repeat (first | exact Rets.nil | apply Rets.t rfl | (apply Rets.cw rfl; (· (repeat (first | exact Has.here | assumption | apply Has.there))); (· rfl)) | (apply Rets.cv rfl; (· (repeat (first | exact Has.here | assumption | apply Has.there))))))) trivial rfl (.of (.t0 (.d (.d (.d (.d (.d .rf)))))))
        · simp only [if_neg hlow]
          by_cases hlt : keyLt at'.key tgt
          · have hF : gfuel h xs false h at' < gF0 := by
              have := gfar_le (h := h) (xs := xs) hg false at'
              have := hg.h32
              unfold gfuel gF0; omega
            unfold gway
            rw [show decide (¬ keyLt at'.key tgt) = false by simp [hlt]]
            have hS0 : rSt h xs false tgt (gwalk h xs false tgt gF0 h at' [⟨h, at'⟩]) h at' [⟨h, at'⟩] := .inl ⟨⟨hr, hg.h0, Int.le_refl _, by simp [hlt]⟩, gF0, hF, by unfold gF0; simp, rfl⟩
            generalize gwalk h xs false tgt gF0 h at' [⟨h, at'⟩] = W at *
            focus
             refine zs <| zc rfl <| zy (.cltF rfl rfl (by omega)) <| zd <| zq <| zu rfl <| zx <| zs <| zc rfl <| zd <| zq <| zu rfl ?_
             refine zk <| zs <| zw rfl rfl <| yD rfl rfl (.of .rf) (r3IsKey_fn _ _) <| zc rfl <| zd <| zq <| zi rfl (fun h1 => ?_) (fun h1 => ?_)
             contradiction
             refine zk <| zs <| zw rfl rfl <| zg rfl <| JT.bsl1 (by repeat (first | exact Cells.nil | apply Cells.z | (apply Cells.cl; rfl; rfl; rfl))) (by simp only [List.length_cons, List.length_nil, Nat.reduceAdd]; rfl) (by decide) (by rfl) fun a16 => ?_
             refine zfl rfl rfl rfl <| zy (.ceqF rfl rfl (by omega)) <| zd <| zq <| zu rfl <| zk <| zs <| zfw [_, _] rfl rfl rfl rfl <| zw rfl rfl <| yD rfl rfl (.of .rf) (r9Less_fn _ _ _) <| zc rfl <| zc rfl ?_
             refine zd <| zq <| zb ?_
            refine J.imp (Imp.trans (Imp.take (c := SlT true (fun e : List Value => e) 6 (.slice a16 1 1) 1 [hopC ⟨h, at'⟩]) (by (repeat (first | exact Has.here | assumption | apply Has.there))) (Imp.refl _)) (SlT.ty (enc := hopC) [⟨h, at'⟩] rfl)) ?_
            rw [show (!decide (keyLt at'.key tgt)) = false from by simp [hlt]]
            refine J.lp (ι := Int × SL.Ref × List HopE × Option Addr × Nat) (fun i => rSt h xs false tgt W i.1 i.2.1 i.2.2.1) (fun i => [(16, .slice i.2.2.2.1 i.2.2.1.length i.2.2.2.2), (18, i64 i.1)])
              (fun i => SlT true hopC 6 (.slice i.2.2.2.1 i.2.2.1.length i.2.2.2.2) i.2.2.2.2 i.2.2.1 :: pc b13 32 (refC i.2.1) :: SlT true refC 5 (.slice a12 L.length c12) c12 L :: pc b10 32 (refC zR) :: pc b9 32 (refC zR) :: pc b6 25 (keyC tgt) :: F) (fun i => rMu h xs false i.1 i.2.1) (h, at', [⟨h, at'⟩], a16, 1) hS0 (by exact subxR rfl) (.of (.t0 (.t0 (.t0 (.t0 (.t0 (.t0 .rf))))))) (fun j hj => ?_)
            clear hS0
            obtain ⟨lv, r, hp, ah, ch⟩ := j
            dsimp only at hj ⊢
            rcases hj with ⟨hs, f', hf, hl, hw⟩ | ⟨rfl, ho, hw⟩
            · obtain ⟨n1, n2⟩ := hs.next hg hb hko hlow
              have hNx := fun {F : List Assn} [HS F (.slice a1 xs.length c1) SL.Ref refC 5 c1 xs] => hN r lv (F := F) hs.on hs.l0 hs.l1
              clear hN
              have hf' := hf
              unfold gfuel at hf'
              have h00 := hs.l0
              have h01 := hs.l1
              have h02 := hg.h32
              obtain ⟨f'', rfl⟩ : ∃ k, f' = k + 1 := ⟨f' - 1, by omega⟩
              by_cases hc : keyLt (gnext h xs false r lv).key tgt
              · have hd : decide (keyLt (gnext h xs false r lv).key tgt) ≠ false := by simp [hc]
                rw [gwalk_step hd] at hw
                have hs2 : gSt h xs false tgt lv (gnext h xs false r lv) := ⟨n1, h00, h01, hd⟩
                have hmu : rMu h xs false lv (gnext h xs false r lv) < rMu h xs false lv r := rMu_lt h00 fun _ => by unfold gfuel; omega
                have hfn : gfuel h xs false lv (gnext h xs false r lv) < f'' := by unfold gfuel; omega
                generalize gnext h xs false r lv = nx at *
                focus
                 refine zs <| zy (.cgeT rfl rfl (by omega)) <| zd <| zq <| zt rfl <| zk <| zb <| zs <| zw rfl rfl <| yD rfl rfl (.of .rf) hNx <| zc rfl <| zc rfl ?_
                 refine yN fun b19 => yN fun b20 => yW rfl rfl rfl rfl rfl <| yW rfl rfl rfl rfl rfl <| zw rfl rfl <| yN fun b21 => yW rfl rfl rfl rfl rfl <| zc rfl <| zd <| zq <| zu rfl <| zk ?_
                 refine zb <| zs <| zfw [_, _] rfl rfl rfl rfl <| zw rfl rfl <| yD rfl rfl (.of .rf) (r9Less_fn _ _ _) <| zc rfl <| zd <| zi rfl (fun h2 => ?_) (fun h2 => ?_)
                 refine zo <| zw rfl rfl <| yW rfl rfl rfl rfl rfl <| zw rfl rfl <| zg rfl <| JT.bsl1 (by repeat (first | exact Cells.nil | apply Cells.z | (apply Cells.cl; rfl; rfl; rfl))) (by simp only [List.length_cons, List.length_nil, Nat.reduceAdd]; rfl) (by decide) (by rfl) fun a106 => ?_
                 rotate_left
                 refine zs <| zj rfl rfl rfl <| zm rfl rfl (fun h3 => .calc rfl) <| zy (.pickA rfl rfl rfl) <| zd <| zi rfl (fun h3 => ?_) (fun h3 => ?_)
                 refine zo <| zw rfl rfl <| yW rfl rfl rfl rfl rfl <| zw rfl rfl <| zg rfl <| JT.bsl1 (by repeat (first | exact Cells.nil | apply Cells.z | (apply Cells.cl; rfl; rfl; rfl))) (by simp only [List.length_cons, List.length_nil, Nat.reduceAdd]; rfl) (by decide) (by rfl) fun a119 => ?_
                 rotate_left
                 refine zo <| zy (.sub rfl rfl (Wr.i64 (by omega) (by omega))) <| zd <| ⟨⟨_, ⟨_, ⟨_, ⟨_, _⟩⟩⟩⟩, ?_, ?_, (subxR rfl), (.of (.t3 (.t3 (.t3 (.t3 (.t3 (.t3 (.d (.d (.d .rf))))))))))⟩
                 rotate_left
                 rotate_left
                all_goals try (exfalso; first | (revert h2; simp [hc]; done) | (revert h3; simp; omega) | (revert h3; simp; done))
                refine JT.A1 (v := (⟨lv, nx⟩ : HopE)) rfl rfl rfl rfl (by decide) (by omega) (fun a4 c4 hc4 => ?_)
                focus
                 refine zd <| ⟨⟨_, ⟨_, ⟨_, ⟨_, _⟩⟩⟩⟩, ?_, (by omega), (subxR rfl), (.of (.t0 (.t1 (.t4 (.t4 (.t4 (.t4 (.d (.d (.d (.d .rf)))))))))))⟩
                exact .inl ⟨hs2, f'', hfn, by simp only [List.length_append, List.length_cons, List.length_nil]; omega, hw⟩
              · have hd : ¬ decide (keyLt (gnext h xs false r lv).key tgt) ≠ false := by simp [hc]
                by_cases hl0 : 0 < lv
                · rw [gwalk_down hd hl0] at hw
                  have hs2 : gSt h xs false tgt (lv - 1) r := ⟨hs.on, by omega, by omega, hs.side⟩
                  have hmu : rMu h xs false (lv - 1) r < rMu h xs false lv r := rMu_lt h00 fun _ => by unfold gfuel; omega
                  have hfn : gfuel h xs false (lv - 1) r < f'' := by unfold gfuel; omega
                  generalize gnext h xs false r lv = nx at *
                  focus
                   refine zs <| zy (.cgeT rfl rfl (by omega)) <| zd <| zq <| zt rfl <| zk <| zb <| zs <| zw rfl rfl <| yD rfl rfl (.of .rf) hNx <| zc rfl <| zc rfl ?_
                   refine yN fun b19 => yN fun b20 => yW rfl rfl rfl rfl rfl <| yW rfl rfl rfl rfl rfl <| zw rfl rfl <| yN fun b21 => yW rfl rfl rfl rfl rfl <| zc rfl <| zd <| zq <| zu rfl <| zk ?_
                   refine zb <| zs <| zfw [_, _] rfl rfl rfl rfl <| zw rfl rfl <| yD rfl rfl (.of .rf) (r9Less_fn _ _ _) <| zc rfl <| zd <| zi rfl (fun h2 => ?_) (fun h2 => ?_)
                   refine zo <| zw rfl rfl <| yW rfl rfl rfl rfl rfl <| zw rfl rfl <| zg rfl <| JT.bsl1 (by repeat (first | exact Cells.nil | apply Cells.z | (apply Cells.cl; rfl; rfl; rfl))) (by simp only [List.length_cons, List.length_nil, Nat.reduceAdd]; rfl) (by decide) (by rfl) fun a106 => ?_
                   rotate_left
                   refine zs <| zy (.ceqF rfl rfl (by omega)) <| zv rfl rfl <| zy (.pickF rfl rfl) <| zd <| zu rfl <| zo <| zy (.sub rfl rfl (Wr.i64 (by omega) (by omega))) <| zd <| ⟨⟨_, ⟨_, ⟨_, ⟨_, _⟩⟩⟩⟩, ?_, (by omega), (subxR rfl), (.of (.t3 (.t3 (.t3 (.t3 (.t3 (.t3 (.d (.d (.d .rf))))))))))⟩
                   rotate_left
                  all_goals try (exfalso; first | (revert h2; simp [hc]; done) | (revert h3; simp; omega) | (revert h3; simp; done))
                  exact .inl ⟨hs2, f'', hfn, by dsimp only; omega, hw⟩
                · rw [gwalk_end hd hl0] at hw
                  obtain rfl : lv = 0 := by omega
                  have hmu : rMu h xs false (-1) r < rMu h xs false 0 r := rMu_lt h00 fun h => by omega
                  generalize gnext h xs false r 0 = nx at *
                  focus
                   refine zs <| zy (.cgeT rfl rfl (by decide)) <| zd <| zq <| zt rfl <| zk <| zb <| zs <| zw rfl rfl <| yD rfl rfl (.of .rf) hNx <| zc rfl <| zc rfl ?_
                   refine yN fun b19 => yN fun b20 => yW rfl rfl rfl rfl rfl <| yW rfl rfl rfl rfl rfl <| zw rfl rfl <| yN fun b21 => yW rfl rfl rfl rfl rfl <| zc rfl <| zd <| zq <| zu rfl <| zk ?_
                   refine zb <| zs <| zfw [_, _] rfl rfl rfl rfl <| zw rfl rfl <| yD rfl rfl (.of .rf) (r9Less_fn _ _ _) <| zc rfl <| zd <| zi rfl (fun h2 => ?_) (fun h2 => ?_)
                   refine zo <| zw rfl rfl <| yW rfl rfl rfl rfl rfl <| zw rfl rfl <| zg rfl <| JT.bsl1 (by repeat (first | exact Cells.nil | apply Cells.z | (apply Cells.cl; rfl; rfl; rfl))) (by simp only [List.length_cons, List.length_nil, Nat.reduceAdd]; rfl) (by decide) (by rfl) fun a106 => ?_
                   rotate_left
                   refine zs <| zy (.ceqT rfl rfl (by decide)) <| yG rfl <| zc rfl <| zy (.pickT rfl rfl) <| zd <| zu rfl <| zo <| zy (.sub rfl rfl (Wr.i64 (by omega) (by omega))) <| zd <| ⟨⟨_, ⟨_, ⟨_, ⟨_, _⟩⟩⟩⟩, ?_, ?_, (subxR rfl), (.of (.t3 (.t3 (.t3 (.t3 (.t3 (.t3 (.d (.d (.d .rf))))))))))⟩
                   rotate_left
                   assumption
                  all_goals try (exfalso; first | (revert h2; simp [hc]; done) | (revert h3; simp; omega) | (revert h3; simp; done))
                  exact .inr ⟨rfl, hs.on, hw⟩
            · subst hw
              have hNx := fun {F : List Assn} [HS F (.slice a1 xs.length c1) SL.Ref refC 5 c1 xs] => hN r 0 (F := F) ho (Int.le_refl _) hg.h0
              rw [hbz r ho] at hNx
              clear hN
              focus
               refine zs <| zy (.cgeF rfl rfl (by decide)) <| zd <| zq <| zu rfl <| zx <| zs <| zw rfl rfl <| yD rfl rfl (.of .rf) hNx <| zc rfl <| zc rfl <| yN fun b22 => ?_
               refine yN fun b23 => yW rfl rfl rfl rfl rfl <| yW rfl rfl rfl rfl rfl <| zw rfl rfl <| zw rfl rfl <| zc rfl <| yW rfl rfl rfl rfl rfl <| JT.yA rfl (Ev.Lw rfl rfl) <| yW rfl rfl rfl rfl rfl <| zc rfl <| zd <| zr ?_
               refine yQ ⟨_, _⟩ (.t rfl (.w rfl rfl (.w rfl rfl (.t rfl .nil)))) trivial rfl (.of (.t4 (.d (.d (.d (.d (.d (.d (.d .rf)))))))))
          · have hF : gfuel h xs true h at' < gF0 := by
              have := gfar_le (h := h) (xs := xs) hg true at'
              have := hg.h32
              unfold gfuel gF0; omega
            unfold gway
            rw [show decide (¬ keyLt at'.key tgt) = true by simp [hlt]]
            have hS0 : rSt h xs true tgt (gwalk h xs true tgt gF0 h at' [⟨h, at'⟩]) h at' [⟨h, at'⟩] := .inl ⟨⟨hr, hg.h0, Int.le_refl _, by simp [hlt]⟩, gF0, hF, by unfold gF0; simp, rfl⟩
            generalize gwalk h xs true tgt gF0 h at' [⟨h, at'⟩] = W at *
            focus
             refine zs <| zc rfl <| zy (.cltF rfl rfl (by omega)) <| zd <| zq <| zu rfl <| zx <| zs <| zc rfl <| zd <| zq <| zu rfl ?_
             refine zk <| zs <| zw rfl rfl <| yD rfl rfl (.of .rf) (r3IsKey_fn _ _) <| zc rfl <| zd <| zq <| zi rfl (fun h1 => ?_) (fun h1 => ?_)
             contradiction
             refine zk <| zs <| zw rfl rfl <| zg rfl <| JT.bsl1 (by repeat (first | exact Cells.nil | apply Cells.z | (apply Cells.cl; rfl; rfl; rfl))) (by simp only [List.length_cons, List.length_nil, Nat.reduceAdd]; rfl) (by decide) (by rfl) fun a16 => ?_
             refine zfl rfl rfl rfl <| zy (.ceqF rfl rfl (by omega)) <| zd <| zq <| zu rfl <| zk <| zs <| zfw [_, _] rfl rfl rfl rfl <| zw rfl rfl <| yD rfl rfl (.of .rf) (r9Less_fn _ _ _) <| zc rfl <| zc rfl ?_
             refine zd <| zq <| zb ?_
            refine J.imp (Imp.trans (Imp.take (c := SlT true (fun e : List Value => e) 6 (.slice a16 1 1) 1 [hopC ⟨h, at'⟩]) (by (repeat (first | exact Has.here | assumption | apply Has.there))) (Imp.refl _)) (SlT.ty (enc := hopC) [⟨h, at'⟩] rfl)) ?_
            rw [show (!decide (keyLt at'.key tgt)) = true from by simp [hlt]]
            refine J.lp (ι := Int × SL.Ref × List HopE × Option Addr × Nat) (fun i => rSt h xs true tgt W i.1 i.2.1 i.2.2.1) (fun i => [(16, .slice i.2.2.2.1 i.2.2.1.length i.2.2.2.2), (18, i64 i.1)])
              (fun i => SlT true hopC 6 (.slice i.2.2.2.1 i.2.2.1.length i.2.2.2.2) i.2.2.2.2 i.2.2.1 :: pc b13 32 (refC i.2.1) :: SlT true refC 5 (.slice a12 L.length c12) c12 L :: pc b10 32 (refC zR) :: pc b9 32 (refC zR) :: pc b6 25 (keyC tgt) :: F) (fun i => rMu h xs true i.1 i.2.1) (h, at', [⟨h, at'⟩], a16, 1) hS0 (by exact subxR rfl) (.of (.t0 (.t0 (.t0 (.t0 (.t0 (.t0 .rf))))))) (fun j hj => ?_)
            clear hS0
            obtain ⟨lv, r, hp, ah, ch⟩ := j
            dsimp only at hj ⊢
            rcases hj with ⟨hs, f', hf, hl, hw⟩ | ⟨rfl, ho, hw⟩
            · obtain ⟨n1, n2⟩ := hs.next hg hb hko hlow
              have hNx := fun {F : List Assn} [HS F (.slice a1 xs.length c1) SL.Ref refC 5 c1 xs] => hN r lv (F := F) hs.on hs.l0 hs.l1
              clear hN
              have hf' := hf
              unfold gfuel at hf'
              have h00 := hs.l0
              have h01 := hs.l1
              have h02 := hg.h32
              obtain ⟨f'', rfl⟩ : ∃ k, f' = k + 1 := ⟨f' - 1, by omega⟩
              by_cases hc : keyLt (gnext h xs true r lv).key tgt
              · have hd : ¬ decide (keyLt (gnext h xs true r lv).key tgt) ≠ true := by simp [hc]
                by_cases hl0 : 0 < lv
                · rw [gwalk_down hd hl0] at hw
                  have hs2 : gSt h xs true tgt (lv - 1) r := ⟨hs.on, by omega, by omega, hs.side⟩
                  have hmu : rMu h xs true (lv - 1) r < rMu h xs true lv r := rMu_lt h00 fun _ => by unfold gfuel; omega
                  have hfn : gfuel h xs true (lv - 1) r < f'' := by unfold gfuel; omega
                  generalize gnext h xs true r lv = nx at *
                  focus
                   refine zs <| zy (.cgeT rfl rfl (by omega)) <| zd <| zq <| zt rfl <| zk <| zb <| zs <| zw rfl rfl <| yD rfl rfl (.of .rf) hNx <| zc rfl <| zc rfl ?_
                   refine yN fun b19 => yN fun b20 => yW rfl rfl rfl rfl rfl <| yW rfl rfl rfl rfl rfl <| zw rfl rfl <| yN fun b21 => yW rfl rfl rfl rfl rfl <| zc rfl <| zd <| zq <| zt rfl <| zo ?_
                   refine zw rfl rfl <| yW rfl rfl rfl rfl rfl <| zd <| zb <| zs <| zfw [_, _] rfl rfl rfl rfl <| zw rfl rfl <| yD rfl rfl (.of .rf) (r9Less_fn _ _ _) <| zc rfl <| zd <| zi rfl (fun h2 => ?_) (fun h2 => ?_)
                   refine zo <| zw rfl rfl <| yW rfl rfl rfl rfl rfl <| zw rfl rfl <| zg rfl <| JT.bsl1 (by repeat (first | exact Cells.nil | apply Cells.z | (apply Cells.cl; rfl; rfl; rfl))) (by simp only [List.length_cons, List.length_nil, Nat.reduceAdd]; rfl) (by decide) (by rfl) fun a106 => ?_
                   rotate_left
                   refine zs <| zy (.ceqF rfl rfl (by omega)) <| zv rfl rfl <| zy (.pickF rfl rfl) <| zd <| zu rfl <| zo <| zy (.sub rfl rfl (Wr.i64 (by omega) (by omega))) <| zd <| ⟨⟨_, ⟨_, ⟨_, ⟨_, _⟩⟩⟩⟩, ?_, (by omega), (subxR rfl), (.of (.t3 (.t3 (.t3 (.t3 (.t3 (.t3 (.d (.d (.d .rf))))))))))⟩
                   rotate_left
                  all_goals try (exfalso; first | (revert h2; simp [hc]; done) | (revert h3; simp; omega) | (revert h3; simp; done))
                  exact .inl ⟨hs2, f'', hfn, by dsimp only; omega, hw⟩
                · rw [gwalk_end hd hl0] at hw
                  obtain rfl : lv = 0 := by omega
                  have hmu : rMu h xs true (-1) (gnext h xs true r 0) < rMu h xs true 0 r := rMu_lt h00 fun h => by omega
                  generalize gnext h xs true r 0 = nx at *
                  focus
                   refine zs <| zy (.cgeT rfl rfl (by decide)) <| zd <| zq <| zt rfl <| zk <| zb <| zs <| zw rfl rfl <| yD rfl rfl (.of .rf) hNx <| zc rfl <| zc rfl ?_
                   refine yN fun b19 => yN fun b20 => yW rfl rfl rfl rfl rfl <| yW rfl rfl rfl rfl rfl <| zw rfl rfl <| yN fun b21 => yW rfl rfl rfl rfl rfl <| zc rfl <| zd <| zq <| zt rfl <| zo ?_
                   refine zw rfl rfl <| yW rfl rfl rfl rfl rfl <| zd <| zb <| zs <| zfw [_, _] rfl rfl rfl rfl <| zw rfl rfl <| yD rfl rfl (.of .rf) (r9Less_fn _ _ _) <| zc rfl <| zd <| zi rfl (fun h2 => ?_) (fun h2 => ?_)
                   refine zo <| zw rfl rfl <| yW rfl rfl rfl rfl rfl <| zw rfl rfl <| zg rfl <| JT.bsl1 (by repeat (first | exact Cells.nil | apply Cells.z | (apply Cells.cl; rfl; rfl; rfl))) (by simp only [List.length_cons, List.length_nil, Nat.reduceAdd]; rfl) (by decide) (by rfl) fun a106 => ?_
                   rotate_left
                   refine zs <| zy (.ceqT rfl rfl (by decide)) <| yG rfl <| zc rfl <| zy (.pickT rfl rfl) <| zd <| zt rfl <| zo <| zw rfl rfl <| yW rfl rfl rfl rfl rfl <| zw rfl rfl <| zg rfl ?_
                   refine JT.bsl1 (by repeat (first | exact Cells.nil | apply Cells.z | (apply Cells.cl; rfl; rfl; rfl))) (by simp only [List.length_cons, List.length_nil, Nat.reduceAdd]; rfl) (by decide) (by rfl) fun a119 => ?_
                   rotate_left
                  all_goals try (exfalso; first | (revert h2; simp [hc]; done) | (revert h3; simp; omega) | (revert h3; simp; done))
                  refine JT.A1 (v := (⟨0, nx⟩ : HopE)) rfl rfl rfl rfl (by decide) (by omega) (fun a4 c4 hc4 => ?_)
                  focus
                   refine zc rfl <| zd <| ⟨⟨_, ⟨_, ⟨_, ⟨_, _⟩⟩⟩⟩, ?_, (by omega), (subxR rfl), (.of (.t0 (.t1 (.t4 (.t4 (.t4 (.t4 (.d (.d (.d (.d .rf)))))))))))⟩
                  exact .inr ⟨rfl, n1, hw⟩
              · have hd : decide (keyLt (gnext h xs true r lv).key tgt) ≠ true := by simp [hc]
                rw [gwalk_step hd] at hw
                have hs2 : gSt h xs true tgt lv (gnext h xs true r lv) := ⟨n1, h00, h01, hd⟩
                have hmu : rMu h xs true lv (gnext h xs true r lv) < rMu h xs true lv r := rMu_lt h00 fun _ => by unfold gfuel; omega
                have hfn : gfuel h xs true lv (gnext h xs true r lv) < f'' := by unfold gfuel; omega
                generalize gnext h xs true r lv = nx at *
                focus
                 refine zs <| zy (.cgeT rfl rfl (by omega)) <| zd <| zq <| zt rfl <| zk <| zb <| zs <| zw rfl rfl <| yD rfl rfl (.of .rf) hNx <| zc rfl <| zc rfl ?_
                 refine yN fun b19 => yN fun b20 => yW rfl rfl rfl rfl rfl <| yW rfl rfl rfl rfl rfl <| zw rfl rfl <| yN fun b21 => yW rfl rfl rfl rfl rfl <| zc rfl <| zd <| zq <| zt rfl <| zo ?_
                 refine zw rfl rfl <| yW rfl rfl rfl rfl rfl <| zd <| zb <| zs <| zfw [_, _] rfl rfl rfl rfl <| zw rfl rfl <| yD rfl rfl (.of .rf) (r9Less_fn _ _ _) <| zc rfl <| zd <| zi rfl (fun h2 => ?_) (fun h2 => ?_)
                 refine zo <| zw rfl rfl <| yW rfl rfl rfl rfl rfl <| zw rfl rfl <| zg rfl <| JT.bsl1 (by repeat (first | exact Cells.nil | apply Cells.z | (apply Cells.cl; rfl; rfl; rfl))) (by simp only [List.length_cons, List.length_nil, Nat.reduceAdd]; rfl) (by decide) (by rfl) fun a106 => ?_
                 rotate_left
                 refine zs <| zj rfl rfl rfl <| zm rfl rfl (fun h3 => .calc rfl) <| zy (.pickA rfl rfl rfl) <| zd <| zi rfl (fun h3 => ?_) (fun h3 => ?_)
                 refine zo <| zw rfl rfl <| yW rfl rfl rfl rfl rfl <| zw rfl rfl <| zg rfl <| JT.bsl1 (by repeat (first | exact Cells.nil | apply Cells.z | (apply Cells.cl; rfl; rfl; rfl))) (by simp only [List.length_cons, List.length_nil, Nat.reduceAdd]; rfl) (by decide) (by rfl) fun a119 => ?_
                 rotate_left
                 refine zo <| zy (.sub rfl rfl (Wr.i64 (by omega) (by omega))) <| zd <| ⟨⟨_, ⟨_, ⟨_, ⟨_, _⟩⟩⟩⟩, ?_, ?_, (subxR rfl), (.of (.t3 (.t3 (.t3 (.t3 (.t3 (.t3 (.d (.d (.d .rf))))))))))⟩
                 rotate_left
                 rotate_left
                all_goals try (exfalso; first | (revert h2; simp [hc]; done) | (revert h3; simp; omega) | (revert h3; simp; done))
                refine JT.A1 (v := (⟨lv, nx⟩ : HopE)) rfl rfl rfl rfl (by decide) (by omega) (fun a4 c4 hc4 => ?_)
                focus
                 refine zd <| ⟨⟨_, ⟨_, ⟨_, ⟨_, _⟩⟩⟩⟩, ?_, (by omega), (subxR rfl), (.of (.t0 (.t1 (.t4 (.t4 (.t4 (.t4 (.d (.d (.d (.d .rf)))))))))))⟩
                exact .inl ⟨hs2, f'', hfn, by simp only [List.length_append, List.length_cons, List.length_nil]; omega, hw⟩
            · subst hw
              have hNx := fun {F : List Assn} [HS F (.slice a1 xs.length c1) SL.Ref refC 5 c1 xs] => hN r 0 (F := F) ho (Int.le_refl _) hg.h0
              rw [hbz r ho] at hNx
              clear hN
              focus
               refine zs <| zy (.cgeF rfl rfl (by decide)) <| zd <| zq <| zu rfl <| zx <| zs <| zw rfl rfl <| yD rfl rfl (.of .rf) hNx <| zc rfl <| zc rfl <| yN fun b22 => ?_
               refine yN fun b23 => yW rfl rfl rfl rfl rfl <| yW rfl rfl rfl rfl rfl <| zw rfl rfl <| zw rfl rfl <| zc rfl <| yW rfl rfl rfl rfl rfl <| JT.yA rfl (Ev.Lw rfl rfl) <| yW rfl rfl rfl rfl rfl <| zc rfl <| zd <| zr ?_
               refine yQ ⟨_, _⟩ (.t rfl (.w rfl rfl (.w rfl rfl (.t rfl .nil)))) trivial rfl (.of (.t4 (.d (.d (.d (.d (.d (.d (.d .rf)))))))))
      · simp only [if_neg hko]
        focus
         refine zs <| zc rfl <| zy (.cltF rfl rfl (by omega)) <| zd <| zq <| zu rfl <| zx <| zs <| zc rfl <| zd <| zq <| zu rfl ?_
         refine zk <| zs <| zw rfl rfl <| yD rfl rfl (.of .rf) (r3IsKey_fn _ _) <| zc rfl <| zd <| zq <| zi rfl (fun h1 => ?_) (fun h1 => ?_)
         refine zs <| zg rfl <| zg rfl <| zc rfl <| yW rfl rfl rfl rfl rfl <| yW rfl rfl rfl rfl rfl <| zc rfl <| zd <| zr <| seqQ_r ?_
         rotate_left
         contradiction
        exact retQS (none, 0) (by (repeat (first | exact Rets.nil | apply Rets.t rfl | (apply Rets.cw rfl; (· (repeat (first | exact Has.here | assumption | apply Has.there))); (· rfl)) | (apply Rets.cv rfl; (· (repeat (first | exact Has.here | assumption | apply Has.there))))))) trivial rfl (Up.nilS (enc := hopC) (sz := 6) true (by decide) (.of (.t0 (.d (.d (.d (.d (.d .rf))))))))
end Go.Proofs.Ytgcmglieciaifaa
