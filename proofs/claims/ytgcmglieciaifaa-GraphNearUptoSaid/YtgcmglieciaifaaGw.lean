/- Layer 11: the law GraphLists: what its function does. Conditions: none. -/
import Derived.Test.YtgcmglieciaifaaGv
set_option linter.unusedSimpArgs false
set_option linter.unusedVariables false
set_option maxRecDepth 100000
set_option maxHeartbeats 4000000
namespace Go.SL
open Go
theorem vins_len {w : Vec} : ∀ {l : List Vec}, (vins w l).length ≤ l.length + 1
  | [] => by simp [vins]
  | y :: l => by
    unfold vins
    have := vins_len (w := w) (l := l)
    split
    · simp; omega
    · split <;> simp
theorem vfold_len (r : Ref) (l : List Vec) : ∀ n, (vfold r n l).length ≤ l.length + n
  | 0 => by simp [vfold]
  | n + 1 => by rw [vfold_succ]; have := vins_len (w := vpre r.vec (n : Int)) (l := vfold r n l); have := vfold_len r l n; omega
theorem vall_len (xs : List Ref) (n : Nat) : ∀ k, k ≤ xs.length → (vall (xs.take k) n).length ≤ k * n
  | 0, _ => by simp [vall]
  | k + 1, hk => by
    rw [List.take_succ_eq_append_getElem (by omega), vall_snoc, Nat.succ_mul]
    have := vfold_len xs[k] (vall (xs.take k) n) n
    have := vall_len xs n k (by omega)
    omega
theorem LsA.take {ys : List LsE} {i : Nat} (h : i < ys.length) {r : List Assn} : Imp (LsA ys :: r) (lsO (nth ys i) :: LsA (ys.eraseIdx i) :: r) := sep_take (f := lsO) (by rw [nth_eq h]; exact List.getElem?_eq_getElem h)
theorem LsA.back {ys : List LsE} {i : Nat} (h : i < ys.length) {r : List Assn} : Imp (lsO (nth ys i) :: LsA (ys.eraseIdx i) :: r) (LsA ys :: r) := by
  have := sep_put (f := lsO) (l := ys) (i := i) (x := nth ys i) (y := nth ys i) (by rw [nth_eq h]; exact List.getElem?_eq_getElem h) (r := r)
  have e : ys.set i (nth ys i) = ys := by rw [nth_eq h]; exact List.set_getElem_self h
  rw [e] at this; exact this
theorem LsA.nil {r : List Assn} : Imp r (LsA [] :: r) := Imp.sep_in (cs := [])
end Go.SL
namespace Go.Proofs.Ytgcmglieciaifaa
open Go Go.SL
attribute [local irreducible] pc rc SlT Me Mt It pt ro pur ex sep old Meets
attribute [local irreducible] RowsA BysP GP LsA
theorem r11Lists_no (h : Int) {a1 : Option Addr} {c1 : Nat} {xs : List SL.Ref} {F : List Assn} [Hs : HS F (.slice a1 xs.length c1) SL.Ref refC 5 c1 xs] (hg : ¬ grOk h xs) : Meets Try.prog 24 [i64 h, .slice a1 xs.length c1] F (Det (.tuple #[.slice none 0 0, i64 110]) F) := by
  refine Meets.intro b24 k24 (by simp) ?_
  have hc : ∀ {F : List Assn} [HS F (.slice a1 xs.length c1) SL.Ref refC 5 c1 xs], Meets Try.prog 15 [i64 h, .slice a1 xs.length c1] F (Det (i64 110) F) := by
    intro F _
    have := r11Check_fn h (a1 := a1) (c1 := c1) (xs := xs) (F := F)
    unfold gE at this; rw [if_neg hg] at this; exact this
  focus
   refine zs <| zc rfl <| zc rfl <| yD rfl rfl (.of .rf) hc <| zy (.cneT rfl rfl (by decide)) <| zd <| zq <| zt rfl <| zs <| zc rfl <| zc rfl <| zd ?_
   refine zr <| yR (.t rfl (.t rfl .nil)) rfl (.of .rf)
theorem r11Lists_ok (h : Int) {a1 : Option Addr} {c1 : Nat} {xs : List SL.Ref} {F : List Assn} [Hs : HS F (.slice a1 xs.length c1) SL.Ref refC 5 c1 xs] (hg : grOk h xs) (hb : ∀ r ∈ xs, 0 ≤ r.vec.bits) : Meets Try.prog 24 [i64 h, .slice a1 xs.length c1] F
    (Some' (fun x : Option Addr × Nat × List LsE => x.2.2.map (·.w) = glists h xs ∧ ∀ y ∈ x.2.2, y.l = gmem xs y.w) (fun x => .tuple #[.slice x.1 x.2.2.length x.2.1, i64 0]) (fun x => SlT true lsC 3 (.slice x.1 x.2.2.length x.2.1) x.2.1 x.2.2 :: LsA x.2.2 :: F)) := by
  refine Meets.intro b24 k24 (by simp) ?_
  have hc : ∀ {F : List Assn} [HS F (.slice a1 xs.length c1) SL.Ref refC 5 c1 xs], Meets Try.prog 15 [i64 h, .slice a1 xs.length c1] F (Det (i64 0) F) := by
    intro F _
    have := r11Check_fn h (a1 := a1) (c1 := c1) (xs := xs) (F := F)
    unfold gE at this; rw [if_pos hg] at this; exact this
  have hG := pre_G hg hb
  have hW := fun {a : Option Addr} {c : Nat} (w : Vec) (out : List LsE) {F : List Assn} [HS F (.slice a1 xs.length c1) SL.Ref refC 5 c1 xs] (hw : vecG w) ho hl => r11with_fn h w (a := a) (c := c) (a1 := a1) (c1 := c1) out (F := F) hg hb hw ho hl
  have hxl := hg.len
  have h32 := hg.h32
  unfold glists
  refine J.imp LsA.nil ?_
  focus
   refine zs <| zc rfl <| zc rfl <| yD rfl rfl (.of .rf) hc <| zy (.cneF rfl rfl (by decide)) <| zd <| zq <| zu rfl <| zk <| zs <| zc rfl <| zc rfl ?_
   refine zd <| zq <| zb ?_
  refine J.lp (ι := Nat × Option Addr × Nat × List LsE) (fun i => i.1 ≤ xs.length ∧ i.2.2.2.map (·.w) = vall (xs.take i.1) (h.toNat + 1) ∧ ∀ y ∈ i.2.2.2, y.l = gmem xs y.w) (fun i => [(6, .slice i.2.1 i.2.2.2.length i.2.2.1), (7, i64 (i.1 : Int))])
    (fun i => SlT true lsC 3 (.slice i.2.1 i.2.2.2.length i.2.2.1) i.2.2.1 i.2.2.2 :: LsA i.2.2.2 :: F) (fun i => xs.length - i.1) (0, none, 0, []) ⟨by simp, by simp [vall], by simp⟩ (by exact subxR rfl) (Up.nilS (enc := lsC) (sz := 3) true (by decide) (.of (.t0 (.t0 .rf)))) (fun i hi => ?_)
  obtain ⟨i, oa, oc, out⟩ := i
  obtain ⟨hi, ho1, ho2⟩ := hi
  dsimp only at hi ho1 ho2 ⊢
  by_cases hlt : i < xs.length
  · have hr : nth xs i ∈ xs := by rw [nth_eq hlt]; exact List.getElem_mem hlt
    have hm := hg.mem _ hr
    have hvG : vecG (nth xs i).vec := ⟨hm.2.2.2.1, hb _ hr⟩
    have hn : (nth xs i).vec.n = h.toNat := by unfold Vec.n; rw [hm.2.2.2.2]
    have hT : vall (xs.take (i + 1)) (h.toNat + 1) = vfold (nth xs i) (h.toNat + 1) (vall (xs.take i) (h.toNat + 1)) := by rw [List.take_succ_eq_append_getElem hlt, vall_snoc, nth_eq hlt]
    have hGi := hG _ hr
    have hvl := vall_len xs (h.toNat + 1) i (by omega)
    have hP := fun F => r1Prefixes_fn (nth xs i).vec F hvG
    rw [hn] at hP
    focus
     refine zs <| zc rfl <| zy (.cltT rfl rfl (by omega)) <| zd <| zq <| zt rfl <| zk <| zq <| zb <| zs <| zy (.iC rfl rfl (by omega)) <| zy (.fe rfl) ?_
     refine zy (.LEf rfl (by omega) (by decide)) <| yE rfl rfl (.of .rf) (hP _) fun ⟨a8, c8⟩ _ => zc rfl <| zd <| zb ?_
    refine J.lp (ι := Nat × Option Addr × Nat × List LsE) (fun j => j.1 ≤ h.toNat + 1 ∧ j.2.2.2.map (·.w) = vfold (nth xs i) j.1 (vall (xs.take i) (h.toNat + 1)) ∧ ∀ y ∈ j.2.2.2, y.l = gmem xs y.w) (fun j => [(6, .slice j.2.1 j.2.2.2.length j.2.2.1), (9, i64 (j.1 : Int))])
      (fun j => SlT true lsC 3 (.slice j.2.1 j.2.2.2.length j.2.2.1) j.2.2.1 j.2.2.2 :: LsA j.2.2.2 :: SlT true vecC 2 (.slice a8 (vpres (nth xs i).vec (h.toNat + 1)).length c8) c8 (vpres (nth xs i).vec (h.toNat + 1)) :: F) (fun j => h.toNat + 1 - j.1) (0, oa, oc, out) ⟨by simp, ho1, ho2⟩ (by exact subxR rfl) (.of (.t1 (.t1 (.t0 .rf)))) (fun j hj => ?_)
    obtain ⟨j, pa, pc', out2⟩ := j
    obtain ⟨hj, hp1, hp2⟩ := hj
    dsimp only at hj hp1 hp2 ⊢
    have hpl := vpres_len (nth xs i).vec (h.toNat + 1)
    by_cases hjl : j < h.toNat + 1
    · have hw := hGi j hjl
      have hnp := vpres_nth (v := (nth xs i).vec) hjl
      have hl2 : out2.length ≤ 100000 := by
        have e1 : out2.length = (vfold (nth xs i) j (vall (xs.take i) (h.toNat + 1))).length := by rw [← hp1]; simp
        have e2 := vfold_len (nth xs i) (vall (xs.take i) (h.toNat + 1)) j
        have e3 : i * (h.toNat + 1) ≤ 1022 * 33 := Nat.mul_le_mul (by omega) (by omega)
        omega
      have hWj := fun {a : Option Addr} {c : Nat} {F : List Assn} [HS F (.slice a1 xs.length c1) SL.Ref refC 5 c1 xs] => hW (a := a) (c := c) (vpre (nth xs i).vec (j : Int)) out2 (F := F) hw hp2 hl2
      rw [← hnp] at hWj
      have hsu := vfold_succ (nth xs i) j (vall (xs.take i) (h.toNat + 1))
      rw [← hnp] at hsu
      clear hW
      focus
       refine zs <| zc rfl <| zy (.cltT rfl rfl (by omega)) <| zd <| zq <| zt rfl <| zk <| zq <| zb <| zo <| zy (.iC rfl rfl (by omega)) <| zy (.LE rfl (by omega)) ?_
       refine yE rfl rfl (.of (.t0 (.t0 .rf))) hWj fun ⟨a6, c6⟩ hx6 => zd <| zo <| zy (.addN rfl rfl (by omega)) <| zd <| ⟨⟨_, ⟨_, ⟨_, _⟩⟩⟩, ?_, (by omega), (subxR rfl), (.of (.t0 (.t0 (.t0 .rf))))⟩
      exact ⟨by dsimp only; omega, by dsimp only; rw [hsu, ← hp1]; exact hx6.1, hx6.2⟩
    · have ej : j = h.toNat + 1 := by omega
      rw [ej] at hp1
      focus
       refine zs <| zc rfl <| zy (.cltF rfl rfl (by omega)) <| zd <| zq <| zu rfl <| zx <| zo <| zy (.addN rfl rfl (by omega)) <| zd <| ⟨⟨_, ⟨_, ⟨_, _⟩⟩⟩, ?_, (by omega), (subxR rfl), (.of (.t0 (.t0 (.d .rf))))⟩
      exact ⟨by dsimp only; omega, by dsimp only; rw [hT]; exact hp1, hp2⟩
  · have e : xs.take i = xs := List.take_of_length_le (by omega)
    rw [e] at ho1
    focus
     refine zs <| zc rfl <| zy (.cltF rfl rfl (by omega)) <| zd <| zq <| zu rfl <| zx <| zs <| zc rfl <| zc rfl <| zd <| zr ?_
    exact retQS (oa, oc, out) (by (repeat (first | exact Rets.nil | apply Rets.t rfl | (apply Rets.cw rfl; (· (repeat (first | exact Has.here | assumption | apply Has.there))); (· rfl)) | (apply Rets.cv rfl; (· (repeat (first | exact Has.here | assumption | apply Has.there))))))) ⟨ho1, ho2⟩ rfl (.of (.t0 (.t0 .rf)))
theorem r11Same_nn {F : List Assn} : Meets Try.prog 26 [.slice none 0 0, .slice none 0 0] F (Det (.bool true) F) := by
  have hs : HS (SlT true refC 5 (.slice none 0 0) 0 ([] : List SL.Ref) :: F) (.slice none ([] : List SL.Ref).length 0) SL.Ref refC 5 0 [] := (inferInstance : HS (SlT true refC 5 (.slice none 0 0) 0 ([] : List SL.Ref) :: F) (.slice none 0 0) SL.Ref refC 5 0 [])
  refine (Meets.up (Up.nilS (enc := refC) (sz := 5) true (by decide) (Up.refl _)) (r11Same_fn (F := SlT true refC 5 (.slice none 0 0) 0 ([] : List SL.Ref) :: F) (xs := []) (ys := []) (a1 := none) (c1 := 0) (a2 := none) (c2 := 0))).post ?_
  rintro v c ⟨rfl, rfl⟩
  exact ⟨_, Up.of Imp.drop, rfl, rfl⟩
theorem GraphLists_fn (h : Int) (w : Vec) {a1 : Option Addr} {c1 : Nat} {xs : List SL.Ref} (hw : 0 ≤ w.bits) (hx : ∀ r ∈ xs, 0 ≤ r.vec.bits) (F : List Assn) :
    Meets Try.prog 8 [i64 h, vv w, .slice a1 xs.length c1] (SlT false refC 5 (.slice a1 xs.length c1) c1 xs :: F) (Det (.bool true) (SlT false refC 5 (.slice a1 xs.length c1) c1 xs :: F)) := by
  refine Meets.intro b8 k8 (by simp) ?_
  have hf := few_pos hx
  generalize hys : xs.take 12 = ys at hf
  have hfw := fun F => l11few_fn (a := a1) (c := c1) (xs := xs) F
  rw [hys] at hfw
  by_cases hg : grOk h ys
  · have hL := fun {a : Option Addr} {c : Nat} {F : List Assn} [HS F (.slice a ys.length c) SL.Ref refC 5 c ys] => gLists_ok h (a1 := a) (c1 := c) (xs := ys) (F := F) hg hf
    have hR := fun {a : Option Addr} {c : Nat} {F : List Assn} [HS F (.slice a ys.length c) SL.Ref refC 5 c ys] => r11Lists_ok h (a1 := a) (c1 := c) (xs := ys) (F := F) hg hf
    by_cases hm : gmay h w
    · have hMa := fun {a : Option Addr} {c : Nat} {F : List Assn} [HS F (.slice a ys.length c) SL.Ref refC 5 c ys] => gMembers_ok h w (a1 := a) (c1 := c) (xs := ys) (F := F) hg hf hm
      have hMb := fun {a : Option Addr} {c : Nat} {F : List Assn} [HS F (.slice a ys.length c) SL.Ref refC 5 c ys] => r11Members_ok h w (a1 := a) (c1 := c) (xs := ys) (F := F) hg hf hw hm
      focus
       refine zs <| yB rfl fun b4 => zc rfl <| yE rfl rfl (.of (.t1 .rf)) (hfw _) fun ⟨a2, c2⟩ _ => zw rfl rfl <| yE rfl rfl (.of .rf) hMa fun ⟨a22, c22⟩ _ => zc rfl <| zc rfl <| zw rfl rfl <| yE rfl rfl (.of .rf) hMb fun ⟨a29, c29⟩ _ => zc rfl <| zc rfl ?_
       refine yE rfl rfl (.of .rf) hL fun ⟨a35, c35⟩ hx35 => zc rfl <| zc rfl <| zc rfl <| yE rfl rfl (.of .rf) hR fun ⟨a41, c41⟩ hx41 => zc rfl <| zc rfl <| zc rfl <| yD rfl rfl (.of .rf) (gCheck_fn _) <| yD rfl rfl (.of .rf) (r11Check_fn _) <| zy (.cneF rfl rfl (by omega)) <| yG rfl ?_
       refine yD rfl rfl (.of .rf) r11Same_fn <| yG rfl <| zc rfl <| zy (.pickF rfl rfl) <| zh rfl rfl (fun h1 => .cneF rfl rfl (by decide)) <| zy (.pickO rfl rfl rfl) <| zh rfl rfl (fun h1 => .cneF rfl rfl (by decide)) <| zy (.pickO rfl rfl rfl) <| zh rfl rfl (fun h1 => .calc rfl) <| zh rfl rfl (fun h1 => .calc rfl) <| zh rfl rfl (fun h1 => by rw [h1]; exact .int rfl rfl rfl) <| zy (.pickO rfl rfl rfl) ?_
       refine zd <| zq <| zi rfl (fun h1 => ?_) (fun h1 => ?_)
       refine zs <| zc rfl <| zd <| zr <| yR (.t rfl .nil) ?_ (.of (.tk (.there (.there (.there (.there (.there (.there (.there .here))))))) (.d (.d (.d (.d (.d (.d (.d (.d .rf))))))))))
       rotate_left
       refine zk <| zs <| zc rfl <| zd <| zq <| zb ?_
       rotate_left
      · exfalso
        have e1 := congrArg List.length hx35.1
        have e2 := congrArg List.length hx41.1
        rw [List.length_map] at e1 e2
        have e3 : (a35, c35).2.2.length = (a41, c41).2.2.length := e1.trans e2.symm
        first | exact h1.elim (fun h => h rfl) (fun h => h (by rw [e3])) | exact h1 (by rw [e3])
      · obtain ⟨ca, xa⟩ := c35
        obtain ⟨cb, xb⟩ := c41
        obtain ⟨p1, p2⟩ := hx35
        obtain ⟨q1, q2⟩ := hx41
        dsimp only at p1 p2 q1 q2 ⊢
        have hll : xa.length = xb.length := by
          have e1 := congrArg List.length p1
          have e2 := congrArg List.length q1
          rw [List.length_map] at e1 e2; omega
        have hwi : ∀ i, i < xa.length → (nth xa i).w = (nth xb i).w := fun i hi => by
          rw [← nth_map_w hi, ← nth_map_w (by omega), p1, q1]
        have hli : ∀ i, i < xa.length → (nth xa i).l = (nth xb i).l := fun i hi => by
          rw [p2 _ (by rw [nth_eq hi]; exact List.getElem_mem hi), q2 _ (by rw [nth_eq (by omega : i < xb.length)]; exact List.getElem_mem _), hwi i hi]
        refine J.slF (enc := lsC) (xs := xb) (by (repeat (first | exact Has.here | assumption | apply Has.there))) (fun hb1 hb2 _ => ?_)
        refine J.lp (ι := Nat) (fun i => i ≤ xb.length) (fun i => [(15, i64 (i : Int))]) (fun _ => SlT true lsC 3 (.slice a41 xb.length cb) cb xb :: LsA xb :: SlT true lsC 3 (.slice a35 xa.length ca) ca xa :: LsA xa :: SlT false refC 5 (.slice a1 xs.length c1) c1 xs :: F) (fun i => xb.length - i) 0 (by omega) (by exact subxR rfl) (.of (.t0 (.t0 (.t0 (.t0 (.t3 (.d (.d (.d (.d .rf)))))))))) (fun i hi => ?_)
        by_cases hlt : i < xb.length
        · have e1 := hwi i (by omega)
          have e2 := hli i (by omega)
          refine J.imp (Imp.trans (Imp.take (c := LsA xa) (by (repeat (first | exact Has.here | assumption | apply Has.there))) (Imp.refl _)) (LsA.take (i := i) (by omega))) ?_
          refine J.imp (Imp.trans (Imp.take (c := LsA xb) (by (repeat (first | exact Has.here | assumption | apply Has.there))) (Imp.refl _)) (LsA.take (i := i) hlt)) ?_
          unfold lsO
          focus
           refine zs <| zc rfl <| zy (.cltT rfl rfl (by omega)) <| zd <| zq <| zt rfl <| zk <| zq <| zb <| zs <| zy (.iC rfl rfl (by omega)) <| zy (.fe rfl) ?_
           refine zy (.LEf rfl (by omega) (by decide)) <| zy (.iC rfl rfl (by omega)) <| zy (.fe rfl) <| zy (.LEf rfl (by omega) (by decide)) <| zy (.neTf rfl rfl (by assumption)) <| yG rfl <| zy (.iC rfl rfl (by omega)) <| yG rfl <| zy (.fe rfl) <| yG rfl <| zy (.LE1 rfl (by omega) rfl (by decide)) <| yG rfl ?_
           refine zy (.iC rfl rfl (by omega)) <| yG rfl <| zy (.fe rfl) <| yG rfl <| zy (.LE1 rfl (by omega) rfl (by decide)) <| yG rfl <| yD rfl rfl (.of .rf) r11Same_fn <| yG rfl <| zc rfl <| zy (.pickF rfl rfl) <| zd <| zi rfl (fun h2 => ?_) (fun h2 => ?_)
           contradiction
           refine zk <| zo <| zy (.addN rfl rfl (by omega)) <| zd <| seqQ_n ?_
          exact ⟨i + 1, by omega, by omega, by exact subxR rfl, Up.of (Imp.trans (Imp.take (c := lsO (nth xb i)) (by (repeat (first | exact Has.here | assumption | apply Has.there))) (Imp.take (c := LsA (xb.eraseIdx i)) (by (repeat (first | exact Has.here | assumption | apply Has.there))) (Imp.refl _))) (Imp.trans (LsA.back hlt) (Imp.trans (Imp.take (c := lsO (nth xa i)) (by (repeat (first | exact Has.here | assumption | apply Has.there))) (Imp.take (c := LsA (xa.eraseIdx i)) (by (repeat (first | exact Has.here | assumption | apply Has.there))) (Imp.refl _))) (Imp.trans (LsA.back (by omega)) (by (repeat (first | exact Imp.refl _ | (apply Imp.take; (· (repeat (first | exact Has.here | assumption | apply Has.there)))) | fail | apply Imp.dropT | exact Imp.nil _)))))))⟩
        · focus
           refine zs <| zc rfl <| zy (.cltF rfl rfl (by omega)) <| zd <| zq <| zu rfl <| zx <| zs <| yD rfl rfl (.of .rf) (l11alive_fn _) <| zd <| zr <| yR (.t rfl .nil) rfl (.of (.t4 (.d (.d (.d (.d .rf))))))
    · have hMa := fun {a : Option Addr} {c : Nat} {F : List Assn} [HS F (.slice a ys.length c) SL.Ref refC 5 c ys] => gMembers_vec h w (a1 := a) (c1 := c) (xs := ys) (F := F) hg hf hm
      have hMb := fun {a : Option Addr} {c : Nat} {F : List Assn} [HS F (.slice a ys.length c) SL.Ref refC 5 c ys] => r11Members_vec h w (a1 := a) (c1 := c) (xs := ys) (F := F) hg hm
      focus
       refine zs <| yB rfl fun b4 => zc rfl <| yE rfl rfl (.of (.t1 .rf)) (hfw _) fun ⟨a2, c2⟩ _ => zw rfl rfl <| yD rfl rfl (.of .rf) hMa <| zc rfl <| zc rfl <| zw rfl rfl <| yD rfl rfl (.of .rf) hMb <| zc rfl <| zc rfl ?_
       refine yE rfl rfl (.of .rf) hL fun ⟨a35, c35⟩ hx35 => zc rfl <| zc rfl <| zc rfl <| yE rfl rfl (.of .rf) hR fun ⟨a41, c41⟩ hx41 => zc rfl <| zc rfl <| zc rfl <| yD rfl rfl (.of .rf) (gCheck_fn _) <| yD rfl rfl (.of .rf) (r11Check_fn _) <| zy (.cneF rfl rfl (by omega)) <| yG rfl ?_
       refine yD rfl rfl (.of .rf) r11Same_nn <| yG rfl <| zc rfl <| zy (.pickF rfl rfl) <| yG rfl <| zy (.cneF rfl rfl (by decide)) <| zy (.pickF rfl rfl) <| yG rfl <| zy (.cneF rfl rfl (by decide)) <| zy (.pickF rfl rfl) <| yG rfl <| zc rfl ?_
       refine yG rfl <| zc rfl <| yG rfl <| zj rfl rfl rfl <| zy (.pickF rfl rfl) <| zd <| zq <| zi rfl (fun h1 => ?_) (fun h1 => ?_)
       refine zs <| zc rfl <| zd <| zr <| yR (.t rfl .nil) ?_ (.of (.t5 (.d (.d (.d (.d (.d (.d .rf))))))))
       rotate_left
       refine zk <| zs <| zc rfl <| zd <| zq <| zb ?_
       rotate_left
      · exfalso
        have e1 := congrArg List.length hx35.1
        have e2 := congrArg List.length hx41.1
        rw [List.length_map] at e1 e2
        have e3 : (a35, c35).2.2.length = (a41, c41).2.2.length := e1.trans e2.symm
        first | exact h1.elim (fun h => h rfl) (fun h => h (by rw [e3])) | exact h1 (by rw [e3])
      · obtain ⟨ca, xa⟩ := c35
        obtain ⟨cb, xb⟩ := c41
        obtain ⟨p1, p2⟩ := hx35
        obtain ⟨q1, q2⟩ := hx41
        dsimp only at p1 p2 q1 q2 ⊢
        have hll : xa.length = xb.length := by
          have e1 := congrArg List.length p1
          have e2 := congrArg List.length q1
          rw [List.length_map] at e1 e2; omega
        have hwi : ∀ i, i < xa.length → (nth xa i).w = (nth xb i).w := fun i hi => by
          rw [← nth_map_w hi, ← nth_map_w (by omega), p1, q1]
        have hli : ∀ i, i < xa.length → (nth xa i).l = (nth xb i).l := fun i hi => by
          rw [p2 _ (by rw [nth_eq hi]; exact List.getElem_mem hi), q2 _ (by rw [nth_eq (by omega : i < xb.length)]; exact List.getElem_mem _), hwi i hi]
        refine J.slF (enc := lsC) (xs := xb) (by (repeat (first | exact Has.here | assumption | apply Has.there))) (fun hb1 hb2 _ => ?_)
        refine J.lp (ι := Nat) (fun i => i ≤ xb.length) (fun i => [(15, i64 (i : Int))]) (fun _ => SlT true lsC 3 (.slice a41 xb.length cb) cb xb :: LsA xb :: SlT true lsC 3 (.slice a35 xa.length ca) ca xa :: LsA xa :: SlT false refC 5 (.slice a1 xs.length c1) c1 xs :: F) (fun i => xb.length - i) 0 (by omega) (by exact subxR rfl) (.of (.t0 (.t0 (.t0 (.t0 (.t1 (.d (.d .rf)))))))) (fun i hi => ?_)
        by_cases hlt : i < xb.length
        · have e1 := hwi i (by omega)
          have e2 := hli i (by omega)
          refine J.imp (Imp.trans (Imp.take (c := LsA xa) (by (repeat (first | exact Has.here | assumption | apply Has.there))) (Imp.refl _)) (LsA.take (i := i) (by omega))) ?_
          refine J.imp (Imp.trans (Imp.take (c := LsA xb) (by (repeat (first | exact Has.here | assumption | apply Has.there))) (Imp.refl _)) (LsA.take (i := i) hlt)) ?_
          unfold lsO
          focus
           refine zs <| zc rfl <| zy (.cltT rfl rfl (by omega)) <| zd <| zq <| zt rfl <| zk <| zq <| zb <| zs <| zy (.iC rfl rfl (by omega)) <| zy (.fe rfl) ?_
           refine zy (.LEf rfl (by omega) (by decide)) <| zy (.iC rfl rfl (by omega)) <| zy (.fe rfl) <| zy (.LEf rfl (by omega) (by decide)) <| zy (.neTf rfl rfl (by assumption)) <| yG rfl <| zy (.iC rfl rfl (by omega)) <| yG rfl <| zy (.fe rfl) <| yG rfl <| zy (.LE1 rfl (by omega) rfl (by decide)) <| yG rfl ?_
           refine zy (.iC rfl rfl (by omega)) <| yG rfl <| zy (.fe rfl) <| yG rfl <| zy (.LE1 rfl (by omega) rfl (by decide)) <| yG rfl <| yD rfl rfl (.of .rf) r11Same_fn <| yG rfl <| zc rfl <| zy (.pickF rfl rfl) <| zd <| zi rfl (fun h2 => ?_) (fun h2 => ?_)
           contradiction
           refine zk <| zo <| zy (.addN rfl rfl (by omega)) <| zd <| seqQ_n ?_
          exact ⟨i + 1, by omega, by omega, by exact subxR rfl, Up.of (Imp.trans (Imp.take (c := lsO (nth xb i)) (by (repeat (first | exact Has.here | assumption | apply Has.there))) (Imp.take (c := LsA (xb.eraseIdx i)) (by (repeat (first | exact Has.here | assumption | apply Has.there))) (Imp.refl _))) (Imp.trans (LsA.back hlt) (Imp.trans (Imp.take (c := lsO (nth xa i)) (by (repeat (first | exact Has.here | assumption | apply Has.there))) (Imp.take (c := LsA (xa.eraseIdx i)) (by (repeat (first | exact Has.here | assumption | apply Has.there))) (Imp.refl _))) (Imp.trans (LsA.back (by omega)) (by (repeat (first | exact Imp.refl _ | (apply Imp.take; (· (repeat (first | exact Has.here | assumption | apply Has.there)))) | fail | apply Imp.dropT | exact Imp.nil _)))))))⟩
        · focus
           refine zs <| zc rfl <| zy (.cltF rfl rfl (by omega)) <| zd <| zq <| zu rfl <| zx <| zs <| yD rfl rfl (.of .rf) (l11alive_fn _) <| zd <| zr <| yR (.t rfl .nil) rfl (.of (.t4 (.d (.d (.d (.d .rf))))))
  · have hL := fun {a : Option Addr} {c : Nat} {F : List Assn} [HS F (.slice a ys.length c) SL.Ref refC 5 c ys] => gLists_no h (a1 := a) (c1 := c) (xs := ys) (F := F) hg
    have hR := fun {a : Option Addr} {c : Nat} {F : List Assn} [HS F (.slice a ys.length c) SL.Ref refC 5 c ys] => r11Lists_no h (a1 := a) (c1 := c) (xs := ys) (F := F) hg
    have hMa := fun {a : Option Addr} {c : Nat} {F : List Assn} [HS F (.slice a ys.length c) SL.Ref refC 5 c ys] => gMembers_no h w (a1 := a) (c1 := c) (xs := ys) (F := F) hg
    have hMb := fun {a : Option Addr} {c : Nat} {F : List Assn} [HS F (.slice a ys.length c) SL.Ref refC 5 c ys] => r11Members_no h w (a1 := a) (c1 := c) (xs := ys) (F := F) hg
    refine J.nilS lsC 3 true (by decide) ?_
    focus
     refine zs <| yB rfl fun b4 => zc rfl <| yE rfl rfl (.of (.t2 .rf)) (hfw _) fun ⟨a2, c2⟩ _ => zw rfl rfl <| yD rfl rfl (.of .rf) hMa <| zc rfl <| zc rfl <| zw rfl rfl <| yD rfl rfl (.of .rf) hMb <| zc rfl <| zc rfl ?_
     refine yD rfl rfl (.of .rf) hL <| zc rfl <| zc rfl <| zc rfl <| yD rfl rfl (.of .rf) hR <| zc rfl <| zc rfl <| zc rfl <| yD rfl rfl (.of .rf) (gCheck_fn _) <| yD rfl rfl (.of .rf) (r11Check_fn _) <| zy (.cneF rfl rfl (by omega)) <| yG rfl ?_
     refine yD rfl rfl (.of .rf) r11Same_nn <| yG rfl <| zc rfl <| zy (.pickF rfl rfl) <| yG rfl <| zy (.cneF rfl rfl (by decide)) <| zy (.pickF rfl rfl) <| yG rfl <| zy (.cneF rfl rfl (by decide)) <| zy (.pickF rfl rfl) <| yG rfl <| zc rfl ?_
     refine yG rfl <| zc rfl <| yG rfl <| zy (.cneF rfl rfl (by omega)) <| zy (.pickF rfl rfl) <| zd <| zq <| zu rfl <| zk <| zs <| zc rfl <| zd ?_
     refine zq <| zb ?_
    refine J.lp (ι := Unit) (fun _ => True) (fun _ => [(15, i64 0)]) (fun _ => _) (fun _ => 0) () trivial (by exact subxR rfl) (Up.refl _) (fun _ _ => ?_)
    focus
     refine zs <| zc rfl <| zy (.cltF rfl rfl (by omega)) <| zd <| zq <| zu rfl <| zx <| zs <| yD rfl rfl (.of .rf) (l11alive_fn _) <| zd <| zr <| yR (.t rfl .nil) rfl (.of (.t1 (.d (.d (.d .rf)))))
end Go.Proofs.Ytgcmglieciaifaa
