/- Layer 11: the reference's lists, all of them: the functions. Conditions: none. -/
import Derived.Test.YtgcmglieciaifaaGt
import Derived.Test.YtgcmglieciaifaaGq
set_option linter.unusedSimpArgs false
set_option linter.unusedVariables false
set_option maxRecDepth 100000
set_option maxHeartbeats 4000000
namespace Go.SL
open Go
/-- The prefixes of a vector, as far as one. -/
def vpres (v : Vec) (k : Nat) : List Vec := (List.range k).map fun j : Nat => vpre v (j : Int)
theorem vpres_succ (v : Vec) (k : Nat) : vpres v (k + 1) = vpres v k ++ [vpre v (k : Int)] := by unfold vpres; rw [List.range_succ, List.map_append]; rfl
theorem vpres_len (v : Vec) (k : Nat) : (vpres v k).length = k := by simp [vpres]
theorem vpres_nth {v : Vec} {k j : Nat} (h : j < k) : nth (vpres v k) j = vpre v (j : Int) := by
  rw [nth_eq (by rw [vpres_len]; exact h)]; simp [vpres]
theorem vins_split {w : Vec} : ∀ {l : List Vec} {k : Nat}, k ≤ l.length → (∀ i, i < k → vlt (nth l i) w) → (k < l.length → ¬ vlt (nth l k) w ∧ nth l k ≠ w) → vins w l = l.take k ++ [w] ++ l.drop k
  | [], k, hk, _, _ => by
    obtain rfl : k = 0 := by simpa using hk
    rfl
  | y :: l, 0, _, _, h => by
    have := h (by simp)
    unfold vins; rw [if_neg (by simpa [nth] using this.1), if_neg (by simpa [nth] using this.2)]; rfl
  | y :: l, k + 1, hk, h1, h2 => by
    have h0 := h1 0 (by omega)
    unfold vins; rw [if_pos (by simpa [nth] using h0)]
    have := vins_split (w := w) (l := l) (k := k) (by simpa using hk) (fun i hi => by simpa [nth] using h1 (i + 1) (by omega)) (fun hk' => by simpa [nth] using h2 (by simpa using hk'))
    rw [this]; rfl
theorem vins_same {w : Vec} : ∀ {l : List Vec} {k : Nat}, k < l.length → (∀ i, i < k → vlt (nth l i) w) → nth l k = w → vins w l = l
  | [], _, hk, _, _ => absurd hk (Nat.not_lt_zero _)
  | y :: l, 0, _, _, h => by
    have e : y = w := by simpa [nth] using h
    unfold vins; rw [if_neg (by rw [e]; exact vlt_irrefl _), if_pos e]
  | y :: l, k + 1, hk, h1, h2 => by
    have h0 := h1 0 (by omega)
    unfold vins; rw [if_pos (by simpa [nth] using h0)]
    rw [vins_same (w := w) (l := l) (k := k) (by simpa using hk) (fun i hi => by simpa [nth] using h1 (i + 1) (by omega)) (by simpa [nth] using h2)]
theorem LsA.put {ys zs : List LsE} {y : LsE} (h : zs.Perm (y :: ys)) {r : List Assn} : Imp (lsO y :: LsA ys :: r) (LsA zs :: r) :=
  Imp.trans (sep_push (A := [])) (sep_perm' (h.symm.map lsO))
theorem with_facts {xs : List Ref} {out : List LsE} {k : Nat} (v : LsE) (hsp : vins v.w (out.map (·.w)) = (out.map (·.w)).take k ++ [v.w] ++ (out.map (·.w)).drop k) (ho : ∀ y ∈ out, y.l = gmem xs y.w) (hv : v.l = gmem xs v.w) :
    (([] : List LsE) ++ List.drop 0 (List.take k out) ++ [v] ++ List.drop k (List.take out.length out)).map (·.w) = vins v.w (out.map (·.w)) ∧ (∀ y ∈ ([] : List LsE) ++ List.drop 0 (List.take k out) ++ [v] ++ List.drop k (List.take out.length out), y.l = gmem xs y.w) ∧
      (([] : List LsE) ++ List.drop 0 (List.take k out) ++ [v] ++ List.drop k (List.take out.length out)).Perm (v :: out) := by
  have e : ([] : List LsE) ++ List.drop 0 (List.take k out) ++ [v] ++ List.drop k (List.take out.length out) = out.take k ++ (v :: out.drop k) := by simp
  rw [e]
  refine ⟨by rw [hsp]; simp [List.map_take, List.map_drop], fun y hy => ?_, ?_⟩
  · rcases List.mem_append.1 hy with hy | hy
    · exact ho y (List.mem_of_mem_take hy)
    · rcases List.mem_cons.1 hy with rfl | hy
      · exact hv
      · exact ho y (List.mem_of_mem_drop hy)
  · have := (List.perm_middle (a := v) (l₁ := out.take k) (l₂ := out.drop k))
    rwa [List.take_append_drop] at this
theorem nth_map_w {ys : List LsE} {i : Nat} (h : i < ys.length) : nth (ys.map (·.w)) i = (nth ys i).w := by
  rw [nth_eq (by simpa using h), nth_eq h, List.getElem_map]
end Go.SL
namespace Go.Proofs.Ytgcmglieciaifaa
open Go Go.SL
attribute [local irreducible] pc rc SlT Me Mt It pt ro pur ex sep old Meets
attribute [local irreducible] RowsA BysP GP LsA
theorem r1Prefixes_fn (v : Vec) (F : List Assn) (hv : vecG v) : Meets Try.prog 53 [vv v] F
    (Some' (fun _ : Option Addr × Nat => True) (fun x => .slice x.1 (vpres v (v.n + 1)).length x.2) (fun x => SlT true vecC 2 (.slice x.1 (vpres v (v.n + 1)).length x.2) x.2 (vpres v (v.n + 1)) :: F)) := by
  refine Meets.intro b53 k53 (by simp) ?_
  have hok := hv.1
  have hl := hv.len
  have hb := vbits_len v
  have hB := fun F => r1Bits_fn v F hv
  have hO : ∀ (k : Nat), k ≤ v.n → ∀ {a : Option Addr} {c : Nat} {F : List Assn} [HS F (.slice a (((List.map (fun b : Nat => (b : Int)) (vbits v)).take k).drop 0).length c) Int intE 1 c (((List.map (fun b : Nat => (b : Int)) (vbits v)).take k).drop 0)], Meets Try.prog 46 [.slice a (((List.map (fun b : Nat => (b : Int)) (vbits v)).take k).drop 0).length c] F (Det (vv (vpre v (k : Int))) F) := by
    intro k hk a c F Hs
    have e : ((List.map (fun b : Nat => (b : Int)) (vbits v)).take k).drop 0 = nI ((vbits v).take k) := by unfold nI; rw [List.map_take]; rfl
    rw [e] at Hs ⊢
    have := r1Of_fn (a := a) (c := c) (xs := (vbits v).take k) (F := F) (fun x hx => by
      rcases bits_bin _ _ x (List.mem_of_mem_take hx) with h | h <;> omega) (by rw [List.length_take]; omega)
    have e2 : ((vbits v).take k).length = k := by rw [List.length_take]; omega
    rw [e2, ofBits_pre hv hk] at this
    exact this
  focus
   refine zs <| yB rfl fun b1 => zc rfl <| zw rfl rfl <| yD rfl rfl (.of .rf) (r1Right_fn _ _) <| zc rfl <| zd <| zq <| zi rfl (fun h1 => ?_) (fun h1 => ?_)
   contradiction
   refine zk <| zs <| zc rfl <| zw rfl rfl <| yE rfl rfl (.of .rf) (hB _) fun ⟨a4, c4⟩ _ => zc rfl <| zd <| zq <| zb ?_
  dsimp only
  have hnl : (List.map (fun b : Nat => (b : Int)) (vbits v)).length = v.n := by simp [vbits_len]
  generalize (List.map (fun b : Nat => (b : Int)) (vbits v)) = B at *
  refine J.slF (enc := intE) (xs := B) (by (repeat (first | exact Has.here | assumption | apply Has.there))) (fun hc1 hc2 _ => ?_)
  refine J.lp (ι := Nat × Option Addr × Nat × List Vec) (fun i => i.1 ≤ v.n + 1 ∧ i.2.2.2 = vpres v i.1) (fun i => [(3, .slice i.2.1 i.2.2.2.length i.2.2.1), (5, i64 (i.1 : Int))]) (fun i => SlT true vecC 2 (.slice i.2.1 i.2.2.2.length i.2.2.1) i.2.2.1 i.2.2.2 :: SlT true intE 1 (.slice a4 B.length c4) c4 B :: F) (fun i => v.n + 1 - i.1) (0, none, 0, []) ⟨by simp, rfl⟩ (by exact subxR rfl) (Up.nilS (enc := vecC) (sz := 2) true (by decide) (.of (.t0 (.t0 (.d .rf))))) (fun i hi => ?_)
  obtain ⟨k, oa, oc, out⟩ := i
  obtain ⟨hk, ho⟩ := hi
  dsimp only at hk ho ⊢
  have hol : out.length = k := by rw [ho, vpres_len]
  by_cases hlt : k ≤ v.n
  · have hOk := fun {a : Option Addr} {c : Nat} {F : List Assn} [HS F (.slice a ((B.take k).drop 0).length c) Int intE 1 c ((B.take k).drop 0)] => hO k hlt (a := a) (c := c) (F := F)
    have hsu := vpres_succ v k
    focus
     refine zs <| zc rfl <| zy (.cleT rfl rfl (by omega)) <| zd <| zq <| zt rfl <| zk <| zq <| zb <| zo <| JT.V rfl .no (.c rfl) .no (by decide) (by omega) (by omega) (by omega) (by omega) fun a20 => yD rfl rfl (.of .rf) hOk ?_
     refine JT.bsl1 (by repeat (first | exact Cells.nil | apply Cells.z | (apply Cells.cl; rfl; rfl; rfl))) (by simp only [List.length_cons, List.length_nil, Nat.reduceAdd]; rfl) (by decide) (by rfl) fun a22 => ?_
     (refine JT.A1 rfl rfl (by rfl) rfl (by decide) (by omega) (fun a3 c3 hc3 => ?_))
     refine zd <| zo <| zy (.addN rfl rfl (by omega)) <| zd <| ⟨⟨_, ⟨_, ⟨_, _⟩⟩⟩, ?_, (by omega), (subxR rfl), (.of (.t0 (.t2 (.d (.d .rf)))))⟩
    exact ⟨by dsimp only; omega, by dsimp only; rw [hsu, ho]⟩
  · obtain rfl : k = v.n + 1 := by omega
    subst ho
    focus
     refine zs <| zc rfl <| zy (.cleF rfl rfl (by omega)) <| zd <| zq <| zu rfl <| zx <| zs <| zc rfl <| zd <| zr <| yQ ⟨_, _⟩ (.t rfl .nil) trivial rfl (.of (.t0 (.d .rf)))
theorem r11with_fn (h : Int) (w : Vec) {a1 a : Option Addr} {c1 c : Nat} {xs : List SL.Ref} (out : List LsE) {F : List Assn} [Hs : HS F (.slice a1 xs.length c1) SL.Ref refC 5 c1 xs] (hg : grOk h xs) (hb : ∀ r ∈ xs, 0 ≤ r.vec.bits) (hw : vecG w) (ho : ∀ y ∈ out, y.l = gmem xs y.w) (hol : out.length ≤ 100000) :
    Meets Try.prog 54 [.slice a out.length c, vv w, .slice a1 xs.length c1] (SlT true lsC 3 (.slice a out.length c) c out :: LsA out :: F)
      (Some' (fun x : Option Addr × Nat × List LsE => x.2.2.map (·.w) = vins w (out.map (·.w)) ∧ ∀ y ∈ x.2.2, y.l = gmem xs y.w) (fun x => .slice x.1 x.2.2.length x.2.1) (fun x => SlT true lsC 3 (.slice x.1 x.2.2.length x.2.1) x.2.1 x.2.2 :: LsA x.2.2 :: F)) := by
  refine Meets.intro b54 k54 (by simp) ?_
  have hM := fun {F : List Assn} [HS F (.slice a1 xs.length c1) SL.Ref refC 5 c1 xs] => r11members_ok h w (a1 := a1) (c1 := c1) (F := F) hg hb hw.2
  refine J.slF (enc := lsC) (xs := out) (by (repeat (first | exact Has.here | assumption | apply Has.there))) (fun hc1 hc2 _ => ?_)
  focus
   refine zs <| yB rfl fun b4 => zc rfl <| zc rfl <| zd <| zq <| zb ?_
  refine J.lp (ι := Nat) (fun k => k ≤ out.length ∧ ∀ j, j < k → vlt (nth out j).w w) (fun k => [(7, i64 (k : Int))]) (fun _ => SlT true lsC 3 (.slice a out.length c) c out :: LsA out :: pc b4 30 (vecC w) :: F) (fun k => out.length - k) 0 ⟨by omega, fun j hj => by omega⟩ (by exact subxR rfl) (.of (.t1 (.t1 (.t0 .rf)))) (fun k hk => ?_)
  obtain ⟨hk, hn⟩ := hk
  have hnw : ∀ i, i < k → vlt (nth (out.map (·.w)) i) w := fun i hi => by rw [nth_map_w (by omega)]; exact hn i hi
  by_cases hlt : k < out.length
  · have hC := fun F => r1Compare_fn (nth out k).w w F (nth out k).ok hw
    by_cases h0 : vcmp (nth out k).w w = 0
    · have hsame := vins_same (w := w) (l := out.map (·.w)) (k := k) (by simpa using hlt) hnw (by rw [nth_map_w hlt]; exact (vcmp_zero (nth out k).ok hw).1 h0)
      focus
       refine zs <| zc rfl <| zy (.cltT rfl rfl (by omega)) <| zd <| zq <| zt rfl <| zk <| zb <| zs <| zy (.iC rfl rfl (by omega)) <| zy (.fe rfl) <| zy (.LEf rfl (by omega) (by decide)) ?_
       refine zw rfl rfl <| yD rfl rfl (.of .rf) (hC _) <| zc rfl <| zc rfl <| zc rfl <| zy (.ceqT rfl rfl (by omega)) <| zd <| zq <| zt rfl <| zs <| zc rfl <| zd ?_
       refine zr <| seqQ_r <| blockQ_r <| seqQ_r <| blockQ_r <| seqQ_r ?_
      exact retQS (a, c, out) (by (repeat (first | exact Rets.nil | apply Rets.t rfl | (apply Rets.cw rfl; (· (repeat (first | exact Has.here | assumption | apply Has.there))); (· rfl)) | (apply Rets.cv rfl; (· (repeat (first | exact Has.here | assumption | apply Has.there))))))) ⟨hsame.symm, ho⟩ rfl (.of (.t0 (.t0 (.d .rf))))
    · by_cases h1 : vcmp (nth out k).w w < 0
      · have h2 : vlt (nth out k).w w := by rw [← vcmp_lt]; exact h1
        focus
         refine zs <| zc rfl <| zy (.cltT rfl rfl (by omega)) <| zd <| zq <| zt rfl <| zk <| zb <| zs <| zy (.iC rfl rfl (by omega)) <| zy (.fe rfl) <| zy (.LEf rfl (by omega) (by decide)) ?_
         refine zw rfl rfl <| yD rfl rfl (.of .rf) (hC _) <| zc rfl <| zc rfl <| zc rfl <| zy (.ceqF rfl rfl (by omega)) <| zd <| zq <| zu rfl <| zk <| zs <| zy (.cgtF rfl rfl (by omega)) ?_
         refine zd <| zq <| zu rfl <| zk <| zo <| zy (.addN rfl rfl (by omega)) <| zd <| ⟨_, ?_, (by omega), (subxR rfl), (.of (.t0 (.t0 (.t0 .rf))))⟩
        exact ⟨by omega, fun j hj => (Nat.lt_or_eq_of_le (Nat.le_of_lt_succ hj)).elim (hn j) (fun e => e ▸ h2)⟩
      · have hsp := vins_split (w := w) (l := out.map (·.w)) (k := k) (by simpa using hk) hnw (fun _ => by
          rw [nth_map_w hlt]
          exact ⟨fun h => h1 (by rw [vcmp_lt]; exact h), fun e => h0 ((vcmp_zero (nth out k).ok hw).2 e)⟩)
        focus
         refine zs <| zc rfl <| zy (.cltT rfl rfl (by omega)) <| zd <| zq <| zt rfl <| zk <| zb <| zs <| zy (.iC rfl rfl (by omega)) <| zy (.fe rfl) <| zy (.LEf rfl (by omega) (by decide)) ?_
         refine zw rfl rfl <| yD rfl rfl (.of .rf) (hC _) <| zc rfl <| zc rfl <| zc rfl <| zy (.ceqF rfl rfl (by omega)) <| zd <| zq <| zu rfl <| zk <| zs <| zy (.cgtT rfl rfl (by omega)) ?_
         refine zd <| zq <| zt rfl <| zx <| seqQ_x <| blockQ_miss rfl <| zs <| JT.V rfl .no (.c rfl) .no (by decide) (by omega) (by omega) (by omega) (by omega) fun a34 => zw rfl rfl <| zw rfl rfl <| JT.V rfl (.c rfl) .no .no (by decide) (by omega) (by omega) (by omega) (by omega) fun a45 => JT.b0 fun a31 => ?_
         (refine JT.A3 rfl rfl rfl (by decide) (by simp; omega) (fun a35 c35 hc35 => ?_))
         refine JT.yA rfl (Ev.Lw rfl rfl) <| JT.yA rfl (Ev.Lw rfl rfl) <| yE rfl rfl (.of .rf) hM fun ⟨a39, c39⟩ _ => JT.yA rfl (Ev.Lw rfl rfl) <| zg rfl <| JT.bsl1 (by repeat (first | exact Cells.nil | apply Cells.z | (apply Cells.cl; rfl; rfl; rfl))) (by simp only [List.length_cons, List.length_nil, Nat.reduceAdd]; rfl) (by decide) (by rfl) fun a41 => ?_
        dsimp only
        obtain ⟨q1, q2, q3⟩ := with_facts (xs := xs) (k := k) (⟨w, a39, c39, gmem xs w, hw⟩ : LsE) hsp ho rfl
        refine JT.A1 (v := (⟨w, a39, c39, gmem xs w, hw⟩ : LsE)) rfl rfl rfl rfl (by decide) (by simp; omega) (fun a4 c4 hc4 => ?_)
        focus
         (refine JT.A3 rfl rfl rfl (by decide) (by simp; omega) (fun a6 c6 hc6 => ?_))
         refine zd <| zr ?_
        exact retQS (a6, c6, _) (by (repeat (first | exact Rets.nil | apply Rets.t rfl | (apply Rets.cw rfl; (· (repeat (first | exact Has.here | assumption | apply Has.there))); (· rfl)) | (apply Rets.cv rfl; (· (repeat (first | exact Has.here | assumption | apply Has.there))))))) ⟨q1, q2⟩ rfl (Up.of (Imp.take (by (repeat (first | exact Has.here | assumption | apply Has.there))) (Imp.trans (Imp.take (c := lsO ⟨w, a39, c39, gmem xs w, hw⟩) (by (repeat (first | exact Has.here | assumption | apply Has.there))) (Imp.take (c := LsA out) (by (repeat (first | exact Has.here | assumption | apply Has.there))) (by (repeat (first | exact Imp.refl _ | (apply Imp.take; (· (repeat (first | exact Has.here | assumption | apply Has.there)))) | fail | apply Imp.dropT | exact Imp.nil _))))) (LsA.put q3))))
  · have hsp := vins_split (w := w) (l := out.map (·.w)) (k := k) (by simpa using hk) hnw (fun h => absurd h (by simpa using hlt))
    focus
     refine zs <| zc rfl <| zy (.cltF rfl rfl (by omega)) <| zd <| zq <| zu rfl <| zx <| zs <| JT.V rfl .no (.c rfl) .no (by decide) (by omega) (by omega) (by omega) (by omega) fun a34 => zw rfl rfl <| zw rfl rfl <| JT.V rfl (.c rfl) .no .no (by decide) (by omega) (by omega) (by omega) (by omega) fun a45 => ?_
     refine JT.b0 fun a31 => ?_
     (refine JT.A3 rfl rfl rfl (by decide) (by simp; omega) (fun a35 c35 hc35 => ?_))
     refine JT.yA rfl (Ev.Lw rfl rfl) <| JT.yA rfl (Ev.Lw rfl rfl) <| yE rfl rfl (.of .rf) hM fun ⟨a39, c39⟩ _ => JT.yA rfl (Ev.Lw rfl rfl) <| zg rfl <| JT.bsl1 (by repeat (first | exact Cells.nil | apply Cells.z | (apply Cells.cl; rfl; rfl; rfl))) (by simp only [List.length_cons, List.length_nil, Nat.reduceAdd]; rfl) (by decide) (by rfl) fun a41 => ?_
    dsimp only
    obtain ⟨q1, q2, q3⟩ := with_facts (xs := xs) (k := k) (⟨w, a39, c39, gmem xs w, hw⟩ : LsE) hsp ho rfl
    refine JT.A1 (v := (⟨w, a39, c39, gmem xs w, hw⟩ : LsE)) rfl rfl rfl rfl (by decide) (by simp; omega) (fun a4 c4 hc4 => ?_)
    focus
     (refine JT.A3 rfl rfl rfl (by decide) (by simp; omega) (fun a6 c6 hc6 => ?_))
     refine zd <| zr ?_
    exact retQS (a6, c6, _) (by (repeat (first | exact Rets.nil | apply Rets.t rfl | (apply Rets.cw rfl; (· (repeat (first | exact Has.here | assumption | apply Has.there))); (· rfl)) | (apply Rets.cv rfl; (· (repeat (first | exact Has.here | assumption | apply Has.there))))))) ⟨q1, q2⟩ rfl (Up.of (Imp.take (by (repeat (first | exact Has.here | assumption | apply Has.there))) (Imp.trans (Imp.take (c := lsO ⟨w, a39, c39, gmem xs w, hw⟩) (by (repeat (first | exact Has.here | assumption | apply Has.there))) (Imp.take (c := LsA out) (by (repeat (first | exact Has.here | assumption | apply Has.there))) (by (repeat (first | exact Imp.refl _ | (apply Imp.take; (· (repeat (first | exact Has.here | assumption | apply Has.there)))) | fail | apply Imp.dropT | exact Imp.nil _))))) (LsA.put q3))))
end Go.Proofs.Ytgcmglieciaifaa
