/- The law LinkSorted: what its function does. Conditions: none. -/
import Derived.Test.YtnipmjpdklbbcaaMb
import Derived.Test.YtnipmjpdklbbcaaMc
import Derived.Test.YtnipmjpdklbbcaaKf
set_option linter.unusedSimpArgs false
set_option linter.unusedVariables false
set_option maxRecDepth 100000
set_option maxHeartbeats 4000000
namespace Go.Proofs.Ytnipmjpdklbbcaa
open Go Go.SL
attribute [local irreducible] pc rc SlT Me Mt It pt ro pur ex sep old Meets
attribute [local irreducible] LockP RecP RecsA LinksP LinksH WaitsA

instance : FS recEC 2 5 refC (fun x => x.s.left) := ⟨fun _ => rfl⟩
instance : FS recEC 7 5 refC (fun x => x.s.right) := ⟨fun _ => rfl⟩
instance : FS recEC 0 2 vecC (fun x => x.s.w) := ⟨fun _ => rfl⟩
theorem r2Check_fn (k : Key) (F : List Assn) : Meets Try.prog 33 [kv k] F (Det (i64 (kCE k)) F) := by
  refine Meets.intro b33 k33 (by simp) ?_
  focus
   refine zs <| yB rfl fun b1 => zc rfl <| zfl rfl rfl rfl <| zj rfl rfl rfl <| zh rfl rfl (fun h1 => .fa' 0 rfl rfl) <| zh rfl rfl (fun h1 => by rw [h1]; exact .L rfl rfl) <| zh rfl rfl (fun h1 => by rw [h1]; exact .int rfl rfl rfl) <| zh rfl rfl (fun h1 => by rw [h1]; exact .calc rfl) <| JT.yh2 rfl rfl (fun h1 h1' => Ev.fa' 0 rfl rfl) <| JT.yh2 rfl rfl (fun h1 h1' => by rw [h1, h1']; exact .L rfl rfl) <| JT.yh2 rfl rfl (fun h1 h1' => by rw [h1, h1']; exact .int rfl rfl rfl) ?_
   refine zh rfl rfl (fun h1 => by rw [h1]; exact .pickO rfl rfl rfl) <| zh rfl rfl (fun h1 => by rw [h1]; exact .calc rfl) <| JT.yg2 rfl rfl (fun h1 h1' => Ev.fa' 1 rfl rfl) <| JT.yg2 rfl rfl (fun h1 h1' => by rw [h1, h1']; exact .L rfl rfl) <| JT.yg2 rfl rfl (fun h1 h1' => by rw [h1, h1']; exact .int rfl rfl rfl) <| zh rfl rfl (fun h1 => by rw [h1]; exact .pickA rfl rfl rfl) <| zy (.pickO rfl rfl rfl) <| zd <| zq <| zi rfl (fun h1 => ?_) (fun h1 => ?_)
   refine zs <| zc rfl <| zd <| zr <| yR (.t rfl .nil) ?_ (.of (.d .rf))
   rotate_left
   refine zk <| zs <| zc rfl <| zd <| zr <| yR (.t rfl .nil) ?_ (.of (.d .rf))
   rotate_left
  all_goals simp only [mkRet]
  · rw [kCE, if_pos (by unfold keyOk; omega)]
  · rw [kCE, if_neg (by unfold keyOk; omega)]
theorem zR_cells (x : Ref) : x = zR ↔ x.id = 0 ∧ x.key.rank = 0 ∧ x.key.n = 0 ∧ x.vec.len = 0 ∧ x.vec.bits = 0 := by
  obtain ⟨i, ⟨k, n⟩, ⟨l, m⟩⟩ := x
  simp only [zR, zK, zV, Ref.mk.injEq, Key.mk.injEq, Vec.mk.injEq, and_assoc]
theorem not_cells {x : Ref} (h : keyOk x.key) : ¬ x.id = 0 ∨ ¬ x.key.rank = 0 ∨ ¬ x.key.n = 0 ∨ ¬ x.vec.len = 0 ∨ ¬ x.vec.bits = 0 := by unfold keyOk at h; omega
def rcmp (a b : Key) : Int := if keyLt a b then -1 else if a = b then 0 else 1
instance {a b : Key} : BP (decide (rcmp a b < 0)) (keyLt a b) (¬ keyLt a b) := .mk' (by unfold rcmp; split <;> (try split) <;> simp_all) .rfl
theorem r2Compare_fn (a b : Key) (F : List Assn) : Meets Try.prog 84 [kv a, kv b] F (Det (i64 (rcmp a b)) F) := by
  refine Meets.intro b84 k84 (by simp) ?_
  focus
   refine zs <| yB rfl fun b2 => yB rfl fun b3 => zc rfl <| zd <| zq <| zb <| zs <| zfl rfl rfl rfl <| zfl rfl rfl rfl <| zj rfl rfl rfl <| zh rfl rfl (fun h1 => .fa' 0 rfl rfl) ?_
   refine zh rfl rfl (fun h1 => by rw [h1]; exact .L rfl rfl) <| zh rfl rfl (fun h1 => .fa' 0 rfl rfl) <| zh rfl rfl (fun h1 => by rw [h1]; exact .L rfl rfl) <| zh rfl rfl (fun h1 => by rw [h1]; exact .int rfl rfl rfl) <| zh rfl rfl (fun h1 => by rw [h1]; exact .calc rfl) <| JT.yg2 rfl rfl (fun h1 h1' => Ev.fa' 1 rfl rfl) <| JT.yg2 rfl rfl (fun h1 h1' => by rw [h1, h1']; exact .L rfl rfl) <| JT.yg2 rfl rfl (fun h1 h1' => Ev.fa' 1 rfl rfl) <| JT.yg2 rfl rfl (fun h1 h1' => by rw [h1, h1']; exact .L rfl rfl) <| JT.yg2 rfl rfl (fun h1 h1' => by rw [h1, h1']; exact .int rfl rfl rfl) <| zh rfl rfl (fun h1 => by rw [h1]; exact .pickA rfl rfl rfl) <| zy (.pickO rfl rfl rfl) ?_
   refine zd <| zi rfl (fun h1 => ?_) (fun h1 => ?_)
   refine zs <| zc rfl <| zd <| zr <| yR (.t rfl .nil) ?_ (.of (.d (.d .rf)))
   rotate_left
   refine zs <| zw rfl rfl <| zw rfl rfl <| zy (.eqT rfl rfl) <| zd <| zi rfl (fun h2 => ?_) (fun h2 => ?_)
   refine zs <| zc rfl <| zd <| zr <| yR (.t rfl .nil) ?_ (.of (.d (.d .rf)))
   rotate_left
   refine zk <| zs <| zc rfl <| zd <| zr <| yR (.t rfl .nil) ?_ (.of (.d (.d .rf)))
   rotate_left
  all_goals (simp only [mkRet]; unfold rcmp)
  · rw [if_pos (show keyLt a b from h1)]
  · rw [if_neg (by unfold keyLt; omega), if_pos h2]
  · rw [if_neg (by unfold keyLt; omega), if_neg h2]
theorem r2Less_fn (a b : Key) (F : List Assn) : Meets Try.prog 34 [kv a, kv b] F (Det (.bool (decide (keyLt a b))) F) := by
  refine Meets.intro b34 k34 (by simp) ?_
  focus
   refine zs <| yB rfl fun b2 => yB rfl fun b3 => zc rfl <| zw rfl rfl <| zw rfl rfl <| yD rfl rfl (.of .rf) (r2Compare_fn _ _ _) <| zj rfl rfl rfl <| zd <| zr <| yR (.t rfl .nil) ?_ (.of (.d (.d .rf)))
  simp only [mkRet]; congr 1; rw [Bool.eq_iff_iff]; simp only [decide_eq_true_eq]; unfold rcmp; split <;> (try split) <;> simp_all

theorem LinkSorted_fn {a1 : Option Addr} {c1 : Nat} {xs : List KOp} (me : Ref) {F : List Assn} [Hs : HS F (.slice a1 xs.length c1) KOp kopC 15 c1 xs] (hx : ∀ x ∈ xs, 0 ≤ x.w.bits) :
    Meets Try.prog 10 [rv me, .slice a1 xs.length c1] F (Det (.bool true) F) := by
  refine Meets.intro b10 k10 (by simp) ?_
  by_cases hme : keyOk me.key ∧ vecOk me.vec
  · obtain ⟨h1, h2⟩ := hme
    obtain ⟨L, hL⟩ : ∃ L, L = LK.run me xs (min xs.length 60) := ⟨_, rfl⟩
    have I : L.Inv := by rw [hL]; exact LK.run_inv me xs _ (by omega)
    have hM : L.me = me := by rw [hL]; exact LK.run_me me xs _ (by omega)
    have hS : L.Srt := by rw [hL]; exact LK.run_srt me xs hx _ (by omega)
    have hn : L.m.length ≤ 1000 := by rw [hL]; have := LK.run_len me xs (min xs.length 60) (by omega); omega
    have hG : ∀ x ∈ L.m, vecG x.1 := fun x hx => (hS x hx).g
    have hP : ∀ {F : List Assn} [HS F (.slice a1 xs.length c1) KOp kopC 15 c1 xs], Meets Try.prog 31 [rv me, .slice a1 xs.length c1] F (Some' (fun _ : Nat => True) (fun b => ptr b) (fun b => LinksP b L :: F)) := by
      intro F _; rw [hL]; exact l08play_ok me h1 h2
    clear hL
    focus
     refine zs <| yB rfl fun b2 => zc rfl <| yD rfl rfl (.of .rf) (l08awake_fn _) <| zc rfl <| zd <| zq <| zu rfl <| zk <| zs <| zw rfl rfl <| yE rfl rfl (.of .rf) hP fun x5 _ => ?_
     refine zc rfl <| zd <| zq <| zu rfl <| zk <| zs <| yE rfl rfl (.of (.t0 .rf)) (lnAll_fn _ _ _ (by assumption) (by assumption) (by assumption)) fun ⟨a6, c6⟩ hx6 => zc rfl <| zd <| zq <| zb ?_
    obtain ⟨c6, ys⟩ := c6
    obtain ⟨hp, hs⟩ := hx6
    dsimp only at hp hs ⊢
    have hno : (ys.map (·.s.w)).Nodup := by
      have e : ys.map (·.s.w) = (ys.map (·.s)).map (·.w) := by rw [List.map_map]; rfl
      rw [e]; exact ((hp.map (·.w)).nodup_iff).2 (allS_nodup I)
    have hok : ∀ i, i < ys.length → ∃ r : RecA, okR me (nth ys i).s.w r ∧ r.lk.Inv ∧ (nth ys i).s = r.state (nth ys i).s.w := by
      intro i hi
      have hm : (nth ys i).s ∈ ys.map (·.s) := List.mem_map.2 ⟨_, by rw [nth_eq hi]; exact List.getElem_mem hi, rfl⟩
      obtain ⟨x, hx, e⟩ := allS_mem (hp.mem_iff.1 hm)
      have ew : (nth ys i).s.w = x.1 := by rw [e]; rfl
      refine ⟨x.2, ?_, I.lk x hx, by rw [ew]; exact e⟩
      rw [ew, ← hM]; exact hS x hx
    have hne : ∀ i k, i < ys.length → k < i → (nth ys k).s.w ≠ (nth ys i).s.w := by
      intro i k hi hk e
      rw [nth_eq hi, nth_eq (by omega)] at e
      have := (List.getElem_inj (i := k) (j := i) (h₀ := by simpa using (by omega : k < ys.length)) (h₁ := by simpa using hi) hno).1 (by simpa using e)
      omega
    refine J.slF Has.here (fun hc6 hl6 _ => ?_)
    refine J.keep [(2, ptr b2), (5, ptr x5), (6, .slice a6 ys.length c6), (7, i64 0)] (by exact subxR rfl) ?_
    refine J.lp (ι := Nat) (fun i => i ≤ ys.length) (fun i => [(7, i64 i)]) (fun _ => SlT true recEC 16 (.slice a6 ys.length c6) c6 ys :: WaitsA ys :: LinksP x5 L :: pc b2 32 (refC me) :: F) (fun i => ys.length - i) 0 (by omega) (by exact subxR rfl) (.of (.t0 (.t0 (.t0 (.t0 .rf))))) (fun i hi => ?_)
    by_cases hlt : i < ys.length
    · obtain ⟨r, hR, hI, hs⟩ := hok i hlt
      have q1 : (nth ys i).s.left = r.left := by rw [hs]; rfl
      have q2 : (nth ys i).s.right = r.right := by rw [hs]; rfl
      have q3 : (nth ys i).s.held = r.lk.held := by rw [hs]; rfl
      have q4 : (nth ys i).s.waits = r.lk.w := by rw [hs]; rfl
      have hl := hR.left; have hr := hR.right; have hm := hR.may
      unfold sideL at hl; unfold sideR at hr
      rw [← q1, zR_cells] at hl; rw [← q2, zR_cells] at hr
      have hm' : L.may (nth ys i).s.w := by rw [may_me, hM]; exact hm
      have hw : (nth ys i).s.held = false → (nth ys i).s.waits.length = 0 := fun h => by rw [q4, hI.fr (by rw [← q3]; exact h)]; rfl
      have hZ : (decide (0 < ((nth ys i).s.waits.length : Int)) && !(nth ys i).s.held) = false := by
        cases hh : (nth ys i).s.held with
        | true => simp
        | false => simp [hw hh]
      have hne' := fun k hk => hne i k hlt hk
      clear hok hne hno hp hs hR hI q1 q2 q3 q4 hm hP
      focus
       refine zs <| zc rfl <| zy (.cltT rfl rfl (by omega)) <| zd <| zq <| zt rfl <| zk <| seqQ_n ?_
      refine J.seq (J.block ?_)
      refine J.cutE (ι := Nat × Bool) (fun i => i.2 = false) (fun j => [(2, ptr b2), (5, ptr x5), (6, .slice a6 ys.length c6), (7, i64 (i : Int)), (8, ptr j.1), (104, .bool j.2)])
        (fun j => pc j.1 80 (recEC (nth ys i)) :: SlT true recEC 16 (.slice a6 ys.length c6) c6 ys :: WaitsA ys :: LinksP x5 L :: pc b2 32 (refC me) :: F) ?_ (fun j hj => ?_)
      · rcases hl with ⟨l1, l2⟩ | ⟨l1, l2⟩
        · rcases hr with ⟨r1, r2⟩ | ⟨r1, r2⟩
          · omega
          · have r3 := not_cells r1
            focus
             refine zo <| zy (.iC rfl rfl (by omega)) <| zy (.LE rfl (by omega)) <| yN fun b8 => yW rfl rfl rfl rfl rfl <| zfw [_, _, _, _, _] rfl rfl rfl rfl <| zg rfl <| zy (.eqs rfl rfl (by repeat (first | exact EqC.nil | apply EqC.i | apply EqC.b | apply EqC.s))) ?_
             refine yT rfl (by assumption) <| zf 1 rfl rfl <| yT rfl (by assumption) <| zf 1 rfl rfl <| yT rfl (by assumption) <| zl rfl rfl <| yT rfl (by assumption) <| zy (.ceqT rfl rfl (by omega)) <| zy (.pickTp rfl (by assumption) rfl) <| zv rfl rfl <| zv rfl rfl <| zv rfl rfl ?_
             refine zv rfl rfl <| zv rfl rfl <| zv rfl rfl <| JT.skipU rfl <| JT.skipU rfl <| JT.skipU rfl <| JT.skipU rfl <| JT.skipU rfl <| JT.skipU rfl <| zv rfl rfl <| zy (.pickT rfl rfl) <| zfw [_, _, _, _, _] rfl rfl rfl rfl ?_
             refine zg rfl <| zy (.eqs rfl rfl (by repeat (first | exact EqC.nil | apply EqC.i | apply EqC.b | apply EqC.s))) ?_
             refine yTs rfl (by assumption) <| yTs rfl (by assumption) <| yTs rfl (by assumption) <| yTs rfl (by assumption) <| zy (.pickFp rfl (by assumption) rfl) <| yG rfl <| zf 7 rfl rfl <| yG rfl <| zf 8 rfl rfl <| yG rfl <| zy (.Lp (us := [_, _]) rfl (Nat.le_of_ble_eq_true rfl) rfl) <| yG rfl ?_
             refine yD rfl rfl (.of .rf) (r2Check_fn _ _) <| yG rfl <| zj rfl rfl rfl <| yG rfl <| zc rfl <| yT rfl (by assumption) <| zf 1 rfl rfl <| yT rfl (by assumption) <| zy (.Lf rfl (Nat.le_of_ble_eq_true rfl)) <| yT rfl (by assumption) <| zf 7 rfl rfl <| yT rfl (by assumption) ?_
             refine zf 8 rfl rfl <| yT rfl (by assumption) <| zy (.Lp (us := [_, _]) rfl (Nat.le_of_ble_eq_true rfl) rfl) <| yT rfl (by assumption) <| yD rfl rfl (.of .rf) (r2Less_fn _ _ _) <| yG rfl <| zy (.pickTp rfl (by assumption) rfl) <| zy (.pickF rfl rfl) <| zc rfl <| yG rfl <| zc rfl <| zy (.pickF rfl rfl) ?_
             refine yF rfl (by assumption) <| zf 0 rfl rfl <| yF rfl (by assumption) <| zy (.Lf rfl (Nat.le_of_ble_eq_true rfl)) <| yF rfl (by assumption) <| yD rfl rfl (.of (.t3 .rf)) (lnMay_P _ _ _ _) <| yF rfl (by assumption) <| zc rfl <| zy (.pickFp rfl (by assumption) rfl) <| yF rfl (by assumption) <| zf 15 rfl rfl <| yF rfl (by assumption) ?_
             refine zl rfl rfl <| yF rfl (by assumption) <| zc rfl <| yF rfl (by assumption) <| zj rfl rfl rfl <| yF rfl (by assumption) <| zc rfl <| zm rfl rfl (fun h3 => .fa' 12 rfl rfl) <| zm rfl rfl (fun h3 => by rw [h3]; exact .L rfl rfl) <| zm rfl rfl (fun h3 => by rw [h3]; exact .calc rfl) <| yF rfl (by assumption) <| zy (.pickA rfl rfl rfl) ?_
             refine zy (.pickFp rfl (by assumption) rfl) <| zd <| ⟨⟨_, _⟩, ?_, (subxR rfl), (.of (.t1 (.t1 (.t1 (.t0 (.t0 .rf))))))⟩
             assumption
        · have l3 := not_cells l1
          rcases hr with ⟨r1, r2⟩ | ⟨r1, r2⟩
          · focus
             refine zo <| zy (.iC rfl rfl (by omega)) <| zy (.LE rfl (by omega)) <| yN fun b8 => yW rfl rfl rfl rfl rfl <| zfw [_, _, _, _, _] rfl rfl rfl rfl <| zg rfl <| zy (.eqs rfl rfl (by repeat (first | exact EqC.nil | apply EqC.i | apply EqC.b | apply EqC.s))) ?_
             refine yTs rfl (by assumption) <| yTs rfl (by assumption) <| yTs rfl (by assumption) <| yTs rfl (by assumption) <| zy (.pickFp rfl (by assumption) rfl) <| yG rfl <| zf 2 rfl rfl <| yG rfl <| zf 3 rfl rfl <| yG rfl <| zy (.Lp (us := [_, _]) rfl (Nat.le_of_ble_eq_true rfl) rfl) <| yG rfl ?_
             refine yD rfl rfl (.of .rf) (r2Check_fn _ _) <| yG rfl <| zj rfl rfl rfl <| yG rfl <| zc rfl <| yT rfl (by assumption) <| zf 2 rfl rfl <| yT rfl (by assumption) <| zf 3 rfl rfl <| yT rfl (by assumption) <| zy (.Lp (us := [_, _]) rfl (Nat.le_of_ble_eq_true rfl) rfl) <| yT rfl (by assumption) ?_
             refine zf 1 rfl rfl <| yT rfl (by assumption) <| zy (.Lf rfl (Nat.le_of_ble_eq_true rfl)) <| yT rfl (by assumption) <| yD rfl rfl (.of .rf) (r2Less_fn _ _ _) <| yG rfl <| zy (.pickTp rfl (by assumption) rfl) <| zy (.pickF rfl rfl) <| zfw [_, _, _, _, _] rfl rfl rfl rfl <| zg rfl <| zy (.eqs rfl rfl (by repeat (first | exact EqC.nil | apply EqC.i | apply EqC.b | apply EqC.s))) ?_
             refine yT rfl (by assumption) <| zf 1 rfl rfl <| yT rfl (by assumption) <| zf 1 rfl rfl <| yT rfl (by assumption) <| zl rfl rfl <| yT rfl (by assumption) <| zy (.ceqT rfl rfl (by omega)) <| zy (.pickTp rfl (by assumption) rfl) <| zv rfl rfl <| zv rfl rfl <| zv rfl rfl ?_
             refine zv rfl rfl <| zv rfl rfl <| zv rfl rfl <| JT.skipU rfl <| JT.skipU rfl <| JT.skipU rfl <| JT.skipU rfl <| JT.skipU rfl <| JT.skipU rfl <| zv rfl rfl <| zy (.pickT rfl rfl) <| zc rfl ?_
             refine yF rfl (by assumption) <| zc rfl <| zy (.pickFp rfl (by assumption) rfl) <| yG rfl <| zf 0 rfl rfl <| yG rfl <| zy (.Lf rfl (Nat.le_of_ble_eq_true rfl)) <| yG rfl <| yD rfl rfl (.of (.t3 .rf)) (lnMay_P _ _ _ _) <| yG rfl <| zc rfl <| zy (.pickF rfl rfl) ?_
             refine yF rfl (by assumption) <| zf 15 rfl rfl <| yF rfl (by assumption) <| zl rfl rfl <| yF rfl (by assumption) <| zc rfl <| yF rfl (by assumption) <| zj rfl rfl rfl <| yF rfl (by assumption) <| zc rfl <| zm rfl rfl (fun h3 => .fa' 12 rfl rfl) <| zm rfl rfl (fun h3 => by rw [h3]; exact .L rfl rfl) ?_
             refine zm rfl rfl (fun h3 => by rw [h3]; exact .calc rfl) <| yF rfl (by assumption) <| zy (.pickA rfl rfl rfl) <| zy (.pickFp rfl (by assumption) rfl) <| zd <| ⟨⟨_, _⟩, ?_, (subxR rfl), (.of (.t1 (.t1 (.t1 (.t0 (.t0 .rf))))))⟩
             assumption
          · have r3 := not_cells r1
            focus
             refine zo <| zy (.iC rfl rfl (by omega)) <| zy (.LE rfl (by omega)) <| yN fun b8 => yW rfl rfl rfl rfl rfl <| zfw [_, _, _, _, _] rfl rfl rfl rfl <| zg rfl <| zy (.eqs rfl rfl (by repeat (first | exact EqC.nil | apply EqC.i | apply EqC.b | apply EqC.s))) ?_
             refine yTs rfl (by assumption) <| yTs rfl (by assumption) <| yTs rfl (by assumption) <| yTs rfl (by assumption) <| zy (.pickFp rfl (by assumption) rfl) <| yG rfl <| zf 2 rfl rfl <| yG rfl <| zf 3 rfl rfl <| yG rfl <| zy (.Lp (us := [_, _]) rfl (Nat.le_of_ble_eq_true rfl) rfl) <| yG rfl ?_
             refine yD rfl rfl (.of .rf) (r2Check_fn _ _) <| yG rfl <| zj rfl rfl rfl <| yG rfl <| zc rfl <| yT rfl (by assumption) <| zf 2 rfl rfl <| yT rfl (by assumption) <| zf 3 rfl rfl <| yT rfl (by assumption) <| zy (.Lp (us := [_, _]) rfl (Nat.le_of_ble_eq_true rfl) rfl) <| yT rfl (by assumption) ?_
             refine zf 1 rfl rfl <| yT rfl (by assumption) <| zy (.Lf rfl (Nat.le_of_ble_eq_true rfl)) <| yT rfl (by assumption) <| yD rfl rfl (.of .rf) (r2Less_fn _ _ _) <| yG rfl <| zy (.pickTp rfl (by assumption) rfl) <| zy (.pickF rfl rfl) <| zfw [_, _, _, _, _] rfl rfl rfl rfl <| zg rfl <| zy (.eqs rfl rfl (by repeat (first | exact EqC.nil | apply EqC.i | apply EqC.b | apply EqC.s))) ?_
             refine yTs rfl (by assumption) <| yTs rfl (by assumption) <| yTs rfl (by assumption) <| yTs rfl (by assumption) <| zy (.pickFp rfl (by assumption) rfl) <| yG rfl <| zf 7 rfl rfl <| yG rfl <| zf 8 rfl rfl <| yG rfl <| zy (.Lp (us := [_, _]) rfl (Nat.le_of_ble_eq_true rfl) rfl) <| yG rfl ?_
             refine yD rfl rfl (.of .rf) (r2Check_fn _ _) <| yG rfl <| zj rfl rfl rfl <| yG rfl <| zc rfl <| yT rfl (by assumption) <| zf 1 rfl rfl <| yT rfl (by assumption) <| zy (.Lf rfl (Nat.le_of_ble_eq_true rfl)) <| yT rfl (by assumption) <| zf 7 rfl rfl <| yT rfl (by assumption) ?_
             refine zf 8 rfl rfl <| yT rfl (by assumption) <| zy (.Lp (us := [_, _]) rfl (Nat.le_of_ble_eq_true rfl) rfl) <| yT rfl (by assumption) <| yD rfl rfl (.of .rf) (r2Less_fn _ _ _) <| yG rfl <| zy (.pickTp rfl (by assumption) rfl) <| zy (.pickF rfl rfl) <| zc rfl <| yF rfl (by assumption) <| zc rfl <| zy (.pickFp rfl (by assumption) rfl) ?_
             refine yF rfl (by assumption) <| zf 0 rfl rfl <| yF rfl (by assumption) <| zy (.Lf rfl (Nat.le_of_ble_eq_true rfl)) <| yF rfl (by assumption) <| yD rfl rfl (.of (.t3 .rf)) (lnMay_P _ _ _ _) <| yF rfl (by assumption) <| zc rfl <| zy (.pickFp rfl (by assumption) rfl) <| yF rfl (by assumption) <| zf 15 rfl rfl <| yF rfl (by assumption) ?_
             refine zl rfl rfl <| yF rfl (by assumption) <| zc rfl <| yF rfl (by assumption) <| zj rfl rfl rfl <| yF rfl (by assumption) <| zc rfl <| zm rfl rfl (fun h3 => .fa' 12 rfl rfl) <| zm rfl rfl (fun h3 => by rw [h3]; exact .L rfl rfl) <| zm rfl rfl (fun h3 => by rw [h3]; exact .calc rfl) <| yF rfl (by assumption) <| zy (.pickA rfl rfl rfl) ?_
             refine zy (.pickFp rfl (by assumption) rfl) <| zd <| ⟨⟨_, _⟩, ?_, (subxR rfl), (.of (.t1 (.t1 (.t1 (.t0 (.t0 .rf))))))⟩
             assumption
      · obtain ⟨b8, z⟩ := j
        simp only at hj
        subst hj
        dsimp only
        focus
         refine zq <| zu rfl <| zk <| zs <| zc rfl <| zd <| zb ?_
        refine J.lp (ι := Nat) (fun k => k ≤ i) (fun k => [(11, i64 (k : Int))]) (fun _ => pc b8 80 (recEC (nth ys i)) :: SlT true recEC 16 (.slice a6 ys.length c6) c6 ys :: WaitsA ys :: LinksP x5 L :: pc b2 32 (refC me) :: F) (fun k => i - k) 0 (by omega) (by exact subxR rfl) (.of (.t0 (.t0 (.t0 (.t0 (.t0 .rf)))))) (fun k hk => ?_)
        have hn' := hne' k
        focus
         refine zs <| zj rfl rfl rfl <| zd <| zq <| zi rfl (fun h3 => ?_) (fun h3 => ?_)
         refine zk <| zq <| zb <| zs <| zy (.iC rfl rfl (by omega)) <| zy (.fe rfl) <| zy (.LEf rfl (by omega) (by decide)) <| zfw [_, _] rfl rfl rfl rfl <| zy (.eqT rfl rfl) <| zd <| zi rfl (fun h4 => ?_) (fun h4 => ?_)
         refine zs <| zc rfl <| zd <| zr <| yR (.t rfl .nil) ?_ (.of (.d (.d (.d (.d (.d .rf))))))
         rotate_left
         refine zk <| zo <| zy (.addN rfl rfl (by omega)) <| zd <| ⟨_, ?_, (by omega), (subxR rfl), (.of (.t0 (.t0 (.t0 (.t0 (.t0 .rf))))))⟩
         omega
         refine zx <| zo <| zy (.addN rfl rfl (by omega)) <| zd <| ⟨_, ?_, (by omega), (subxR rfl), (.of (.t1 (.t1 (.t1 (.t1 (.d .rf))))))⟩
         omega
        exact absurd (by assumption) (hn' (by omega))
    · focus
       refine zs <| zc rfl <| zy (.cltF rfl rfl (by omega)) <| zd <| zq <| zu rfl <| zx <| zs <| zc rfl <| zd <| zr <| yR (.t rfl .nil) rfl (.of (.d (.d (.d (.d .rf)))))
  · focus
     refine zs <| yB rfl fun b2 => zc rfl <| yD rfl rfl (.of .rf) (l08awake_fn _) <| zc rfl <| zd <| zq <| zu rfl <| zk <| zs <| zw rfl rfl <| yD rfl rfl (.of .rf) (l08play_no _ (by assumption)) ?_
     refine zc rfl <| zd <| zq <| zt rfl <| zs <| zc rfl <| zd <| zr <| yR (.t rfl .nil) rfl (.of (.d .rf))
end Go.Proofs.Ytnipmjpdklbbcaa
