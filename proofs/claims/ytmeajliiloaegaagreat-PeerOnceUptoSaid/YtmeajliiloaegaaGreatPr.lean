/- Layer 9: a peer's state; the law PeerSorted: what its function does. Conditions: none. -/
import Derived.Test.YtmeajliiloaegaaGreatPp
import Derived.Test.YtmeajliiloaegaaGreatMb
set_option linter.unusedSimpArgs false
set_option linter.unusedVariables false
set_option maxRecDepth 100000
set_option maxHeartbeats 4000000
namespace Go.SL
open Go
def psC (P : Pe) (va : Option Addr) (vc : Nat) (ra : Option Addr) (rl rc : Nat) : List Value := [i64 P.me.id, i64 P.me.key.rank, u64 P.me.key.n, i64 P.me.vec.len, u64 P.me.vec.bits, .slice va P.value.length vc, .bool P.joined, .bool P.marked, .slice ra rl rc]
instance : FS recEC 2 5 refC (fun x => x.s.left) := ⟨fun _ => rfl⟩
instance : FS recEC 7 5 refC (fun x => x.s.right) := ⟨fun _ => rfl⟩
instance : FS recEC 0 2 vecC (fun x => x.s.w) := ⟨fun _ => rfl⟩
instance : FS recEC 13 2 ownerC (fun x => x.s.owner) := ⟨fun _ => rfl⟩
def StpE.val (s : StpE) : List UInt8 := if s.isEnd then [] else s.v
theorem StpE.good (s : StpE) : PeG s.ref s.val 0 0 s.pe := by
  unfold StpE.ref StpE.val StpE.pe
  by_cases h : s.isEnd
  · rw [if_pos h, if_pos h, if_pos h]; exact .new
  · rw [if_neg h, if_neg h, if_neg h]; exact .new
theorem StpE.val_le {s : StpE} (h : s.ok) : s.val.length ≤ 1024 := by
  unfold StpE.val; unfold StpE.ok at h
  split
  · simp
  · rename_i h'; rw [if_neg h'] at h; exact h.2
theorem StpE.side {s : StpE} (ho : s.ok) {w : Vec} {r : RecA} (h : okR s.ref w r) : (s.en ≠ 1 → keyLt r.left.key s.ref.key) ∧ (s.en ≠ 2 → keyLt s.ref.key r.right.key) ∧ (¬ s.isEnd → vbegins s.ref.vec w) := by
  have hl := h.left; have hr := h.right; have hm := h.may
  unfold sideL at hl; unfold sideR at hr; unfold LK.may at hm
  unfold StpE.ok at ho
  by_cases hE : s.isEnd
  · rw [if_pos hE] at ho
    have e : s.ref = endR (decide (s.en = 2)) s.h := if_pos hE
    rw [e] at hl hr ⊢
    refine ⟨fun h1 => ?_, fun h2 => ?_, fun h3 => absurd hE h3⟩
    · have h2 : s.en = 2 := hE.resolve_left h1
      rcases hl with ⟨_, hl⟩ | ⟨_, hl⟩
      · rw [h2] at hl; simp [endR] at hl
      · exact hl
    · have : decide (s.en = 2) = false := decide_eq_false h2
      rcases hr with ⟨_, hr⟩ | ⟨_, hr⟩
      · rw [this] at hr; simp [endR] at hr
      · exact hr
  · rw [if_neg hE] at ho
    have e : s.ref = s.me := if_neg hE
    rw [e] at hl hr hm ⊢
    have hk := ho.1.1
    refine ⟨fun _ => ?_, fun _ => ?_, fun _ => ?_⟩
    · rcases hl with ⟨_, hl⟩ | ⟨_, hl⟩
      · omega
      · exact hl
    · rcases hr with ⟨_, hr⟩ | ⟨_, hr⟩
      · omega
      · exact hr
    · rw [if_neg (show ¬ LK.isEnd ⟨s.me, []⟩ from by show ¬ (s.me.key.rank = 1 ∨ s.me.key.rank = 3); omega)] at hm; exact hm
theorem StpE.ref_bits {s : StpE} (h : 0 ≤ s.me.vec.bits) : 0 ≤ s.ref.vec.bits := by
  unfold StpE.ref endR
  split
  · split <;> simp
  · exact h
end Go.SL
namespace Go.Proofs.YtmeajliiloaegaaGreat
open Go Go.SL
attribute [local irreducible] pc rc SlT Me Mt It pt ro pur ex sep old Meets
attribute [local irreducible] LockP RecP RecsA LinksP LinksH RdA PeW PeP PeI WaitsA R9P
/-- Whose records a state tells. -/
def stOk (l : LK) (x : (Option Addr × Nat) × Option Addr × Nat × List RecE) : Prop := (x.2.2.2.map (·.s)).Perm l.allS ∧ x.2.2.2.Pairwise (fun x y => ¬ vcmp y.s.w x.s.w < 0)
theorem peState_fn (b : Nat) (P : Pe) (F : List Assn) (hI : P.lk.Inv) (hS : P.lk.Srt) (hm : P.lk.m.length ≤ 100000) (hv : P.value.length ≤ 1048576) : Meets Tryz.prog 10 [ptr b] (PeI b P :: F)
    (Some' (stOk P.lk) (fun x => .agg (psC P x.1.1 x.1.2 x.2.1 x.2.2.2.length x.2.2.1).toArray)
      (fun x => byO x.1.1 x.1.2 P.value :: SlT true recEC 16 (.slice x.2.1 x.2.2.2.length x.2.2.1) x.2.2.1 x.2.2.2 :: WaitsA x.2.2.2 :: PeI b P :: F)) := by
  refine Meets.intro b10 k10 (by simp) ?_
  have hG : ∀ x ∈ P.lk.m, vecG x.1 := fun x hx => (hS x hx).g
  focus
   refine zs <| yN fun b2 => yD rfl rfl (.of (.t1 .rf)) (peMade_I _ _ _) <| zc rfl <| zd <| zq <| zu rfl <| zk <| zs <| zf 0 rfl rfl ?_
  refine JT.openPeI (by (repeat (first | exact Has.here | assumption | apply Has.there))) (fun lb va vc wa wc ra rl rc => ?_)
  focus
   refine zy (.Lp (us := [_, _, _, _, _]) rfl (Nat.le_of_ble_eq_true rfl) rfl) <| zfl rfl rfl rfl <| zf 7 rfl rfl <| zl rfl rfl <| zf 8 rfl rfl <| zl rfl rfl <| zf 6 rfl rfl <| zl rfl rfl <| yE rfl rfl (.of .rf) (byClone_fn (by assumption)) fun ⟨a15, c15⟩ _ => JT.yA rfl (Ev.Lp (us := [_, _, _, _, _]) rfl (Nat.le_of_ble_eq_true rfl) rfl) <| JT.yA rfl (Ev.L rfl rfl) <| JT.yA rfl (Ev.L rfl rfl) ?_
   refine JT.yA rfl (Ev.L rfl rfl) <| yE rfl rfl (.of (.t2 .rf)) (lnAll_fn _ _ _ (by assumption) (by assumption) (by assumption)) fun ⟨a28, c28⟩ hx28 => JT.yA rfl (Ev.Lp (us := [_, _, _, _, _]) rfl (Nat.le_of_ble_eq_true rfl) rfl) <| JT.yA rfl (Ev.L rfl rfl) <| JT.yA rfl (Ev.L rfl rfl) <| zg rfl <| yW rfl rfl rfl rfl rfl <| zd <| zr <| yQ ⟨_, _⟩ (.w rfl rfl .nil) ?_ rfl (.of (.t4 (.t1 (.t1 (PeI.fold (.there (.there .here)) (.there .here) (.there .here) (.there .here) (.d .rf))))))
   assumption
theorem PeerSorted_fn (s : StpE) {a1 : Option Addr} {c1 : Nat} {xs : List SL.Ask} (hx : ∀ x ∈ xs, 0 ≤ x.w.bits) (hb : 0 ≤ s.me.vec.bits) (F : List Assn) :
    Meets Tryz.prog 3 [stv s, .slice a1 xs.length c1] (byO s.a s.c s.v :: SlT false askC 15 (.slice a1 xs.length c1) c1 xs :: F) (Det (.bool true) (byO s.a s.c s.v :: SlT false askC 15 (.slice a1 xs.length c1) c1 xs :: F)) := by
  refine Meets.intro b3 k3 (by simp) ?_
  by_cases ho : s.ok
  · have hok := fun F => l09made_ok s F ho
    focus
     refine zs <| yB rfl fun b2 => zc rfl <| zw rfl rfl <| yE rfl rfl (.of (.t1 .rf)) (hok _) fun ⟨a15, c15⟩ _ => zc rfl <| zc rfl <| zc rfl <| zc rfl <| zc rfl <| zc rfl <| zc rfl ?_
     refine yG rfl <| zc rfl <| zy (.pickF rfl rfl) <| zd <| zq <| zu rfl <| zk <| zs <| zc rfl <| zd <| zq <| zb ?_
    refine J.keep [(1, .slice a1 xs.length c1), (2, ptr b2), (4, .bool false), (5, ptr a15), (6, ptr c15), (8, i64 0)] (by exact subxR rfl) ?_
    clear hok
    refine J.lp (ι := Nat) (fun k => k ≤ xs.length ∧ k ≤ 80) (fun k => [(8, i64 (k : Int))]) (fun k => PeI a15 (s.pe.asks xs k) :: R9P c15 s.ref :: byO s.a s.c s.v :: pc b2 32 (stpC s) :: SlT false askC 15 (.slice a1 xs.length c1) c1 xs :: F) (fun k => xs.length - k) 0 ⟨by omega, by omega⟩ (by exact subxR rfl) (.of (.t0 (.t0 (.t0 (.t0 (.t0 .rf)))))) (fun k hk => ?_)
    obtain ⟨hk1, hk2⟩ := hk
    by_cases hlt : k < xs.length
    · by_cases h80 : k < 80
      · have G := Pe.asks_G s.good hx k hk1 (by omega)
        have G' := Pe.asks_G s.good hx (k + 1) (by omega) (by omega)
        have hv := s.val_le ho
        have hA := fun F => peAsk_fn a15 (s.pe.asks xs k) (k : Int) (nth xs k) F G.lk.inv (by have := G.wts; omega) (by rw [G.val]; omega)
        simp only [← Pe.asks_succ] at hA
        have hS := fun F => peState_fn a15 (s.pe.asks xs (k + 1)) F G'.lk.inv G'.lk.srt (by have := G'.lk.len; omega) (by rw [G'.val]; omega)
        have hR : ∀ y ∈ (s.pe.asks xs (k + 1)).lk.allS, (s.en ≠ 1 → keyLt y.left.key s.ref.key) ∧ (s.en ≠ 2 → keyLt s.ref.key y.right.key) ∧ (¬ s.isEnd → vbegins s.ref.vec y.w) ∧ 0 ≤ y.w.bits := by
          intro y hy
          obtain ⟨x, hx', rfl⟩ := allS_mem hy
          have h1 := G'.lk.srt x hx'
          rw [G'.lk.eme] at h1
          obtain ⟨q1, q2, q3⟩ := StpE.side ho h1
          exact ⟨q1, q2, q3, h1.pos⟩
        have eP : ∀ x : (Option Addr × Nat) × Option Addr × Nat × List RecE, stOk (s.pe.asks xs (k + 1)).lk x → ∀ i, i < x.2.2.2.length → (s.en ≠ 1 → keyLt (nth x.2.2.2 i).s.left.key s.ref.key) ∧ (s.en ≠ 2 → keyLt s.ref.key (nth x.2.2.2 i).s.right.key) ∧ (¬ s.isEnd → vbegins s.ref.vec (nth x.2.2.2 i).s.w) ∧ 0 ≤ (nth x.2.2.2 i).s.w.bits := by
          intro x hx' i hi
          refine hR _ (hx'.1.mem_iff.1 (List.mem_map.2 ⟨nth x.2.2.2 i, ?_, rfl⟩))
          rw [nth_eq hi]; exact List.getElem_mem hi
        clear hR G G' hx
        focus
         refine zs <| zc rfl <| zy (.cltT rfl rfl (by omega)) <| yG rfl <| zy (.cltT rfl rfl (by omega)) <| zy (.pickT rfl rfl) <| zd <| zq <| zt rfl <| zk <| zq <| zb ?_
         refine zs <| zy (.iC rfl rfl (by omega)) <| zy (.LE rfl (by omega)) <| yE rfl rfl (.of (.t0 .rf)) (hA _) fun ⟨a45, c45⟩ hx45 => yE rfl rfl (.of (.t2 .rf)) (hS _) fun ⟨a47, c47⟩ hx47 => zc rfl <| zc rfl <| zd <| zb ?_
        obtain ⟨ra, rc, ys⟩ := c47
        have hP := eP _ hx47
        clear eP hA hS hx47 hx45
        dsimp only at hP ⊢
        refine J.slF (enc := recEC) (xs := ys) (by (repeat (first | exact Has.here | assumption | apply Has.there))) (fun hy1 hy2 _ => ?_)
        refine J.keep [(1, .slice a1 xs.length c1), (2, ptr b2), (4, .bool false), (5, ptr a15), (6, ptr c15), (8, i64 (k : Int)), (9, .slice ra ys.length rc), (10, i64 0)] (by exact subxR rfl) ?_
        refine J.lp (ι := Nat) (fun i => i ≤ ys.length) (fun i => [(10, i64 (i : Int))]) (fun _ => SlT true recEC 16 (.slice ra ys.length rc) rc ys :: PeI a15 (s.pe.asks xs (k + 1)) :: R9P c15 s.ref :: byO s.a s.c s.v :: pc b2 32 (stpC s) :: SlT false askC 15 (.slice a1 xs.length c1) c1 xs :: F)
          (fun i => ys.length - i) 0 (by omega) (by exact subxR rfl) (.of (.t1 (.t2 (.t4 (.t4 (.t4 (.t4 (.d (.d (.d (.d .rf))))))))))) (fun i hi => ?_)
        by_cases hlt2 : i < ys.length
        · obtain ⟨l1, l2, l3, l4⟩ := hP i hlt2
          have hrb := s.ref_bits hb
          clear hP
          refine J.openR9 (by (repeat (first | exact Has.here | assumption | apply Has.there))) (fun ra9 rn9 rc9 re9 => ?_)
          by_cases e1 : s.en = 1
          · have l2' := l2 (by omega)
            focus
             refine zs <| zc rfl <| zy (.cltT rfl rfl (by omega)) <| zd <| zq <| zt rfl <| zk <| zq <| zb <| zs <| zfl rfl rfl rfl <| zy (.cneF rfl rfl (by omega)) ?_
             refine zv rfl rfl <| zv rfl rfl <| zv rfl rfl <| zv rfl rfl <| zv rfl rfl <| zv rfl rfl <| zv rfl rfl <| zv rfl rfl <| zv rfl rfl <| zy (.pickF rfl rfl) <| zfl rfl rfl rfl <| zy (.cneT rfl rfl (by omega)) ?_
             refine yG rfl <| zf 0 rfl rfl <| yG rfl <| zf 1 rfl rfl <| yG rfl <| zy (.Lp (us := [_, _]) rfl (Nat.le_of_ble_eq_true rfl) rfl) <| yG rfl <| zy (.iC rfl rfl (by omega)) <| yG rfl <| zy (.fe rfl) <| yG rfl <| zy (.fe2 8 rfl rfl) ?_
             refine yG rfl <| zy (.LEp (us := [_, _]) rfl (by omega) (by decide) rfl) <| yG rfl <| yD rfl rfl (.of .rf) (r9Less_fn _ _ _) <| yG rfl <| zc rfl <| zy (.pickT rfl rfl) <| zc rfl <| yG rfl <| zc rfl <| zy (.pickF rfl rfl) <| yF rfl (by assumption) ?_
             refine zf 0 rfl rfl <| yF rfl (by assumption) <| zl rfl rfl <| yF rfl (by assumption) <| zy (.cneF rfl rfl (by omega)) <| yF rfl (by assumption) <| zc rfl <| zv rfl rfl <| zv rfl rfl <| zv rfl rfl <| yF rfl (by assumption) <| zy (.pickF rfl rfl) ?_
             refine yF rfl (by assumption) <| zc rfl <| zv rfl rfl <| zv rfl rfl <| zv rfl rfl <| zv rfl rfl <| zv rfl rfl <| zv rfl rfl <| zv rfl rfl <| zv rfl rfl <| yF rfl (by assumption) <| zy (.pickF rfl rfl) ?_
             refine zy (.pickFp rfl (by assumption) rfl) <| zd <| zu rfl <| zk <| zo <| zy (.addN rfl rfl (by omega)) <| zd <| ⟨_, ?_, (by omega), (subxR rfl), (.of (.t1 (.t1 (R9P.fold .here (.t0 (.t0 (.t0 .rf)))))))⟩
             omega
          · have l1' := l1 e1
            by_cases e2 : s.en = 2
            · focus
               refine zs <| zc rfl <| zy (.cltT rfl rfl (by omega)) <| zd <| zq <| zt rfl <| zk <| zq <| zb <| zs <| zfl rfl rfl rfl <| zy (.cneT rfl rfl (by omega)) ?_
               refine yG rfl <| zy (.iC rfl rfl (by omega)) <| yG rfl <| zy (.fe rfl) <| yG rfl <| zy (.fe2 3 rfl rfl) <| yG rfl <| zy (.LEp (us := [_, _]) rfl (by omega) (by decide) rfl) <| yG rfl <| zf 0 rfl rfl <| yG rfl <| zf 1 rfl rfl ?_
               refine yG rfl <| zy (.Lp (us := [_, _]) rfl (Nat.le_of_ble_eq_true rfl) rfl) <| yG rfl <| yD rfl rfl (.of .rf) (r9Less_fn _ _ _) <| yG rfl <| zc rfl <| zy (.pickT rfl rfl) <| zfl rfl rfl rfl <| zy (.cneF rfl rfl (by omega)) <| zv rfl rfl <| zv rfl rfl <| zv rfl rfl ?_
               refine zv rfl rfl <| zv rfl rfl <| zv rfl rfl <| zv rfl rfl <| zv rfl rfl <| zv rfl rfl <| zy (.pickF rfl rfl) <| zc rfl <| yF rfl (by assumption) <| zc rfl <| zy (.pickFp rfl (by assumption) rfl) <| yG rfl ?_
               refine zf 0 rfl rfl <| yG rfl <| zl rfl rfl <| yG rfl <| zy (.cneT rfl rfl (by omega)) <| yG rfl <| zc rfl <| yG rfl <| zf 0 rfl rfl <| yG rfl <| zl rfl rfl <| yG rfl ?_
               refine zy (.cneF rfl rfl (by omega)) <| yG rfl <| zy (.pickT rfl rfl) <| yG rfl <| zc rfl <| zv rfl rfl <| zv rfl rfl <| zv rfl rfl <| zv rfl rfl <| zv rfl rfl <| zv rfl rfl <| zv rfl rfl ?_
               refine zv rfl rfl <| yG rfl <| zy (.pickF rfl rfl) <| zy (.pickF rfl rfl) <| zd <| zu rfl <| zk <| zo <| zy (.addN rfl rfl (by omega)) <| zd <| ⟨_, ?_, (by omega), (subxR rfl), (.of (.t1 (.t1 (R9P.fold .here (.t0 (.t0 (.t0 .rf)))))))⟩
               omega
            · have l2' := l2 e2
              have l3' := l3 (fun h => h.elim e1 e2)
              focus
               refine zs <| zc rfl <| zy (.cltT rfl rfl (by omega)) <| zd <| zq <| zt rfl <| zk <| zq <| zb <| zs <| zfl rfl rfl rfl <| zy (.cneT rfl rfl (by omega)) ?_
               refine yG rfl <| zy (.iC rfl rfl (by omega)) <| yG rfl <| zy (.fe rfl) <| yG rfl <| zy (.fe2 3 rfl rfl) <| yG rfl <| zy (.LEp (us := [_, _]) rfl (by omega) (by decide) rfl) <| yG rfl <| zf 0 rfl rfl <| yG rfl <| zf 1 rfl rfl ?_
               refine yG rfl <| zy (.Lp (us := [_, _]) rfl (Nat.le_of_ble_eq_true rfl) rfl) <| yG rfl <| yD rfl rfl (.of .rf) (r9Less_fn _ _ _) <| yG rfl <| zc rfl <| zy (.pickT rfl rfl) <| zfl rfl rfl rfl <| zy (.cneT rfl rfl (by omega)) <| yG rfl <| zf 0 rfl rfl <| yG rfl ?_
               refine zf 1 rfl rfl <| yG rfl <| zy (.Lp (us := [_, _]) rfl (Nat.le_of_ble_eq_true rfl) rfl) <| yG rfl <| zy (.iC rfl rfl (by omega)) <| yG rfl <| zy (.fe rfl) <| yG rfl <| zy (.fe2 8 rfl rfl) <| yG rfl <| zy (.LEp (us := [_, _]) rfl (by omega) (by decide) rfl) <| yG rfl ?_
               refine yD rfl rfl (.of .rf) (r9Less_fn _ _ _) <| yG rfl <| zc rfl <| zy (.pickT rfl rfl) <| zc rfl <| yF rfl (by assumption) <| zc rfl <| zy (.pickFp rfl (by assumption) rfl) <| yF rfl (by assumption) <| zf 0 rfl rfl <| yF rfl (by assumption) <| zl rfl rfl ?_
               refine yF rfl (by assumption) <| zy (.cneT rfl rfl (by omega)) <| yF rfl (by assumption) <| zc rfl <| yG rfl <| zf 0 rfl rfl <| yG rfl <| zl rfl rfl <| yG rfl <| zy (.cneT rfl rfl (by omega)) <| yF rfl (by assumption) <| zy (.pickT rfl rfl) ?_
               refine yF rfl (by assumption) <| zc rfl <| yG rfl <| zf 0 rfl rfl <| yG rfl <| zf 3 rfl rfl <| yG rfl <| zy (.Lp (us := [_, _]) rfl (Nat.le_of_ble_eq_true rfl) rfl) <| yG rfl <| zy (.iC rfl rfl (by omega)) <| yG rfl <| zy (.fe rfl) ?_
               refine yG rfl <| zy (.LEf rfl (by omega) (by decide)) <| yG rfl <| yD rfl rfl (.of .rf) (r1Begins_fn _ _ _ (by assumption) (by assumption)) <| yG rfl <| zc rfl <| yF rfl (by assumption) <| zy (.pickT rfl rfl) <| zy (.pickFp rfl (by assumption) rfl) <| zd <| zi rfl (fun h1 => ?_) (fun h1 => ?_)
               contradiction
               refine zk <| zo <| zy (.addN rfl rfl (by omega)) <| zd <| ⟨_, ?_, (by omega), (subxR rfl), (.of (.t1 (.t1 (R9P.fold .here (.t0 (.t0 (.t0 .rf)))))))⟩
               omega
        · focus
           refine zs <| zc rfl <| zy (.cltF rfl rfl (by omega)) <| zd <| zq <| zu rfl <| zx <| zo <| zy (.addN rfl rfl (by omega)) <| zd <| ⟨_, ?_, (by omega), (subxR rfl), (.of (.t1 (.t1 (.t1 (.t1 (.t1 (.d .rf)))))))⟩
           omega
      · focus
         refine zs <| zc rfl <| zy (.cltT rfl rfl (by omega)) <| yG rfl <| zy (.cltF rfl rfl (by omega)) <| zy (.pickT rfl rfl) <| zd <| zq <| zu rfl <| zx <| zs <| yD rfl rfl (.of .rf) (l09alive_fn _) ?_
         refine zd <| zr <| yR (.t rfl .nil) rfl (.of (.t2 (.t3 (.d (.d (.d .rf))))))
    · focus
       refine zs <| zc rfl <| zy (.cltF rfl rfl (by omega)) <| zv rfl rfl <| zy (.pickF rfl rfl) <| zd <| zq <| zu rfl <| zx <| zs <| yD rfl rfl (.of .rf) (l09alive_fn _) <| zd ?_
       refine zr <| yR (.t rfl .nil) rfl (.of (.t2 (.t3 (.d (.d (.d .rf))))))
  · have hno := fun F => l09made_no s F ho
    focus
     refine zs <| yB rfl fun b2 => zc rfl <| zw rfl rfl <| yD rfl rfl (.of (.t1 .rf)) (hno _) <| zc rfl <| zc rfl <| zc rfl <| zc rfl <| zc rfl <| zc rfl <| zc rfl ?_
     refine yG rfl <| zc rfl <| zy (.pickF rfl rfl) <| zd <| zq <| zt rfl <| zs <| zc rfl <| yG rfl <| yD rfl rfl (.of .rf) (l09alive_fn _) <| zy (.pickT rfl rfl) <| zd ?_
     refine zr <| yR (.t rfl .nil) rfl (.of (.t0 (.t1 (.d .rf))))
end Go.Proofs.YtmeajliiloaegaaGreat
