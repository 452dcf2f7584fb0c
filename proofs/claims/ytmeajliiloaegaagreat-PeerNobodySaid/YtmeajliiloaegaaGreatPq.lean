/- Layer 9: peers that nobody made. Conditions: none. -/
import Derived.Test.YtmeajliiloaegaaGreatPm
import Derived.Test.YtmeajliiloaegaaGreatBcd
set_option linter.unusedSimpArgs false
set_option linter.unusedVariables false
set_option maxRecDepth 100000
set_option maxHeartbeats 4000000
namespace Go.SL
open Go
def zPeC : List Value := [i64 0, i64 0, u64 0, i64 0, u64 0, .slice none 0 0, .pointer none, .bool false, .bool false, .slice none 0 0, .slice none 0 0]
def popC : Option Nat → List Value
  | none => [.pointer none]
  | some b => [ptr b]
theorem popC_one : ∀ x, (popC x).length = 1 ∧ ∀ v ∈ popC x, isOne v = true := by intro x; cases x <;> simp [popC, isOne]
/-- A peer's state that tells nothing. -/
def zPs : List Value := [i64 0, i64 0, u64 0, i64 0, u64 0, .slice none 0 0, .bool false, .bool false, .slice none 0 0]
end Go.SL
namespace Go.Proofs.YtmeajliiloaegaaGreat
open Go Go.SL
attribute [local irreducible] pc rc SlT Me Mt It pt ro pur ex sep old Meets
attribute [local irreducible] LockP RecP RecsA LinksP LinksH RdA PeW PeP PeI
theorem peMade_nil (F : List Assn) : Meets Tryz.prog 24 [.pointer none] (F) (Det (.bool false) (F)) := by
  refine Meets.intro b24 k24 (by simp) ?_
  focus
   refine zs <| zc rfl <| zc rfl <| zv rfl rfl <| zv rfl rfl <| zv rfl rfl <| zy (.pickF rfl rfl) <| zd <| zr <| yR (.t rfl .nil) rfl (.of .rf)
theorem peAsk_nil (t : Int) (a : SL.Ask) (F : List Assn) : Meets Tryz.prog 9 [.pointer none, i64 t, askv a] (F) (Det (.tuple #[.slice none 0 0, i64 4]) (F)) := by
  refine Meets.intro b9 k9 (by simp) ?_
  have h1 := fun F => peMade_nil F
  focus
   refine zs <| yB rfl fun b5 => zc rfl <| zc rfl <| yD rfl rfl (.of .rf) (h1 _) <| zc rfl <| zd <| zq <| zt rfl <| zs <| zc rfl <| zc rfl ?_
   refine zd <| zr <| yR (.t rfl (.t rfl .nil)) rfl (.of (.d .rf))
theorem peOpen_nil (F : List Assn) : Meets Tryz.prog 14 [.pointer none] (F) (Det (.slice none 0 0) (F)) := by
  refine Meets.intro b14 k14 (by simp) ?_
  have h1 := fun F => peMade_nil F
  focus
   refine zs <| zc rfl <| yD rfl rfl (.of .rf) (h1 _) <| zc rfl <| zd <| zq <| zt rfl <| zs <| zc rfl <| zd <| zr <| yR (.t rfl .nil) rfl (.of .rf)
theorem peWill_nil (w : Vec) (F : List Assn) : Meets Tryz.prog 15 [.pointer none, vv w] (F) (Det (.tuple #[anv ⟨zAns, none, 0⟩, i64 4]) (F)) := by
  refine Meets.intro b15 k15 (by simp) ?_
  have h1 := fun F => peMade_nil F
  focus
   refine zs <| yB rfl fun b3 => yN fun b4 => zc rfl <| yD rfl rfl (.of .rf) (h1 _) <| zc rfl <| zd <| zq <| zt rfl <| zs <| zg rfl <| yW rfl rfl rfl rfl rfl ?_
   refine zc rfl <| zd <| zr <| yR (.w rfl rfl (.t rfl .nil)) rfl (.of (.d (.d .rf)))
theorem peState_nil (F : List Assn) : Meets Tryz.prog 10 [.pointer none] (F) (Det (.agg zPs.toArray) (F)) := by
  refine Meets.intro b10 k10 (by simp) ?_
  have h1 := fun F => peMade_nil F
  focus
   refine zs <| yN fun b2 => yD rfl rfl (.of .rf) (h1 _) <| zc rfl <| zd <| zq <| zt rfl <| zs <| zg rfl <| yW rfl rfl rfl rfl rfl <| zd <| zr ?_
   refine yR (.w rfl rfl .nil) rfl (.of (.d .rf))
theorem peMade_zero {b T : Nat} (F : List Assn) : Meets Tryz.prog 24 [ptr b] (pc b T zPeC :: F) (Det (.bool false) (pc b T zPeC :: F)) := by
  refine Meets.intro b24 k24 (by simp) ?_
  focus
   refine zs <| zc rfl <| zc rfl <| zm rfl rfl (fun h1 => .fa' 6 rfl rfl) <| zm rfl rfl (fun h1 => by rw [h1]; exact .L rfl rfl) <| zm rfl rfl (fun h1 => by rw [h1]; exact .calc rfl) <| zy (.pickT rfl rfl) <| zd <| zr <| yR (.t rfl .nil) rfl (.of (.t0 .rf))
theorem peAsk_zero {b T : Nat} (t : Int) (a : SL.Ask) (F : List Assn) : Meets Tryz.prog 9 [ptr b, i64 t, askv a] (pc b T zPeC :: F) (Det (.tuple #[.slice none 0 0, i64 4]) (pc b T zPeC :: F)) := by
  refine Meets.intro b9 k9 (by simp) ?_
  have h1 := fun F => peMade_zero (b := b) (T := T) F
  focus
   refine zs <| yB rfl fun b5 => zc rfl <| zc rfl <| yD rfl rfl (.of (.t1 .rf)) (h1 _) <| zc rfl <| zd <| zq <| zt rfl <| zs <| zc rfl <| zc rfl ?_
   refine zd <| zr <| yR (.t rfl (.t rfl .nil)) rfl (.of (.t0 (.d .rf)))
theorem peOpen_zero {b T : Nat} (F : List Assn) : Meets Tryz.prog 14 [ptr b] (pc b T zPeC :: F) (Det (.slice none 0 0) (pc b T zPeC :: F)) := by
  refine Meets.intro b14 k14 (by simp) ?_
  have h1 := fun F => peMade_zero (b := b) (T := T) F
  focus
   refine zs <| zc rfl <| yD rfl rfl (.of (.t0 .rf)) (h1 _) <| zc rfl <| zd <| zq <| zt rfl <| zs <| zc rfl <| zd <| zr <| yR (.t rfl .nil) rfl (.of (.t0 .rf))
theorem peWill_zero {b T : Nat} (w : Vec) (F : List Assn) : Meets Tryz.prog 15 [ptr b, vv w] (pc b T zPeC :: F) (Det (.tuple #[anv ⟨zAns, none, 0⟩, i64 4]) (pc b T zPeC :: F)) := by
  refine Meets.intro b15 k15 (by simp) ?_
  have h1 := fun F => peMade_zero (b := b) (T := T) F
  focus
   refine zs <| yB rfl fun b3 => yN fun b4 => zc rfl <| yD rfl rfl (.of (.t2 .rf)) (h1 _) <| zc rfl <| zd <| zq <| zt rfl <| zs <| zg rfl <| yW rfl rfl rfl rfl rfl ?_
   refine zc rfl <| zd <| zr <| yR (.w rfl rfl (.t rfl .nil)) rfl (.of (.t1 (.d (.d .rf))))
theorem peState_zero {b T : Nat} (F : List Assn) : Meets Tryz.prog 10 [ptr b] (pc b T zPeC :: F) (Det (.agg zPs.toArray) (pc b T zPeC :: F)) := by
  refine Meets.intro b10 k10 (by simp) ?_
  have h1 := fun F => peMade_zero (b := b) (T := T) F
  focus
   refine zs <| yN fun b2 => yD rfl rfl (.of (.t1 .rf)) (h1 _) <| zc rfl <| zd <| zq <| zt rfl <| zs <| zg rfl <| yW rfl rfl rfl rfl rfl <| zd <| zr ?_
   refine yR (.w rfl rfl .nil) rfl (.of (.t1 (.d .rf)))
theorem r9SameAnswer_zero (F : List Assn) : Meets Tryz.prog 16 [anv ⟨zAns, none, 0⟩, anv ⟨zAns, none, 0⟩] F (Det (.bool true) F) := by
  refine Meets.intro b16 k16 (by simp) ?_
  refine J.nilS byteC 1 false (by decide) ?_
  focus
   refine zs <| yB rfl fun b2 => yB rfl fun b3 => zc rfl <| zfl rfl rfl rfl <| zfl rfl rfl rfl <| zy (.ceqT rfl rfl (by omega)) <| zc rfl <| yG rfl <| zf 1 rfl rfl <| yG rfl <| zl rfl rfl ?_
   refine yG rfl <| zf 1 rfl rfl <| yG rfl <| zl rfl rfl <| yG rfl <| zc rfl <| zy (.pickT rfl rfl) <| zc rfl <| yG rfl <| zf 2 rfl rfl <| yG rfl <| zy (.Lf rfl (Nat.le_of_ble_eq_true rfl)) ?_
   refine yG rfl <| zf 2 rfl rfl <| yG rfl <| zy (.Lf rfl (Nat.le_of_ble_eq_true rfl)) <| yG rfl ?_
   refine zy (.eqT rfl rfl) <| zy (.pickT rfl rfl) <| zc rfl <| yG rfl <| zf 7 rfl rfl <| yG rfl <| zy (.Lf rfl (Nat.le_of_ble_eq_true rfl)) <| yG rfl <| zf 7 rfl rfl <| yG rfl <| zy (.Lf rfl (Nat.le_of_ble_eq_true rfl)) <| yG rfl ?_
   refine zy (.eqT rfl rfl) <| zy (.pickT rfl rfl) <| zc rfl <| yG rfl <| zf 12 rfl rfl <| yG rfl <| zl rfl rfl <| yG rfl ?_
  refine JT.bst (e := 5) (sv := .slice none 0 0) (xs := []) (c := 0) rfl (by kernel_rfl) (by kernel_rfl) (by kernel_rfl) rfl ?_
  focus
   refine yG rfl <| zf 12 rfl rfl <| yG rfl <| zl rfl rfl <| yG rfl ?_
  refine JT.bst (e := 5) (sv := .slice none 0 0) (xs := []) (c := 0) rfl (by kernel_rfl) (by kernel_rfl) (by kernel_rfl) rfl ?_
  focus
   refine yG rfl <| zc rfl <| zy (.pickT rfl rfl) <| zc rfl <| zd <| zr <| yR (.t rfl .nil) ?_ (.of (.d (.d (.d .rf))))
  simp only [mkRet]; simp
theorem r9SameState_zero (F : List Assn) : Meets Tryz.prog 17 [.agg zPs.toArray, .agg zPs.toArray] F (Det (.bool true) F) := by
  refine Meets.intro b17 k17 (by simp) ?_
  refine J.nilS byteC 1 false (by decide) ?_
  focus
   refine zs <| yB rfl fun b2 => yB rfl fun b3 => zc rfl <| zfw [_, _, _, _, _] rfl rfl rfl rfl <| zfw [_, _, _, _, _] rfl rfl rfl rfl <| zy (.eqs rfl rfl (by repeat (first | exact EqC.nil | apply EqC.i | apply EqC.b | apply EqC.s))) ?_
   refine zc rfl <| yG rfl <| zf 5 rfl rfl <| yG rfl <| zl rfl rfl <| yG rfl ?_
  refine JT.bst (e := 5) (xs := []) (c := 0) rfl (by kernel_rfl) (by kernel_rfl) (by kernel_rfl) rfl ?_
  focus
   refine yG rfl <| zf 5 rfl rfl <| yG rfl <| zl rfl rfl <| yG rfl ?_
  refine JT.bst (e := 5) (xs := []) (c := 0) rfl (by kernel_rfl) (by kernel_rfl) (by kernel_rfl) rfl ?_
  focus
   refine yG rfl <| zc rfl <| zy (.pickF rfl rfl) <| zc rfl <| zh rfl rfl (fun h1 => .fa' 6 rfl rfl) <| zh rfl rfl (fun h1 => by rw [h1]; exact .L rfl rfl) <| zh rfl rfl (fun h1 => .fa' 6 rfl rfl) <| zh rfl rfl (fun h1 => by rw [h1]; exact .L rfl rfl) <| zh rfl rfl (fun h1 => by rw [h1]; exact .calc rfl) <| zy (.pickO rfl rfl rfl) <| zc rfl <| zh rfl rfl (fun h1 => .fa' 7 rfl rfl) ?_
   refine zh rfl rfl (fun h1 => by rw [h1]; exact .L rfl rfl) <| zh rfl rfl (fun h1 => .fa' 7 rfl rfl) <| zh rfl rfl (fun h1 => by rw [h1]; exact .L rfl rfl) <| zh rfl rfl (fun h1 => by rw [h1]; exact .calc rfl) <| zy (.pickO rfl rfl rfl) <| zc rfl <| zh rfl rfl (fun h1 => .fa' 8 rfl rfl) <| zh rfl rfl (fun h1 => by rw [h1]; exact .L rfl rfl) <| zh rfl rfl (fun h1 => by rw [h1]; exact .calc rfl) <| zh rfl rfl (fun h1 => .fa' 8 rfl rfl) <| zh rfl rfl (fun h1 => by rw [h1]; exact .L rfl rfl) <| zh rfl rfl (fun h1 => by rw [h1]; exact .calc rfl) ?_
   refine zh rfl rfl (fun h1 => by rw [h1]; exact .cneF rfl rfl (by omega)) <| zy (.pickO rfl rfl rfl) <| zd <| zq <| zi rfl (fun h1 => ?_) (fun h1 => ?_)
   refine zs <| zc rfl <| zd <| zr <| yR (.t rfl .nil) ?_ (.of (.d (.d (.d .rf))))
   rotate_left
   refine zk <| zs <| zc rfl <| zd <| zq <| zb ?_
   rotate_left
  · exfalso; simp at h1
  refine J.lp (ι := Unit) (fun _ => True) (fun _ => [(5, i64 0)]) (fun _ => _) (fun _ => 0) () trivial (by exact subxR rfl) (Up.refl _) (fun _ _ => ?_)
  focus
   refine zs <| zc rfl <| zfl rfl rfl rfl <| zc rfl <| zy (.cltF rfl rfl (by omega)) <| zd <| zq <| zu rfl <| zx <| zs <| zc rfl <| zd ?_
   refine zr <| yR (.t rfl .nil) rfl (.of (.d (.d (.d .rf))))
theorem PeerNobody_fn (a : SL.Ask) (w : Vec) (F : List Assn) : Meets Tryz.prog 6 [askv a, vv w] F (Det (.bool true) F) := by
  refine Meets.intro b6 k6 (by simp) ?_
  focus
   refine zs <| yB rfl fun b2 => yB rfl fun b3 => zc rfl <| zg rfl <| yB rfl fun b14 => ?_
  refine JT.bslE popC [none, some b14] (by show Cells _ _ [Value.pointer none, ptr b14]; (repeat (first | exact Cells.nil | apply Cells.z | (apply Cells.cl; rfl; rfl; rfl)))) rfl (by decide) (by decide) popC_one (fun a15 => ?_)
  focus
   refine zc rfl <| zc rfl <| zd <| zq <| zb ?_
  have hz := fun F => peAsk_zero (b := b14) (T := 75) 1 a F
  have hz2 := fun F => peWill_zero (b := b14) (T := 75) w F
  have hz3 := fun F => peOpen_zero (b := b14) (T := 75) F
  have hz4 := fun F => peState_zero (b := b14) (T := 75) F
  refine J.lp (ι := Nat) (fun k => k ≤ 2) (fun k => [(17, i64 (k : Int))]) (fun _ => SlT true popC 1 (.slice a15 2 2) 2 [none, some b14] :: pc b14 75 zPeC :: pc b3 27 (vecC w) :: pc b2 47 (askC a) :: F) (fun k => 2 - k) 0 (by omega) (by exact subxR rfl) (.of (.t0 (.t0 (.t0 (.t0 .rf))))) (fun k hk => ?_)
  have hk' : k = 0 ∨ k = 1 ∨ k = 2 := by omega
  rcases hk' with rfl | rfl | rfl
  · focus
     refine zs <| zy (.cltT rfl rfl (by (try simp only [List.length_nil, List.length_cons, List.length_append, List.length_take, List.length_drop, List.length_set]); omega)) <| zd <| zq <| zt rfl <| zk <| zq <| zb <| zs <| zy (.iC rfl rfl (by (try simp only [List.length_nil, List.length_cons, List.length_append, List.length_take, List.length_drop, List.length_set]); omega)) <| zy (.LE0 rfl (by (try simp only [List.length_nil, List.length_cons, List.length_append, List.length_take, List.length_drop, List.length_set]); omega) rfl) <| zw rfl rfl ?_
     refine yD rfl rfl (.of .rf) (peAsk_nil _ _ _) <| zc rfl <| zc rfl <| zw rfl rfl <| yD rfl rfl (.of .rf) (peWill_nil _ _) <| zc rfl <| zc rfl <| yN fun b10 => yW rfl rfl rfl rfl rfl <| zy (.cneF rfl rfl (by decide)) <| yG rfl <| zy (.cneF rfl rfl (by decide)) ?_
     refine zy (.pickF rfl rfl) <| yG rfl <| zc rfl <| yG rfl <| yD rfl rfl (.of .rf) (peOpen_nil _) <| yG rfl <| zc rfl <| yG rfl <| zy (.addN rfl rfl (by omega)) <| yG rfl <| zy (.cneF rfl rfl (by omega)) <| zy (.pickF rfl rfl) ?_
     refine yG rfl <| zw rfl rfl <| yG rfl <| zg rfl <| yG rfl <| yD rfl rfl (.of .rf) (r9SameAnswer_zero _) <| yG rfl <| zc rfl <| zy (.pickF rfl rfl) <| yG rfl <| yD rfl rfl (.of .rf) (peState_nil _) <| yG rfl ?_
     refine zg rfl <| yG rfl <| yD rfl rfl (.of .rf) (r9SameState_zero _) <| yG rfl <| zc rfl <| zy (.pickF rfl rfl) <| zd <| zu rfl <| zk <| zo <| zy (.addN rfl rfl (by omega)) <| zd ?_
     refine ⟨_, ?_, (by omega), (subxR rfl), (.of (.t1 (.t1 (.t1 (.t1 (.d .rf))))))⟩
     omega
  · focus
     refine zs <| zy (.cltT rfl rfl (by (try simp only [List.length_nil, List.length_cons, List.length_append, List.length_take, List.length_drop, List.length_set]); omega)) <| zd <| zq <| zt rfl <| zk <| zq <| zb <| zs <| zy (.iC rfl rfl (by (try simp only [List.length_nil, List.length_cons, List.length_append, List.length_take, List.length_drop, List.length_set]); omega)) <| zy (.LE0 rfl (by (try simp only [List.length_nil, List.length_cons, List.length_append, List.length_take, List.length_drop, List.length_set]); omega) rfl) <| zw rfl rfl ?_
     refine yD rfl rfl (.of (.t1 .rf)) (hz _) <| zc rfl <| zc rfl <| zw rfl rfl <| yD rfl rfl (.of (.t0 .rf)) (hz2 _) <| zc rfl <| zc rfl <| yN fun b10 => yW rfl rfl rfl rfl rfl <| zy (.cneF rfl rfl (by decide)) <| yG rfl <| zy (.cneF rfl rfl (by decide)) ?_
     refine zy (.pickF rfl rfl) <| yG rfl <| zc rfl <| yG rfl <| yD rfl rfl (.of (.t1 .rf)) (hz3 _) <| yG rfl <| zc rfl <| yG rfl <| zy (.addN rfl rfl (by omega)) <| yG rfl <| zy (.cneF rfl rfl (by omega)) <| zy (.pickF rfl rfl) ?_
     refine yG rfl <| zw rfl rfl <| yG rfl <| zg rfl <| yG rfl <| yD rfl rfl (.of .rf) (r9SameAnswer_zero _) <| yG rfl <| zc rfl <| zy (.pickF rfl rfl) <| yG rfl <| yD rfl rfl (.of (.t0 .rf)) (hz4 _) <| yG rfl ?_
     refine zg rfl <| yG rfl <| yD rfl rfl (.of .rf) (r9SameState_zero _) <| yG rfl <| zc rfl <| zy (.pickF rfl rfl) <| zd <| zu rfl <| zk <| zo <| zy (.addN rfl rfl (by omega)) <| zd ?_
     refine ⟨_, ?_, (by omega), (subxR rfl), (.of (.t2 (.t0 (.t1 (.t1 (.d .rf))))))⟩
     omega
  · focus
     refine zs <| zy (.cltF rfl rfl (by (try simp only [List.length_nil, List.length_cons, List.length_append, List.length_take, List.length_drop, List.length_set]); omega)) <| zd <| zq <| zu rfl <| zx <| zs <| yD rfl rfl (.of .rf) (l09alive_fn _) <| zd <| zr <| yR (.t rfl .nil) rfl (.of (.d (.d (.d (.d .rf)))))
end Go.Proofs.YtmeajliiloaegaaGreat
