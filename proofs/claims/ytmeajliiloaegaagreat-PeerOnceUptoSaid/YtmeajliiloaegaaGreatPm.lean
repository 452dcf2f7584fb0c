/- Layer 9: the ends of a height; peers that may be, and the reference's. Conditions: none. -/
import Derived.Test.YtmeajliiloaegaaGreatPi
import Derived.Test.YtmeajliiloaegaaGreatVc
import Derived.Test.YtmeajliiloaegaaGreatBcd
import Derived.Test.YtmeajliiloaegaaGreatBj
set_option linter.unusedSimpArgs false
set_option linter.unusedVariables false
set_option maxRecDepth 100000
set_option maxHeartbeats 4000000
namespace Go.SL
open Go
def hOk (h : Int) : Prop := 0 ≤ h ∧ h ≤ 32
instance (h : Int) : Decidable (hOk h) := by unfold hOk; infer_instance
def endR (high : Bool) (h : Int) : Ref := if high then ⟨1, ⟨3, 0⟩, ⟨h, 0⟩⟩ else ⟨0, ⟨1, 0⟩, ⟨h, 0⟩⟩
def meOk (me : Ref) (v : List UInt8) : Prop := (me.key.rank = 2 ∧ vecOk me.vec ∧ 2 ≤ me.id ∧ me.id < 1024) ∧ v.length ≤ 1024
instance (me : Ref) (v : List UInt8) : Decidable (meOk me v) := by unfold meOk; infer_instance
/-- The reference's peer, new. -/
def r9C (me : Ref) (a : Option Addr) (n c : Nat) (e : Bool) : List Value := [i64 me.id, i64 me.key.rank, u64 me.key.n, i64 me.vec.len, u64 me.vec.bits, .slice a n c, .bool e, .bool e, .bool false, .slice none 0 0, .slice none 0 0]
end Go.SL
namespace Go.Proofs.YtmeajliiloaegaaGreat
open Go Go.SL
attribute [local irreducible] pc rc SlT Me Mt It pt ro pur ex sep old Meets
attribute [local irreducible] LockP RecP RecsA LinksP LinksH RdA PeW PeP PeI
theorem peEnd_fn (high : Bool) (h : Int) (F : List Assn) : Meets Tryz.prog 45 [.bool high, i64 h] F (Det (.tuple #[rv (if hOk h then endR high h else zR), i64 (if hOk h then 0 else 90)]) F) := by
  refine Meets.intro b45 k45 (by simp) ?_
  by_cases hh : hOk h
  · rw [if_pos hh, if_pos hh]
    obtain ⟨h0, h1⟩ := hh
    cases high
    · focus
       refine zs <| yN fun b4 => zc rfl <| zy (.cltF rfl rfl (by omega)) <| yG rfl <| zy (.cgtF rfl rfl (by omega)) <| zy (.pickF rfl rfl) <| zd <| zq <| zu rfl <| zk <| zs ?_
       refine zg rfl <| zg rfl <| zg rfl <| yN fun b6 => yW rfl rfl rfl rfl rfl <| zc rfl <| zd <| zq <| zu rfl <| zk <| zs <| zw rfl rfl ?_
       refine yW rfl rfl rfl rfl rfl <| zc rfl <| zd <| zr <| yR (.w rfl rfl (.t rfl .nil)) rfl (.of (.d (.d .rf)))
    · focus
       refine zs <| yN fun b4 => zc rfl <| zy (.cltF rfl rfl (by omega)) <| yG rfl <| zy (.cgtF rfl rfl (by omega)) <| zy (.pickF rfl rfl) <| zd <| zq <| zu rfl <| zk <| zs ?_
       refine zg rfl <| zg rfl <| zg rfl <| yN fun b6 => yW rfl rfl rfl rfl rfl <| zc rfl <| zd <| zq <| zt rfl <| zo <| zf 0 rfl rfl <| yS (us := [_]) rfl rfl rfl rfl rfl (Nat.le_of_ble_eq_true rfl) (by simp only [lput]; rfl) ?_
       refine zf 1 rfl rfl <| zf 1 rfl rfl <| yS (us := [_]) rfl rfl rfl rfl rfl (Nat.le_of_ble_eq_true rfl) (by simp only [lput]; rfl) <| zd <| zs <| zw rfl rfl <| yW rfl rfl rfl rfl rfl <| zc rfl <| zd <| zr <| yR (.w rfl rfl (.t rfl .nil)) rfl (.of (.d (.d .rf)))
  · rw [if_neg hh, if_neg hh]
    unfold hOk at hh
    focus
     refine zs <| yN fun b4 => zc rfl <| zj rfl rfl rfl <| zh rfl rfl (fun h1 => .int rfl rfl rfl) <| zy (.pickO rfl rfl rfl) <| zd <| zq <| zi rfl (fun h1 => ?_) (fun h1 => ?_)
     refine zs <| zg rfl <| yW rfl rfl rfl rfl rfl <| zc rfl <| zd <| zr <| yR (.w rfl rfl (.t rfl .nil)) rfl (.of (.d .rf))
     (exfalso; omega)
theorem peHead_fn (h : Int) (F : List Assn) : Meets Tryz.prog 22 [i64 h] F (Det (.tuple #[rv (if hOk h then endR false h else zR), i64 (if hOk h then 0 else 90)]) F) := by
  refine Meets.intro b22 k22 (by simp) ?_
  focus
   refine zs <| yN fun b2 => zc rfl <| yD rfl rfl (.of .rf) (peEnd_fn _ _ _) <| zc rfl <| zc rfl <| yW rfl rfl rfl rfl rfl <| zc rfl <| zd <| zr <| yR (.w rfl rfl (.t rfl .nil)) rfl (.of (.d .rf))
theorem peTail_fn (h : Int) (F : List Assn) : Meets Tryz.prog 23 [i64 h] F (Det (.tuple #[rv (if hOk h then endR true h else zR), i64 (if hOk h then 0 else 90)]) F) := by
  refine Meets.intro b23 k23 (by simp) ?_
  focus
   refine zs <| yN fun b2 => zc rfl <| yD rfl rfl (.of .rf) (peEnd_fn _ _ _) <| zc rfl <| zc rfl <| yW rfl rfl rfl rfl rfl <| zc rfl <| zd <| zr <| yR (.w rfl rfl (.t rfl .nil)) rfl (.of (.d .rf))
theorem r9Head_fn (h : Int) (F : List Assn) : Meets Tryz.prog 47 [i64 h] F (Det (.tuple #[rv (if hOk h then endR false h else zR), i64 (if hOk h then 0 else 90)]) F) := by
  refine Meets.intro b47 k47 (by simp) ?_
  by_cases hh : hOk h
  · rw [if_pos hh, if_pos hh]
    obtain ⟨h0, h1⟩ := hh
    focus
     refine zs <| yN fun b2 => zc rfl <| zy (.cltF rfl rfl (by omega)) <| yG rfl <| zy (.cgtF rfl rfl (by omega)) <| zy (.pickF rfl rfl) <| zd <| zq <| zu rfl <| zk <| zs ?_
     refine zg rfl <| zg rfl <| zg rfl <| yW rfl rfl rfl rfl rfl <| zc rfl <| zd <| zr <| yR (.w rfl rfl (.t rfl .nil)) rfl (.of (.d .rf))
  · rw [if_neg hh, if_neg hh]
    unfold hOk at hh
    focus
     refine zs <| yN fun b2 => zc rfl <| zj rfl rfl rfl <| zh rfl rfl (fun h1 => .int rfl rfl rfl) <| zy (.pickO rfl rfl rfl) <| zd <| zq <| zi rfl (fun h1 => ?_) (fun h1 => ?_)
     refine zs <| zg rfl <| yW rfl rfl rfl rfl rfl <| zc rfl <| zd <| zr <| yR (.w rfl rfl (.t rfl .nil)) rfl (.of (.d .rf))
     (exfalso; omega)
theorem r9Tail_fn (h : Int) (F : List Assn) : Meets Tryz.prog 48 [i64 h] F (Det (.tuple #[rv (if hOk h then endR true h else zR), i64 (if hOk h then 0 else 90)]) F) := by
  refine Meets.intro b48 k48 (by simp) ?_
  by_cases hh : hOk h
  · rw [if_pos hh, if_pos hh]
    obtain ⟨h0, h1⟩ := hh
    focus
     refine zs <| yN fun b2 => zc rfl <| zy (.cltF rfl rfl (by omega)) <| yG rfl <| zy (.cgtF rfl rfl (by omega)) <| zy (.pickF rfl rfl) <| zd <| zq <| zu rfl <| zk <| zs ?_
     refine zg rfl <| zg rfl <| zg rfl <| yW rfl rfl rfl rfl rfl <| zc rfl <| zd <| zr <| yR (.w rfl rfl (.t rfl .nil)) rfl (.of (.d .rf))
  · rw [if_neg hh, if_neg hh]
    unfold hOk at hh
    focus
     refine zs <| yN fun b2 => zc rfl <| zj rfl rfl rfl <| zh rfl rfl (fun h1 => .int rfl rfl rfl) <| zy (.pickO rfl rfl rfl) <| zd <| zq <| zi rfl (fun h1 => ?_) (fun h1 => ?_)
     refine zs <| zg rfl <| yW rfl rfl rfl rfl rfl <| zc rfl <| zd <| zr <| yR (.w rfl rfl (.t rfl .nil)) rfl (.of (.d .rf))
     (exfalso; omega)
theorem r9Less_fn (a b : SL.Key) (F : List Assn) : Meets Tryz.prog 11 [kv a, kv b] F (Det (.bool (decide (keyLt a b))) F) := by
  refine Meets.intro b11 k11 (by simp) ?_
  unfold keyLt
  focus
   refine zs <| yB rfl fun b2 => yB rfl fun b3 => zc rfl <| zfl rfl rfl rfl <| zfl rfl rfl rfl <| zj rfl rfl rfl <| zn rfl (fun h1 => ?_) (fun h1 => ?_)
   refine zf 0 rfl rfl <| yF rfl (by assumption) <| zl rfl rfl <| yF rfl (by assumption) <| zf 0 rfl rfl <| yF rfl (by assumption) <| zl rfl rfl <| yF rfl (by assumption) <| zj rfl rfl rfl <| yF rfl (by assumption) <| zc rfl <| zp rfl (fun h2 => ?_) (fun h2 => ?_)
   refine zf 1 rfl rfl <| yT rfl (by assumption) <| zl rfl rfl <| yT rfl (by assumption) <| zf 1 rfl rfl <| yT rfl (by assumption) <| zl rfl rfl <| yT rfl (by assumption) <| zj rfl rfl rfl <| yF rfl (by assumption) <| zy (.pickTp rfl (by assumption) rfl) <| zy (.pickFp rfl (by assumption) rfl) ?_
   refine zd <| zr <| yR (.t rfl .nil) ?_ (.of (.d (.d .rf)))
   rotate_left
   refine yTs rfl (by assumption) <| yTs rfl (by assumption) <| yTs rfl (by assumption) <| yTs rfl (by assumption) <| yF rfl (by assumption) <| zy (.pickFp rfl (by assumption) rfl) <| zy (.pickFp rfl (by assumption) rfl) <| zd <| zr <| yR (.t rfl .nil) ?_ (.of (.d (.d .rf)))
   rotate_left
   refine yFs rfl (by assumption) <| yFs rfl (by assumption) <| yFs rfl (by assumption) <| yFs rfl (by assumption) <| yFs rfl (by assumption) <| JT.skipU rfl <| JT.skipU rfl <| JT.skipU rfl <| JT.skipU rfl <| JT.skipU rfl <| yFs rfl (by assumption) <| zy (.pickTp rfl (by assumption) rfl) ?_
   refine zd <| zr <| yR (.t rfl .nil) ?_ (.of (.d (.d .rf)))
   rotate_left
  all_goals (simp only [mkRet]; congr 1; grind)
theorem pePEnd_no (high : Bool) (h : Int) (F : List Assn) (hh : ¬ hOk h) : Meets Tryz.prog 18 [.bool high, i64 h] F (Det (.tuple #[.pointer none, i64 90]) F) := by
  refine Meets.intro b18 k18 (by simp) ?_
  have h1 := fun F => peEnd_fn high h F
  simp only [if_neg hh] at h1
  focus
   refine zs <| zc rfl <| zc rfl <| yD rfl rfl (.of .rf) (h1 _) <| zc rfl <| zc rfl <| yN fun b6 => yW rfl rfl rfl rfl rfl <| zc rfl <| zy (.cneT rfl rfl (by decide)) <| zd <| zq ?_
   refine zt rfl <| zs <| zc rfl <| zc rfl <| zd <| zr <| yR (.t rfl (.t rfl .nil)) rfl (.of (.d .rf))
theorem pePEnd_ok (high : Bool) (h : Int) (F : List Assn) (hh : hOk h) : Meets Tryz.prog 18 [.bool high, i64 h] F (Some' (fun _ : Nat => True) (fun b => .tuple #[ptr b, i64 0]) (fun b => PeI b (Pe.new (endR high h) [] true) :: F)) := by
  refine Meets.intro b18 k18 (by simp) ?_
  have h1 := fun F => peEnd_fn high h F
  simp only [if_pos hh] at h1
  have hk : keyOk (endR high h).key := by unfold endR; cases high <;> simp [keyOk]
  have ev : (endR high h).vec = ⟨h, 0⟩ := by cases high <;> rfl
  have hv : vecOk (endR high h).vec := by rw [ev]; obtain ⟨h0, h2⟩ := hh; refine ⟨h0, h2, ?_⟩; have := two_pos h.toNat; show (0 : Int) ≤ 2 ^ h.toNat - 1; omega
  have h2 := fun F => lnNew_ok (endR high h) F hk hv
  refine J.nilS byteC 1 false (by decide) ?_
  refine J.nilS waitC 6 true (by decide) ?_
  focus
   refine zs <| zc rfl <| zc rfl <| yD rfl rfl (.of .rf) (h1 _) <| zc rfl <| zc rfl <| yN fun b6 => yW rfl rfl rfl rfl rfl <| zc rfl <| zy (.cneF rfl rfl (by decide)) <| zd <| zq ?_
   refine zu rfl <| zk <| zs <| zw rfl rfl <| yE rfl rfl (.of .rf) (h2 _) fun x21 _ => zc rfl <| zc rfl <| zw rfl rfl <| zg rfl <| yB rfl fun b4 => zc rfl <| zd ?_
   refine zr <| yQ _ (.t rfl (.t rfl .nil)) trivial rfl (.of (PeI.fold .here .here (.there (.there .here)) (.there .here) (.d .rf)))
theorem peNew_no {a : Option Addr} {c : Nat} {xs : List UInt8} (me : SL.Ref) {F : List Assn} [Hs : HS F (.slice a xs.length c) UInt8 byteC 1 c xs] (hh : ¬ meOk me xs) : Meets Tryz.prog 20 [rv me, .slice a xs.length c] F (Det (.tuple #[.pointer none, i64 90]) F) := by
  refine Meets.intro b20 k20 (by simp) ?_
  unfold meOk at hh
  focus
   refine zs <| yB rfl fun b2 => zc rfl <| zc rfl <| zf 1 rfl rfl <| zfl rfl rfl rfl <| zj rfl rfl rfl <| zp rfl (fun h1 => ?_) (fun h1 => ?_)
   refine zf 3 rfl rfl <| yT rfl (by assumption) <| zy (.Lf rfl (Nat.le_of_ble_eq_true rfl)) <| yT rfl (by assumption) <| yD rfl rfl (.of .rf) (vRight_fn _ _) <| yT rfl (by assumption) <| zj rfl rfl rfl <| zy (.pickTp rfl (by assumption) rfl) <| zm rfl rfl (fun h2 => .fa' 0 rfl rfl) <| zm rfl rfl (fun h2 => by rw [h2]; exact .L rfl rfl) <| zm rfl rfl (fun h2 => by rw [h2]; exact .int rfl rfl rfl) <| zy (.pickA rfl rfl rfl) ?_
   refine zm rfl rfl (fun h2 => .fa' 0 rfl rfl) <| zm rfl rfl (fun h2 => by rw [h2]; exact .L rfl rfl) <| zm rfl rfl (fun h2 => by rw [h2]; exact .int rfl rfl rfl) <| zy (.pickA rfl rfl rfl) <| zc rfl <| zh rfl rfl (fun h2 => .calc rfl) <| zh rfl rfl (fun h2 => by rw [h2]; exact .int rfl rfl rfl) <| zy (.pickO rfl rfl rfl) <| zd <| zq <| zi rfl (fun h2 => ?_) (fun h2 => ?_)
   refine zs <| zc rfl <| zc rfl <| zd <| zr <| yR (.t rfl (.t rfl .nil)) rfl (.of (.d .rf))
   refine zk <| zs <| zw rfl rfl ?_
   rotate_left
   refine yTs rfl (by assumption) <| yTs rfl (by assumption) <| yTs rfl (by assumption) <| zy (.pickFp rfl (by assumption) rfl) <| zv rfl rfl <| zv rfl rfl <| zv rfl rfl <| zy (.pickF rfl rfl) <| zv rfl rfl <| zv rfl rfl <| zv rfl rfl <| zy (.pickF rfl rfl) ?_
   refine zc rfl <| zv rfl rfl <| zv rfl rfl <| zy (.pickT rfl rfl) <| zd <| zq <| zt rfl <| zs <| zc rfl <| zc rfl <| zd <| zr ?_
   refine yR (.t rfl (.t rfl .nil)) rfl (.of (.d .rf))
  all_goals exact absurd ⟨⟨h1, h2.1.1.1, by omega, by omega⟩, by omega⟩ hh
theorem peNew_ok {a : Option Addr} {c : Nat} {xs : List UInt8} (me : SL.Ref) {F : List Assn} [Hs : HS F (.slice a xs.length c) UInt8 byteC 1 c xs] (hh : meOk me xs) :
    Meets Tryz.prog 20 [rv me, .slice a xs.length c] F (Some' (fun _ : Nat => True) (fun b => .tuple #[ptr b, i64 0]) (fun b => PeI b (Pe.new me xs false) :: F)) := by
  refine Meets.intro b20 k20 (by simp) ?_
  obtain ⟨⟨g1, g2, g3, g4⟩, g5⟩ := hh
  have h2 := fun F => lnNew_ok me F (by unfold keyOk; omega) g2
  refine J.nilS waitC 6 true (by decide) ?_
  focus
   refine zs <| yB rfl fun b2 => zc rfl <| zc rfl <| zf 1 rfl rfl <| zfl rfl rfl rfl <| zy (.ceqT rfl rfl (by omega)) <| yG rfl <| zf 3 rfl rfl <| yG rfl <| zy (.Lf rfl (Nat.le_of_ble_eq_true rfl)) <| yG rfl ?_
   refine yD rfl rfl (.of .rf) (vRight_fn _ _) <| yG rfl <| zj rfl rfl rfl <| zy (.pickT rfl rfl) <| yT rfl (by assumption) <| zf 0 rfl rfl <| yT rfl (by assumption) <| zl rfl rfl <| yT rfl (by assumption) <| zy (.cgeT rfl rfl (by omega)) <| zy (.pickTp rfl (by assumption) rfl) <| yG rfl ?_
   refine zf 0 rfl rfl <| yG rfl <| zl rfl rfl <| yG rfl <| zy (.cltT rfl rfl (by omega)) <| zy (.pickT rfl rfl) <| zc rfl <| yG rfl <| zc rfl <| yG rfl <| zy (.cgtF rfl rfl (by omega)) <| zy (.pickF rfl rfl) ?_
   refine zd <| zq <| zu rfl <| zk <| zs <| zw rfl rfl <| yE rfl rfl (.of .rf) (h2 _) fun x38 _ => zc rfl <| zc rfl <| zw rfl rfl <| yE rfl rfl (.of .rf) (byClone_fn (by omega)) fun ⟨a43, c43⟩ _ => JT.yA rfl (Ev.Lw rfl rfl) ?_
   refine zg rfl <| yB rfl fun b4 => zc rfl <| zd <| zr <| yQ _ (.t rfl (.t rfl .nil)) trivial rfl (.of (PeI.fold .here (.there .here) .here (.there .here) (.d .rf)))
theorem r9New_no {a : Option Addr} {c : Nat} {xs : List UInt8} (me : SL.Ref) {F : List Assn} [Hs : HS F (.slice a xs.length c) UInt8 byteC 1 c xs] (hh : ¬ meOk me xs) : Meets Tryz.prog 21 [rv me, .slice a xs.length c] F (Det (.tuple #[.pointer none, i64 90]) F) := by
  refine Meets.intro b21 k21 (by simp) ?_
  unfold meOk at hh
  focus
   refine zs <| yB rfl fun b2 => zc rfl <| zc rfl <| zf 1 rfl rfl <| zfl rfl rfl rfl <| zj rfl rfl rfl <| zn rfl (fun h1 => ?_) (fun h1 => ?_)
   refine zf 3 rfl rfl <| yF rfl (by assumption) <| zy (.Lf rfl (Nat.le_of_ble_eq_true rfl)) <| yF rfl (by assumption) <| yD rfl rfl (.of .rf) (r1Right_fn _ _) <| yF rfl (by assumption) <| zc rfl <| zy (.pickFp rfl (by assumption) rfl) <| zh rfl rfl (fun h2 => .fa' 0 rfl rfl) <| zh rfl rfl (fun h2 => by rw [h2]; exact .L rfl rfl) <| zh rfl rfl (fun h2 => by rw [h2]; exact .int rfl rfl rfl) <| zy (.pickO rfl rfl rfl) ?_
   refine zh rfl rfl (fun h2 => .fa' 0 rfl rfl) <| zh rfl rfl (fun h2 => by rw [h2]; exact .L rfl rfl) <| zh rfl rfl (fun h2 => by rw [h2]; exact .int rfl rfl rfl) <| zy (.pickO rfl rfl rfl) <| zh rfl rfl (fun h2 => .calc rfl) <| zh rfl rfl (fun h2 => by rw [h2]; exact .int rfl rfl rfl) <| zy (.pickO rfl rfl rfl) <| zd <| zq <| zi rfl (fun h2 => ?_) (fun h2 => ?_)
   refine zs <| zc rfl <| zc rfl <| zd <| zr <| yR (.t rfl (.t rfl .nil)) rfl (.of (.d .rf))
   refine zk <| zs <| zw rfl rfl <| JT.b0 fun a32 => ?_
   (refine JT.A3 rfl rfl rfl (by decide) (by simp; omega) (fun a34 c34 hc34 => ?_))
   refine JT.yA rfl (Ev.Lw rfl rfl) <| zg rfl <| yB rfl fun b4 => zc rfl <| zd <| zr <| yR (.t rfl (.t rfl .nil)) ?_ (.of (.d (.d (.d .rf))))
   rotate_left
   refine yFs rfl (by assumption) <| yFs rfl (by assumption) <| yFs rfl (by assumption) <| zy (.pickTp rfl (by assumption) rfl) <| zv rfl rfl <| zv rfl rfl <| zv rfl rfl <| zy (.pickT rfl rfl) <| zv rfl rfl <| zv rfl rfl <| zv rfl rfl <| zy (.pickT rfl rfl) ?_
   refine zv rfl rfl <| zv rfl rfl <| zy (.pickT rfl rfl) <| zd <| zq <| zt rfl <| zs <| zc rfl <| zc rfl <| zd <| zr <| yR (.t rfl (.t rfl .nil)) rfl (.of (.d .rf))
  all_goals exact absurd ⟨⟨h1, by grind, by omega, by omega⟩, by omega⟩ hh
theorem r9New_ok {a : Option Addr} {c : Nat} {xs : List UInt8} (me : SL.Ref) {F : List Assn} [Hs : HS F (.slice a xs.length c) UInt8 byteC 1 c xs] (hh : meOk me xs) :
    Meets Tryz.prog 21 [rv me, .slice a xs.length c] F (Some' (fun _ : Nat × Option Addr × Nat => True) (fun b => .tuple #[ptr b.1, i64 0]) (fun b => pc b.1 59 (r9C me b.2.1 xs.length b.2.2 false) :: F)) := by
  refine Meets.intro b21 k21 (by simp) ?_
  obtain ⟨⟨g1, g2, g3, g4⟩, g5⟩ := hh
  refine J.sl Hs (fun hC hL _ => ?_)
  focus
   refine zs <| yB rfl fun b2 => zc rfl <| zc rfl <| zf 1 rfl rfl <| zfl rfl rfl rfl <| zy (.cneF rfl rfl (by omega)) <| yG rfl <| zf 3 rfl rfl <| yG rfl <| zy (.Lf rfl (Nat.le_of_ble_eq_true rfl)) <| yG rfl ?_
   refine yD rfl rfl (.of .rf) (r1Right_fn _ _) <| yG rfl <| zc rfl <| zy (.pickF rfl rfl) <| yF rfl (by assumption) <| zf 0 rfl rfl <| yF rfl (by assumption) <| zl rfl rfl <| yF rfl (by assumption) <| zy (.cltF rfl rfl (by omega)) <| zy (.pickFp rfl (by assumption) rfl) <| yG rfl ?_
   refine zf 0 rfl rfl <| yG rfl <| zl rfl rfl <| yG rfl <| zy (.cgeF rfl rfl (by omega)) <| zy (.pickF rfl rfl) <| yG rfl <| zc rfl <| yG rfl <| zy (.cgtF rfl rfl (by omega)) <| zy (.pickF rfl rfl) <| zd ?_
   refine zq <| zu rfl <| zk <| zs <| zw rfl rfl <| JT.b0 fun a32 => ?_
   (refine JT.A3 rfl rfl rfl (by decide) (by simp; omega) (fun a34 c34 hc34 => ?_))
   refine JT.yA rfl (Ev.Lw rfl rfl) <| zg rfl <| yB rfl fun b4 => zc rfl <| zd <| zr ?_
  exact retQS (b4, a34, c34) (by (repeat (first | exact Rets.nil | apply Rets.t rfl | (apply Rets.cw rfl; (· (repeat (first | exact Has.here | assumption | apply Has.there))); (· rfl)) | (apply Rets.cv rfl; (· (repeat (first | exact Has.here | assumption | apply Has.there))))))) trivial rfl (.of (.t0 (.d (.d .rf))))
theorem r9NewEnd_no (high : Bool) (h : Int) (F : List Assn) (hh : ¬ hOk h) : Meets Tryz.prog 19 [.bool high, i64 h] F (Det (.tuple #[.pointer none, i64 90]) F) := by
  refine Meets.intro b19 k19 (by simp) ?_
  have h1 := fun F => r9Head_fn h F
  have h2 := fun F => r9Tail_fn h F
  simp only [if_neg hh] at h1 h2
  cases high
  focus
   refine zs <| zc rfl <| zc rfl <| yD rfl rfl (.of .rf) (h1 _) <| zc rfl <| zc rfl <| yN fun b6 => yW rfl rfl rfl rfl rfl <| zc rfl <| zc rfl <| zd <| zq ?_
   refine zu rfl <| zk <| zs <| zy (.cneT rfl rfl (by decide)) <| zd <| zq <| zt rfl <| zs <| zc rfl <| zc rfl <| zd <| zr ?_
   refine yR (.t rfl (.t rfl .nil)) rfl (.of (.d .rf))
  focus
   refine zs <| zc rfl <| zc rfl <| yD rfl rfl (.of .rf) (h1 _) <| zc rfl <| zc rfl <| yN fun b6 => yW rfl rfl rfl rfl rfl <| zc rfl <| zc rfl <| zd <| zq ?_
   refine zt rfl <| zo <| yD rfl rfl (.of .rf) (h2 _) <| zc rfl <| zc rfl <| yW rfl rfl rfl rfl rfl <| zc rfl <| zd <| zs <| zy (.cneT rfl rfl (by decide)) <| zd <| zq ?_
   refine zt rfl <| zs <| zc rfl <| zc rfl <| zd <| zr <| yR (.t rfl (.t rfl .nil)) rfl (.of (.d .rf))
theorem r9NewEnd_ok (high : Bool) (h : Int) (F : List Assn) (hh : hOk h) : Meets Tryz.prog 19 [.bool high, i64 h] F (Some' (fun _ : Nat => True) (fun b => .tuple #[ptr b, i64 0]) (fun b => pc b 59 (r9C (endR high h) none 0 0 true) :: F)) := by
  refine Meets.intro b19 k19 (by simp) ?_
  have h1 := fun F => r9Head_fn h F
  have h2 := fun F => r9Tail_fn h F
  simp only [if_pos hh] at h1 h2
  cases high
  focus
   refine zs <| zc rfl <| zc rfl <| yD rfl rfl (.of .rf) (h1 _) <| zc rfl <| zc rfl <| yN fun b6 => yW rfl rfl rfl rfl rfl <| zc rfl <| zc rfl <| zd <| zq ?_
   refine zu rfl <| zk <| zs <| zy (.cneF rfl rfl (by decide)) <| zd <| zq <| zu rfl <| zk <| zs <| zw rfl rfl <| zg rfl <| yB rfl fun b4 => ?_
   refine zc rfl <| zd <| zr <| yQ _ (.t rfl (.t rfl .nil)) trivial rfl (.of (.t0 (.d .rf)))
  focus
   refine zs <| zc rfl <| zc rfl <| yD rfl rfl (.of .rf) (h1 _) <| zc rfl <| zc rfl <| yN fun b6 => yW rfl rfl rfl rfl rfl <| zc rfl <| zc rfl <| zd <| zq ?_
   refine zt rfl <| zo <| yD rfl rfl (.of .rf) (h2 _) <| zc rfl <| zc rfl <| yW rfl rfl rfl rfl rfl <| zc rfl <| zd <| zs <| zy (.cneF rfl rfl (by decide)) <| zd <| zq ?_
   refine zu rfl <| zk <| zs <| zw rfl rfl <| zg rfl <| yB rfl fun b4 => zc rfl <| zd <| zr <| yQ _ (.t rfl (.t rfl .nil)) trivial rfl (.of (.t0 (.d .rf)))
end Go.Proofs.YtmeajliiloaegaaGreat

set_option linter.unusedSimpArgs false
set_option linter.unusedVariables false
set_option maxRecDepth 100000
set_option maxHeartbeats 4000000
namespace Go.SL
open Go
def pH : Ref := ⟨0, ⟨1, 0⟩, ⟨3, 0⟩⟩
def pT : Ref := ⟨1, ⟨3, 0⟩, ⟨3, 0⟩⟩
def pM : Ref := ⟨2, ⟨2, 5⟩, ⟨3, 5⟩⟩
def pP0 : Pe := Pe.new pM [118] false
def pQ1 : Ask := ⟨7, zV, pH, pT, ⟨0, 1⟩⟩
def pQ2 : Ask := ⟨3, zV, zR, zR, ⟨0, 2⟩⟩
def pQ3 : Ask := ⟨4, zV, zR, zR, ⟨0, 1⟩⟩
def pP1 : Pe := (pP0.ask 7 pQ1).1
def pP2 : Pe := (pP1.ask 8 pQ2).1
def pP3 : Pe := (pP2.ask 9 pQ3).1
theorem pr1 : pQ1.ok ∧ pP1.rd = [⟨7, plainA 1⟩] := by decide
theorem pr2 : pQ2.ok ∧ pP2.rd = [] := by decide
theorem pr3 : pQ3.ok ∧ pP3.rd = [⟨9, plainA 1⟩, ⟨8, ⟨1, false, pH, pT, []⟩⟩] := by decide
theorem pI0 : pP0.lk.Inv := .new pM
theorem Pe.ask_of {P : Pe} {t : Int} {a : Ask} (h : a.ok) : P.ask t a = (({ P with rd := [] } : Pe).ask1 t a, 0) := if_pos h
theorem pI1 : pP1.lk.Inv := pI0.put zV pH pT ⟨0, 1⟩
theorem pI2 : pP2.lk.Inv := pI1.lock zV ⟨0, 2⟩
theorem rd0 {xs : List RdyE} (h : xs.map RdyE.pl = []) : xs = [] := by simpa using h
theorem rd1 {xs : List RdyE} {p : Rdy} (h : xs.map RdyE.pl = [p]) : ∃ z : Option Addr × Nat, xs = [⟨p.ticket, ⟨p.x, z.1, z.2⟩⟩] := by
  obtain ⟨y, rfl, e⟩ := List.map_eq_singleton_iff.1 h
  subst e; exact ⟨(y.x.a, y.x.c), rfl⟩
theorem rd2 {xs : List RdyE} {p q : Rdy} (h : xs.map RdyE.pl = [p, q]) : ∃ z z2 : Option Addr × Nat, xs = [⟨p.ticket, ⟨p.x, z.1, z.2⟩⟩, ⟨q.ticket, ⟨q.x, z2.1, z2.2⟩⟩] := by
  cases xs with
  | nil => cases h
  | cons y ys =>
    simp only [List.map_cons, List.cons.injEq] at h
    obtain ⟨e, h⟩ := h
    obtain ⟨z2, rfl⟩ := rd1 h
    subst e; exact ⟨(y.x.a, y.x.c), z2, rfl⟩
end Go.SL
namespace Go.Proofs.YtmeajliiloaegaaGreat
open Go Go.SL
attribute [local irreducible] pc rc SlT Me Mt It pt ro pur ex sep old Meets
attribute [local irreducible] LockP RecP RecsA LinksP LinksH RdA PeW PeP PeI
theorem l09alive_fn (F : List Assn) : Meets Tryz.prog 8 [] F (Det (.bool true) F) := by
  refine Meets.intro b8 k8 (by simp) ?_
  have q1 : ∀ F, Meets Tryz.prog 22 [i64 3] F (Det (.tuple #[rv pH, i64 0]) F) := fun F => peHead_fn 3 F
  have q2 : ∀ F, Meets Tryz.prog 23 [i64 3] F (Det (.tuple #[rv pT, i64 0]) F) := fun F => peTail_fn 3 F
  have q3 : ∀ a c F, Meets Tryz.prog 20 [rv pM, .slice a 1 c] (byO a c [118] :: F) (Some' (fun _ : Nat => True) (fun b => .tuple #[ptr b, i64 0]) (fun b => PeI b pP0 :: byO a c [118] :: F)) := fun a c F => peNew_ok (xs := [118]) pM (by decide)
  have q4 : ∀ b F, Meets Tryz.prog 9 [ptr b, i64 7, askv pQ1] (PeI b pP0 :: F) (Some' (fun _ : (Option Addr × Nat) × (Option Addr × Nat) => True) (fun x => .tuple #[.slice x.1.1 1 x.1.2, i64 0]) (fun x => SlT true rdyC 14 (.slice x.1.1 1 x.1.2) x.1.2 [⟨7, ⟨plainA 1, x.2.1, x.2.2⟩⟩] :: PeI b pP1 :: F)) := fun b F => by
    refine (peAsk_fn b pP0 7 pQ1 F pI0 (by decide) (by decide)).post ?_
    rintro v c ⟨x, hx, rfl, rfl⟩
    obtain ⟨a1, c1, rs⟩ := x
    rw [if_pos pr1.1] at hx
    obtain ⟨z, rfl⟩ := rd1 (hx.trans pr1.2)
    exact ⟨_, Up.of (Imp.cons Imp.drop), ((a1, c1), z), trivial, rfl, rfl⟩
  have q5 : ∀ b F, Meets Tryz.prog 9 [ptr b, i64 8, askv pQ2] (PeI b pP1 :: F) (Some' (fun _ : Option Addr × Nat => True) (fun x => .tuple #[.slice x.1 0 x.2, i64 0]) (fun x => SlT true rdyC 14 (.slice x.1 0 x.2) x.2 [] :: PeI b pP2 :: F)) := fun b F => by
    refine (peAsk_fn b pP1 8 pQ2 F pI1 (by decide) (by decide)).post ?_
    rintro v c ⟨x, hx, rfl, rfl⟩
    obtain ⟨a1, c1, rs⟩ := x
    rw [if_pos pr2.1] at hx
    obtain rfl := rd0 (hx.trans pr2.2)
    exact ⟨_, Up.of (Imp.cons Imp.drop), (a1, c1), trivial, rfl, rfl⟩
  have q6 : ∀ b F, Meets Tryz.prog 9 [ptr b, i64 9, askv pQ3] (PeI b pP2 :: F) (Some' (fun _ : (Option Addr × Nat) × (Option Addr × Nat) × (Option Addr × Nat) => True) (fun x => .tuple #[.slice x.1.1 2 x.1.2, i64 0]) (fun x => SlT true rdyC 14 (.slice x.1.1 2 x.1.2) x.1.2 [⟨9, ⟨plainA 1, x.2.1.1, x.2.1.2⟩⟩, ⟨8, ⟨⟨1, false, pH, pT, []⟩, x.2.2.1, x.2.2.2⟩⟩] :: F)) := fun b F => by
    refine (peAsk_fn b pP2 9 pQ3 F pI2 (by decide) (by decide)).post ?_
    rintro v c ⟨x, hx, rfl, rfl⟩
    obtain ⟨a1, c1, rs⟩ := x
    rw [if_pos pr3.1] at hx
    obtain ⟨z, z2, rfl⟩ := rd2 (hx.trans pr3.2)
    exact ⟨_, Up.of (Imp.cons (Imp.trans Imp.drop Imp.drop)), ((a1, c1), z, z2), trivial, rfl, rfl⟩
  focus
   refine zs <| zc rfl <| yD rfl rfl (.of .rf) (q1 _) <| zc rfl <| zc rfl <| zc rfl <| yN fun b1 => yW rfl rfl rfl rfl rfl <| zc rfl <| yD rfl rfl (.of .rf) (q2 _) <| zc rfl <| zc rfl ?_
   refine zc rfl <| yN fun b3 => yW rfl rfl rfl rfl rfl <| zc rfl <| zg rfl <| zg rfl <| zg rfl <| JT.bsl1 (by repeat (first | exact Cells.nil | apply Cells.z | (apply Cells.cl; rfl; rfl; rfl))) (by simp only [List.length_cons, List.length_nil, Nat.reduceAdd]; rfl) (by decide) (by rfl) fun a27 => ?_
  refine JT.cvs (e := 5) rfl (by kernel_rfl) (by kernel_rfl) (by (repeat (first | exact Has.here | assumption | apply Has.there))) (by simp) rfl ?_
  refine JT.imp (SlT.ty (enc := byteC) [118] rfl) ?_
  focus
   refine yE rfl rfl (.of (.t0 .rf)) (q3 _ _ _) fun x29 _ => zc rfl <| zc rfl <| zc rfl <| zc rfl <| zc rfl <| zc rfl <| zy (.cneF rfl rfl (by decide)) <| zc rfl <| yG rfl <| zc rfl <| yG rfl ?_
   refine zy (.cneF rfl rfl (by decide)) <| zy (.pickF rfl rfl) <| zc rfl <| yG rfl <| zc rfl <| yG rfl <| zy (.cneF rfl rfl (by decide)) <| zy (.pickF rfl rfl) <| zc rfl <| yG rfl <| zc rfl <| yG rfl ?_
   refine zc rfl <| zy (.pickF rfl rfl) <| zd <| zq <| zu rfl <| zk <| zs <| zg rfl <| zg rfl <| yN fun b7 => yN fun b8 => yW rfl rfl rfl rfl rfl ?_
   refine yW rfl rfl rfl rfl rfl <| zc rfl <| zw rfl rfl <| zw rfl rfl <| zw rfl rfl <| zg rfl <| yE rfl rfl (.of (.t2 .rf)) (q4 _ _) fun ⟨a54, c54⟩ _ => zc rfl <| zc rfl <| zc rfl <| zc rfl <| zc rfl ?_
   refine zc rfl <| zw rfl rfl <| zg rfl <| yE rfl rfl (.of (.t1 .rf)) (q5 _ _) fun ⟨a61, c61⟩ _ => zc rfl <| zc rfl <| zc rfl <| zc rfl <| zc rfl <| zc rfl <| zw rfl rfl <| zg rfl ?_
   refine yE rfl rfl (.of (.t1 .rf)) (q6 _ _) fun ⟨a68, c68⟩ _ => zc rfl <| zc rfl <| zc rfl <| zc rfl <| zc rfl <| zc rfl <| zy (.ceqT rfl rfl (by decide)) <| zc rfl <| yG rfl <| zc rfl <| yG rfl ?_
   refine zy (.ceqT rfl rfl (by decide)) <| zy (.pickT rfl rfl) <| zc rfl <| yG rfl <| zc rfl <| yG rfl <| zy (.ceqT rfl rfl (by decide)) <| zy (.pickT rfl rfl) <| zc rfl <| yG rfl <| zc rfl <| yG rfl ?_
   refine zc rfl <| yG rfl <| zy (.ceqT rfl rfl (by omega)) <| zy (.pickT rfl rfl) <| zc rfl <| yG rfl <| zc rfl <| yG rfl <| zy (.iC rfl rfl (by (try simp only [List.length_nil, List.length_cons, List.length_append, List.length_take, List.length_drop, List.length_set]); omega)) <| yG rfl <| zy (.fe2 1 rfl rfl) <| yG rfl ?_
   refine zy (.fe2 1 rfl rfl) <| yG rfl ?_
  refine zy (Ev.ldE1 (enc := rdyC) (sz := 14) (k := 0) (o := 1) (v := i64 1) rfl (by (repeat (first | exact Has.here | assumption | apply Has.there))) (by simp) rfl (by decide)) ?_
  focus
   refine yG rfl <| zy (.ceqT rfl rfl (by decide)) <| zy (.pickT rfl rfl) <| zc rfl <| yG rfl <| zc rfl <| yG rfl <| zc rfl <| yG rfl <| zy (.ceqT rfl rfl (by omega)) <| zy (.pickT rfl rfl) <| zc rfl ?_
   refine yG rfl <| zc rfl <| yG rfl <| zc rfl <| yG rfl <| zy (.ceqT rfl rfl (by omega)) <| zy (.pickT rfl rfl) <| zc rfl <| yG rfl <| zc rfl <| yG rfl <| zy (.iC rfl rfl (by (try simp only [List.length_nil, List.length_cons, List.length_append, List.length_take, List.length_drop, List.length_set]); omega)) ?_
   refine yG rfl <| zy (.fe rfl) <| yG rfl <| zy (.LE0 rfl (by (try simp only [List.length_nil, List.length_cons, List.length_append, List.length_take, List.length_drop, List.length_set]); omega) rfl) <| yG rfl <| zj rfl rfl rfl <| zy (.pickT rfl rfl) <| zc rfl <| zm rfl rfl (fun h1 => .calc rfl) <| zm rfl rfl (fun h1 => by simp only [h1, gd_true, gd_false, Bool.not_false, Bool.not_true, Bool.true_and, Bool.and_true]; exact .iC rfl rfl (by (try simp only [List.length_nil, List.length_cons, List.length_append, List.length_take, List.length_drop, List.length_set]); omega)) <| zp rfl (fun h1 => ?_) (fun h1 => ?_)
   rotate_left
   contradiction
  simp only [h1, decide_true, gd_true]
  focus
   refine zy (.fe rfl) <| yG rfl <| zy (.fe2 8 rfl rfl) <| yG rfl <| zy (.LEp (us := [_, _, _, _, _]) rfl (by (try simp only [List.length_nil, List.length_cons, List.length_append, List.length_take, List.length_drop, List.length_set]); omega) (by decide) rfl) <| yG rfl <| zw rfl rfl <| yG rfl <| zy (.eqs rfl rfl (by repeat (first | exact EqC.nil | apply EqC.i | apply EqC.b | apply EqC.s))) ?_
   refine zy (.pickT rfl rfl) <| zc rfl <| zd <| zr <| yR (.t rfl .nil) rfl (.of (.d (.d (.d (.d (.d (.d (.d (.d .rf)))))))))
end Go.Proofs.YtmeajliiloaegaaGreat
