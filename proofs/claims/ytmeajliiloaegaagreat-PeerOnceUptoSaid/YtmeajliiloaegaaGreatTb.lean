/- Layers 3 and 4: fields, asks and answers: what the functions do. Conditions: none. -/
import Derived.Test.YtmeajliiloaegaaGreatBr
import Derived.Test.YtmeajliiloaegaaGreatBj
import Derived.Test.YtmeajliiloaegaaGreatTa
import Derived.Test.YtmeajliiloaegaaGreatKb
import Derived.Laws.Strings
set_option linter.unusedSimpArgs false
set_option linter.unusedVariables false
set_option maxRecDepth 100000
set_option maxHeartbeats 2000000
namespace Go.SL
open Go
theorem strOf_list (xs : List UInt8) : (strOf xs).toList = xs := by rw [ByteArray.toList_eq]; simp [strOf]
abbrev fdV (w : Vec) : Fld := ⟨5, 0, 0, false, [], w, zK, zR⟩
abbrev fdR (r : Ref) : Fld := ⟨7, 0, 0, false, [], zV, zK, r⟩
abbrev fdI (i : Int) : Fld := ⟨2, 0, i, false, [], zV, zK, zR⟩
abbrev fdv (x : Fld) (a : Option Addr) (c : Nat) : Value := .agg (fdC x a c).toArray
end Go.SL
namespace Go.Proofs.YtmeajliiloaegaaGreat
open Go Go.SL
attribute [local irreducible] pc rc SlT Me Mt It pt ro pur ex sep old Meets

theorem byEqual_fn {a1 a2 : Option Addr} {c1 c2 : Nat} {xs ys : List UInt8} {F : List Assn} [H1 : HS F (.slice a1 xs.length c1) UInt8 byteC 1 c1 xs] [H2 : HS F (.slice a2 ys.length c2) UInt8 byteC 1 c2 ys] :
    Meets Tryz.prog 120 [.slice a1 xs.length c1, .slice a2 ys.length c2] F (Det (.bool (decide (xs = ys))) F) := by
  refine Meets.intro b120 k120 (by simp) ?_
  focus
   refine zs <| zc rfl <| zc rfl ?_
  refine JT.bst (e := 5) (xs := xs) (c := c1) rfl (by kernel_rfl) (by kernel_rfl) (by kernel_rfl) rfl ?_
  focus
   refine zc rfl ?_
  refine JT.bst (e := 5) (xs := ys) (c := c2) rfl (by kernel_rfl) (by kernel_rfl) (by kernel_rfl) rfl ?_
  focus
   refine zc rfl <| zc rfl <| zd <| zr <| yR (.t rfl .nil) ?_ (.of .rf)
  simp only [mkRet]; rw [strOf_list, strOf_list]; congr 1
  rw [Bool.eq_iff_iff]; simp
theorem pkonly_V (w : Vec) (F : List Assn) : Meets Tryz.prog 103 [fdv (fdV w) none 0] F (Det (.tuple #[fdv (fdV w) none 0, .bool true]) F) := by
  refine Meets.intro b103 k103 (by simp) ?_
  focus
   refine zs <| yB rfl fun b1 => yN fun b2 => zc rfl <| zfl rfl rfl rfl <| zg rfl <| yN fun b4 => yW rfl rfl rfl rfl rfl <| zfl rfl rfl rfl <| zd <| zq <| zb ?_
   refine zs <| zy (.ceqF rfl rfl (by (try simp only [List.length_nil, List.length_cons, List.length_append, List.length_take, List.length_drop, List.length_set]); omega)) <| zd <| zu rfl <| zs <| zy (.ceqF rfl rfl (by (try simp only [List.length_nil, List.length_cons, List.length_append, List.length_take, List.length_drop, List.length_set]); omega)) <| zd <| zu rfl <| zs <| zy (.ceqF rfl rfl (by (try simp only [List.length_nil, List.length_cons, List.length_append, List.length_take, List.length_drop, List.length_set]); omega)) <| zd <| zu rfl ?_
   refine zs <| zy (.ceqF rfl rfl (by (try simp only [List.length_nil, List.length_cons, List.length_append, List.length_take, List.length_drop, List.length_set]); omega)) <| zd <| zu rfl <| zs <| zj rfl rfl rfl <| zd <| zi rfl (fun h1 => ?_) (fun h1 => ?_)
   refine zo <| zfw [_, _] rfl rfl rfl rfl <| zf 5 rfl rfl <| yS (us := [_, _]) rfl rfl rfl rfl rfl (Nat.le_of_ble_eq_true rfl) (by simp only [lput]; rfl) <| zd <| zs <| zw rfl rfl <| yW rfl rfl rfl rfl rfl <| zc rfl <| zd <| zr <| yR (.w rfl rfl (.t rfl .nil)) rfl (.of (.d (.d (.d .rf))))
   contradiction
theorem pkonly_R (r : Ref) (F : List Assn) : Meets Tryz.prog 103 [fdv (fdR r) none 0] F (Det (.tuple #[fdv (fdR r) none 0, .bool true]) F) := by
  refine Meets.intro b103 k103 (by simp) ?_
  focus
   refine zs <| yB rfl fun b1 => yN fun b2 => zc rfl <| zfl rfl rfl rfl <| zg rfl <| yN fun b4 => yW rfl rfl rfl rfl rfl <| zfl rfl rfl rfl <| zd <| zq <| zb ?_
   refine zs <| zy (.ceqF rfl rfl (by (try simp only [List.length_nil, List.length_cons, List.length_append, List.length_take, List.length_drop, List.length_set]); omega)) <| zd <| zu rfl <| zs <| zy (.ceqF rfl rfl (by (try simp only [List.length_nil, List.length_cons, List.length_append, List.length_take, List.length_drop, List.length_set]); omega)) <| zd <| zu rfl <| zs <| zy (.ceqF rfl rfl (by (try simp only [List.length_nil, List.length_cons, List.length_append, List.length_take, List.length_drop, List.length_set]); omega)) <| zd <| zu rfl ?_
   refine zs <| zy (.ceqF rfl rfl (by (try simp only [List.length_nil, List.length_cons, List.length_append, List.length_take, List.length_drop, List.length_set]); omega)) <| zd <| zu rfl <| zs <| zy (.ceqF rfl rfl (by (try simp only [List.length_nil, List.length_cons, List.length_append, List.length_take, List.length_drop, List.length_set]); omega)) <| zd <| zu rfl <| zs <| zy (.ceqF rfl rfl (by (try simp only [List.length_nil, List.length_cons, List.length_append, List.length_take, List.length_drop, List.length_set]); omega)) <| zd <| zu rfl ?_
   refine zs <| zj rfl rfl rfl <| zd <| zi rfl (fun h1 => ?_) (fun h1 => ?_)
   refine zo <| zfw [_, _, _, _, _] rfl rfl rfl rfl <| zf 9 rfl rfl <| yS (us := [_, _, _, _, _]) rfl rfl rfl rfl rfl (Nat.le_of_ble_eq_true rfl) (by simp only [lput]; rfl) <| zd <| zs <| zw rfl rfl <| yW rfl rfl rfl rfl rfl <| zc rfl <| zd <| zr <| yR (.w rfl rfl (.t rfl .nil)) rfl (.of (.d (.d (.d .rf))))
   contradiction
theorem pkonly_I (i : Int) (F : List Assn) : Meets Tryz.prog 103 [fdv (fdI i) none 0] F (Det (.tuple #[fdv (fdI i) none 0, .bool true]) F) := by
  refine Meets.intro b103 k103 (by simp) ?_
  focus
   refine zs <| yB rfl fun b1 => yN fun b2 => zc rfl <| zfl rfl rfl rfl <| zg rfl <| yN fun b4 => yW rfl rfl rfl rfl rfl <| zfl rfl rfl rfl <| zd <| zq <| zb ?_
   refine zs <| zy (.ceqF rfl rfl (by (try simp only [List.length_nil, List.length_cons, List.length_append, List.length_take, List.length_drop, List.length_set]); omega)) <| zd <| zu rfl <| zs <| zj rfl rfl rfl <| zd <| zi rfl (fun h1 => ?_) (fun h1 => ?_)
   refine zo <| zfl rfl rfl rfl <| zf 2 rfl rfl <| yS (us := [_]) rfl rfl rfl rfl rfl (Nat.le_of_ble_eq_true rfl) (by simp only [lput]; rfl) <| zd <| zs <| zw rfl rfl <| yW rfl rfl rfl rfl rfl <| zc rfl <| zd <| zr <| yR (.w rfl rfl (.t rfl .nil)) rfl (.of (.d (.d (.d .rf))))
   contradiction
theorem pkSame_fn {a1 a2 : Option Addr} {c1 c2 : Nat} (x y : Fld) {F : List Assn} [H1 : HS F (.slice a1 x.b.length c1) UInt8 byteC 1 c1 x.b] [H2 : HS F (.slice a2 y.b.length c2) UInt8 byteC 1 c2 y.b] :
    Meets Tryz.prog 104 [fdv x a1 c1, fdv y a2 c2] F (Det (.bool (decide (x = y))) F) := by
  refine Meets.intro b104 k104 (by simp) ?_
  focus
   refine zs <| yB rfl fun b2 => yB rfl fun b3 => zc rfl <| zfl rfl rfl rfl <| zfl rfl rfl rfl <| zj rfl rfl rfl <| zp rfl (fun h1 => ?_) (fun h1 => ?_)
   refine zf 1 rfl rfl <| yT rfl (by assumption) <| zl rfl rfl <| yT rfl (by assumption) <| zf 1 rfl rfl <| yT rfl (by assumption) <| zl rfl rfl <| yT rfl (by assumption) <| zj rfl rfl rfl <| zy (.pickTp rfl (by assumption) rfl) <| zp rfl (fun h2 => ?_) (fun h2 => ?_)
   refine zf 2 rfl rfl <| yT rfl (by assumption) <| zl rfl rfl <| yT rfl (by assumption) <| zf 2 rfl rfl <| yT rfl (by assumption) <| zl rfl rfl <| yT rfl (by assumption) <| zj rfl rfl rfl <| zy (.pickTp rfl (by assumption) rfl) <| zp rfl (fun h3 => ?_) (fun h3 => ?_)
   refine zf 3 rfl rfl <| yT rfl (by assumption) <| zl rfl rfl <| yT rfl (by assumption) <| zf 3 rfl rfl <| yT rfl (by assumption) <| zl rfl rfl <| yT rfl (by assumption) <| zc rfl <| zy (.pickTp rfl (by assumption) rfl) <| zp rfl (fun h4 => ?_) (fun h4 => ?_)
   refine zf 4 rfl rfl <| yT rfl (by assumption) <| zl rfl rfl <| yT rfl (by assumption) <| zf 4 rfl rfl <| yT rfl (by assumption) <| zl rfl rfl <| yT rfl (by assumption) <| yD rfl rfl (.of .rf) byEqual_fn <| zy (.pickTp rfl (by assumption) rfl) <| zp rfl (fun h5 => ?_) (fun h5 => ?_)
   refine zf 5 rfl rfl <| yT rfl (by assumption) <| zy (.Lp (us := [_, _]) rfl (Nat.le_of_ble_eq_true rfl) rfl) <| yT rfl (by assumption) <| zf 5 rfl rfl <| yT rfl (by assumption) <| zy (.Lp (us := [_, _]) rfl (Nat.le_of_ble_eq_true rfl) rfl) <| yT rfl (by assumption) <| zy (.eqs rfl rfl (by repeat (first | exact EqC.nil | apply EqC.i | apply EqC.b | apply EqC.s))) ?_
   refine zy (.pickTp rfl (by assumption) rfl) <| zp rfl (fun h6 => ?_) (fun h6 => ?_)
   refine zf 7 rfl rfl <| yT rfl (by assumption) <| zy (.Lp (us := [_, _]) rfl (Nat.le_of_ble_eq_true rfl) rfl) <| yT rfl (by assumption) <| zf 7 rfl rfl <| yT rfl (by assumption) <| zy (.Lp (us := [_, _]) rfl (Nat.le_of_ble_eq_true rfl) rfl) <| yT rfl (by assumption) <| zy (.eqs rfl rfl (by repeat (first | exact EqC.nil | apply EqC.i | apply EqC.b | apply EqC.s))) ?_
   refine zy (.pickTp rfl (by assumption) rfl) <| zp rfl (fun h7 => ?_) (fun h7 => ?_)
   refine zf 9 rfl rfl <| yT rfl (by assumption) <| zy (.Lp (us := [_, _, _, _, _]) rfl (Nat.le_of_ble_eq_true rfl) rfl) <| yT rfl (by assumption) <| zf 9 rfl rfl <| yT rfl (by assumption) <| zy (.Lp (us := [_, _, _, _, _]) rfl (Nat.le_of_ble_eq_true rfl) rfl) <| yT rfl (by assumption) <| zy (.eqs rfl rfl (by repeat (first | exact EqC.nil | apply EqC.i | apply EqC.b | apply EqC.s))) ?_
   refine zy (.pickTp rfl (by assumption) rfl) <| zd <| zr <| yR (.t rfl .nil) ?_ (.of (.d (.d .rf)))
   rotate_left
   refine yTs rfl (by assumption) <| yTs rfl (by assumption) <| yTs rfl (by assumption) <| yTs rfl (by assumption) <| zy (.pickFp rfl (by assumption) rfl) <| zd <| zr <| yR (.t rfl .nil) ?_ (.of (.d (.d .rf)))
   rotate_left
   refine yTs rfl (by assumption) <| yTs rfl (by assumption) <| yTs rfl (by assumption) <| yTs rfl (by assumption) <| zy (.pickFp rfl (by assumption) rfl) <| zv rfl rfl <| zv rfl rfl <| zv rfl rfl <| zv rfl rfl <| zv rfl rfl <| zy (.pickF rfl rfl) <| zd ?_
   refine zr <| yR (.t rfl .nil) ?_ (.of (.d (.d .rf)))
   rotate_left
   refine yTs rfl (by assumption) <| yTs rfl (by assumption) <| yTs rfl (by assumption) <| yTs rfl (by assumption) <| zy (.pickFp rfl (by assumption) rfl) <| zv rfl rfl <| zv rfl rfl <| zv rfl rfl <| zv rfl rfl <| zv rfl rfl <| zy (.pickF rfl rfl) <| zv rfl rfl ?_
   refine zv rfl rfl <| zv rfl rfl <| zv rfl rfl <| zv rfl rfl <| zy (.pickF rfl rfl) <| zd <| zr <| yR (.t rfl .nil) ?_ (.of (.d (.d .rf)))
   rotate_left
   refine yTs rfl (by assumption) <| yTs rfl (by assumption) <| yTs rfl (by assumption) <| yTs rfl (by assumption) <| zy (.pickFp rfl (by assumption) rfl) <| zv rfl rfl <| zv rfl rfl <| zv rfl rfl <| zv rfl rfl <| zv rfl rfl <| zy (.pickF rfl rfl) <| zv rfl rfl ?_
   refine zv rfl rfl <| zv rfl rfl <| zv rfl rfl <| zv rfl rfl <| zy (.pickF rfl rfl) <| zv rfl rfl <| zv rfl rfl <| zv rfl rfl <| zv rfl rfl <| zv rfl rfl <| zy (.pickF rfl rfl) <| zd ?_
   refine zr <| yR (.t rfl .nil) ?_ (.of (.d (.d .rf)))
   rotate_left
   refine yTs rfl (by assumption) <| yTs rfl (by assumption) <| yTs rfl (by assumption) <| yTs rfl (by assumption) <| zy (.pickFp rfl (by assumption) rfl) <| zv rfl rfl <| zv rfl rfl <| zv rfl rfl <| zv rfl rfl <| zv rfl rfl <| zy (.pickF rfl rfl) <| zv rfl rfl ?_
   refine zv rfl rfl <| zv rfl rfl <| zv rfl rfl <| zv rfl rfl <| zy (.pickF rfl rfl) <| zv rfl rfl <| zv rfl rfl <| zv rfl rfl <| zv rfl rfl <| zv rfl rfl <| zy (.pickF rfl rfl) <| zv rfl rfl ?_
   refine zv rfl rfl <| zv rfl rfl <| zv rfl rfl <| zv rfl rfl <| zy (.pickF rfl rfl) <| zd <| zr <| yR (.t rfl .nil) ?_ (.of (.d (.d .rf)))
   rotate_left
   refine yTs rfl (by assumption) <| yTs rfl (by assumption) <| yTs rfl (by assumption) <| yTs rfl (by assumption) <| zy (.pickFp rfl (by assumption) rfl) <| zv rfl rfl <| zv rfl rfl <| zv rfl rfl <| zv rfl rfl <| zv rfl rfl <| zy (.pickF rfl rfl) <| zv rfl rfl ?_
   refine zv rfl rfl <| zv rfl rfl <| zv rfl rfl <| zv rfl rfl <| zy (.pickF rfl rfl) <| zv rfl rfl <| zv rfl rfl <| zv rfl rfl <| zv rfl rfl <| zv rfl rfl <| zy (.pickF rfl rfl) <| zv rfl rfl ?_
   refine zv rfl rfl <| zv rfl rfl <| zv rfl rfl <| zv rfl rfl <| zy (.pickF rfl rfl) <| zv rfl rfl <| zv rfl rfl <| zv rfl rfl <| zv rfl rfl <| zv rfl rfl <| zy (.pickF rfl rfl) <| zd ?_
   refine zr <| yR (.t rfl .nil) ?_ (.of (.d (.d .rf)))
   rotate_left
   refine yTs rfl (by assumption) <| yTs rfl (by assumption) <| yTs rfl (by assumption) <| yTs rfl (by assumption) <| zy (.pickFp rfl (by assumption) rfl) <| zv rfl rfl <| zv rfl rfl <| zv rfl rfl <| zv rfl rfl <| zv rfl rfl <| zy (.pickF rfl rfl) <| zv rfl rfl ?_
   refine zv rfl rfl <| zv rfl rfl <| zv rfl rfl <| zv rfl rfl <| zy (.pickF rfl rfl) <| zv rfl rfl <| zv rfl rfl <| zv rfl rfl <| zv rfl rfl <| zv rfl rfl <| zy (.pickF rfl rfl) <| zv rfl rfl ?_
   refine zv rfl rfl <| zv rfl rfl <| zv rfl rfl <| zv rfl rfl <| zy (.pickF rfl rfl) <| zv rfl rfl <| zv rfl rfl <| zv rfl rfl <| zv rfl rfl <| zv rfl rfl <| zy (.pickF rfl rfl) <| zv rfl rfl ?_
   refine zv rfl rfl <| zv rfl rfl <| zv rfl rfl <| zv rfl rfl <| zy (.pickF rfl rfl) <| zd <| zr <| yR (.t rfl .nil) ?_ (.of (.d (.d .rf)))
   rotate_left
  · simp only [mkRet]; rw [← Ref.dec]
    have ht : x.t = y.t := by rcases h4 with ⟨h, h'⟩ | ⟨h, h'⟩ <;> rw [h, h']
    have hk : x.k = y.k := by
      obtain ⟨k1, k2⟩ := h7
      cases hx : x.k; cases hy : y.k; rw [hx, hy] at k1 k2; simp only at k1 k2; rw [k1, k2]
    have e : (x = y) ↔ (x.r = y.r) := ⟨fun e => by rw [e], fun e => by
      cases x; cases y; simp only at h1 h2 h3 h5 h6 ht hk e; subst h1 h2 h3 h5 h6 ht hk e; rfl⟩
    simp only [e]; cases decide (x.r = y.r) <;> rfl
  all_goals (simp only [mkRet]; rw [decide_eq_false (fun e => by subst e; simp_all)])
theorem pkCheck_V (w : Vec) (F : List Assn) : Meets Tryz.prog 84 [fdv (fdV w) none 0] F (Det (i64 (if vecOk w then 0 else 30)) F) := by
  refine Meets.intro b84 k84 (by simp) ?_
  refine J.nilS byteC 1 false (by decide) ?_
  by_cases h : vecOk w
  · rw [if_pos h]
    focus
     refine zs <| yB rfl fun b1 => zc rfl <| zw rfl rfl <| yD rfl rfl (.of .rf) (pkonly_V _ _) <| zc rfl <| zc rfl <| yN fun b3 => yW rfl rfl rfl rfl rfl <| zc rfl <| zc rfl <| yG rfl ?_
     refine zw rfl rfl <| yG rfl <| zw rfl rfl <| yG rfl <| yD rfl rfl (.of .rf) (pkSame_fn _ _) <| yG rfl <| zc rfl <| zy (.pickF rfl rfl) <| zd <| zq <| zi rfl (fun h1 => ?_) (fun h1 => ?_)
     contradiction
     refine zk <| zs <| zfl rfl rfl rfl <| zd <| zq <| zb <| zs <| zy (.ceqF rfl rfl (by (try simp only [List.length_nil, List.length_cons, List.length_append, List.length_take, List.length_drop, List.length_set]); omega)) <| zd <| zu rfl <| zs <| zj rfl rfl rfl ?_
     refine zd <| zi rfl (fun h2 => ?_) (fun h2 => ?_)
     refine zo <| zfw [_, _] rfl rfl rfl rfl <| yD rfl rfl (.of .rf) (vRight_fn _ _) <| zj rfl rfl rfl <| zd <| zs <| zc rfl <| zd <| zq <| zi rfl (fun h3 => ?_) (fun h3 => ?_)
     contradiction
     refine zk <| zs <| zc rfl <| zd <| zr <| yR (.t rfl .nil) rfl (.of (.d (.d (.d .rf))))
     contradiction
  · rw [if_neg h]
    focus
     refine zs <| yB rfl fun b1 => zc rfl <| zw rfl rfl <| yD rfl rfl (.of .rf) (pkonly_V _ _) <| zc rfl <| zc rfl <| yN fun b3 => yW rfl rfl rfl rfl rfl <| zc rfl <| zc rfl <| yG rfl ?_
     refine zw rfl rfl <| yG rfl <| zw rfl rfl <| yG rfl <| yD rfl rfl (.of .rf) (pkSame_fn _ _) <| yG rfl <| zc rfl <| zy (.pickF rfl rfl) <| zd <| zq <| zi rfl (fun h1 => ?_) (fun h1 => ?_)
     contradiction
     refine zk <| zs <| zfl rfl rfl rfl <| zd <| zq <| zb <| zs <| zy (.ceqF rfl rfl (by (try simp only [List.length_nil, List.length_cons, List.length_append, List.length_take, List.length_drop, List.length_set]); omega)) <| zd <| zu rfl <| zs <| zj rfl rfl rfl ?_
     refine zd <| zi rfl (fun h2 => ?_) (fun h2 => ?_)
     refine zo <| zfw [_, _] rfl rfl rfl rfl <| yD rfl rfl (.of .rf) (vRight_fn _ _) <| zj rfl rfl rfl <| zd <| zs <| zc rfl <| zd <| zq <| zi rfl (fun h3 => ?_) (fun h3 => ?_)
     refine zs <| zc rfl <| zd <| zr <| yR (.t rfl .nil) rfl (.of (.d (.d (.d .rf))))
     contradiction
     contradiction
theorem pkCheck_R (r : Ref) (F : List Assn) : Meets Tryz.prog 84 [fdv (fdR r) none 0] F (Det (i64 (if refOk r then 0 else 30)) F) := by
  refine Meets.intro b84 k84 (by simp) ?_
  refine J.nilS byteC 1 false (by decide) ?_
  by_cases h1 : keyOk r.key
  · by_cases h2 : vecOk r.vec
    · rw [if_pos ⟨h1, h2⟩]
      focus
       refine zs <| yB rfl fun b1 => zc rfl <| zw rfl rfl <| yD rfl rfl (.of .rf) (pkonly_R _ _) <| zc rfl <| zc rfl <| yN fun b3 => yW rfl rfl rfl rfl rfl <| zc rfl <| zc rfl <| yG rfl ?_
       refine zw rfl rfl <| yG rfl <| zw rfl rfl <| yG rfl <| yD rfl rfl (.of .rf) (pkSame_fn _ _) <| yG rfl <| zc rfl <| zy (.pickF rfl rfl) <| zd <| zq <| zi rfl (fun h3 => ?_) (fun h3 => ?_)
       contradiction
       refine zk <| zs <| zfl rfl rfl rfl <| zd <| zq <| zb <| zs <| zy (.ceqF rfl rfl (by (try simp only [List.length_nil, List.length_cons, List.length_append, List.length_take, List.length_drop, List.length_set]); omega)) <| zd <| zu rfl <| zs <| zy (.ceqF rfl rfl (by (try simp only [List.length_nil, List.length_cons, List.length_append, List.length_take, List.length_drop, List.length_set]); omega)) ?_
       refine zd <| zu rfl <| zs <| zy (.ceqF rfl rfl (by (try simp only [List.length_nil, List.length_cons, List.length_append, List.length_take, List.length_drop, List.length_set]); omega)) <| zd <| zu rfl <| zs <| zj rfl rfl rfl <| zd <| zi rfl (fun h4 => ?_) (fun h4 => ?_)
       refine zo <| zf 9 rfl rfl <| zfw [_, _] rfl rfl rfl rfl <| yD rfl rfl (.of .rf) (kCheck_fn _ _) <| zj rfl rfl rfl <| yT rfl (by assumption) <| zf 9 rfl rfl <| yT rfl (by assumption) <| zf 12 rfl rfl <| yT rfl (by assumption) <| zy (.Lp (us := [_, _]) rfl (Nat.le_of_ble_eq_true rfl) rfl) <| yT rfl (by assumption) ?_
       refine yD rfl rfl (.of .rf) (vRight_fn _ _) <| yT rfl (by assumption) <| zj rfl rfl rfl <| zy (.pickTp rfl (by assumption) rfl) <| zd <| zs <| zc rfl <| zd <| zq <| zi rfl (fun h5 => ?_) (fun h5 => ?_)
       contradiction
       refine zk <| zs <| zc rfl <| zd <| zr <| yR (.t rfl .nil) rfl (.of (.d (.d (.d .rf))))
       contradiction
    · rw [if_neg (fun h => h2 h.2)]
      focus
       refine zs <| yB rfl fun b1 => zc rfl <| zw rfl rfl <| yD rfl rfl (.of .rf) (pkonly_R _ _) <| zc rfl <| zc rfl <| yN fun b3 => yW rfl rfl rfl rfl rfl <| zc rfl <| zc rfl <| yG rfl ?_
       refine zw rfl rfl <| yG rfl <| zw rfl rfl <| yG rfl <| yD rfl rfl (.of .rf) (pkSame_fn _ _) <| yG rfl <| zc rfl <| zy (.pickF rfl rfl) <| zd <| zq <| zi rfl (fun h3 => ?_) (fun h3 => ?_)
       contradiction
       refine zk <| zs <| zfl rfl rfl rfl <| zd <| zq <| zb <| zs <| zy (.ceqF rfl rfl (by (try simp only [List.length_nil, List.length_cons, List.length_append, List.length_take, List.length_drop, List.length_set]); omega)) <| zd <| zu rfl <| zs <| zy (.ceqF rfl rfl (by (try simp only [List.length_nil, List.length_cons, List.length_append, List.length_take, List.length_drop, List.length_set]); omega)) ?_
       refine zd <| zu rfl <| zs <| zy (.ceqF rfl rfl (by (try simp only [List.length_nil, List.length_cons, List.length_append, List.length_take, List.length_drop, List.length_set]); omega)) <| zd <| zu rfl <| zs <| zj rfl rfl rfl <| zd <| zi rfl (fun h4 => ?_) (fun h4 => ?_)
       refine zo <| zf 9 rfl rfl <| zfw [_, _] rfl rfl rfl rfl <| yD rfl rfl (.of .rf) (kCheck_fn _ _) <| zj rfl rfl rfl <| yT rfl (by assumption) <| zf 9 rfl rfl <| yT rfl (by assumption) <| zf 12 rfl rfl <| yT rfl (by assumption) <| zy (.Lp (us := [_, _]) rfl (Nat.le_of_ble_eq_true rfl) rfl) <| yT rfl (by assumption) ?_
       refine yD rfl rfl (.of .rf) (vRight_fn _ _) <| yT rfl (by assumption) <| zj rfl rfl rfl <| zy (.pickTp rfl (by assumption) rfl) <| zd <| zs <| zc rfl <| zd <| zq <| zi rfl (fun h5 => ?_) (fun h5 => ?_)
       refine zs <| zc rfl <| zd <| zr <| yR (.t rfl .nil) rfl (.of (.d (.d (.d .rf))))
       contradiction
       contradiction
  · rw [if_neg (fun h => h1 h.1)]
    focus
     refine zs <| yB rfl fun b1 => zc rfl <| zw rfl rfl <| yD rfl rfl (.of .rf) (pkonly_R _ _) <| zc rfl <| zc rfl <| yN fun b3 => yW rfl rfl rfl rfl rfl <| zc rfl <| zc rfl <| yG rfl ?_
     refine zw rfl rfl <| yG rfl <| zw rfl rfl <| yG rfl <| yD rfl rfl (.of .rf) (pkSame_fn _ _) <| yG rfl <| zc rfl <| zy (.pickF rfl rfl) <| zd <| zq <| zi rfl (fun h2 => ?_) (fun h2 => ?_)
     contradiction
     refine zk <| zs <| zfl rfl rfl rfl <| zd <| zq <| zb <| zs <| zy (.ceqF rfl rfl (by (try simp only [List.length_nil, List.length_cons, List.length_append, List.length_take, List.length_drop, List.length_set]); omega)) <| zd <| zu rfl <| zs <| zy (.ceqF rfl rfl (by (try simp only [List.length_nil, List.length_cons, List.length_append, List.length_take, List.length_drop, List.length_set]); omega)) ?_
     refine zd <| zu rfl <| zs <| zy (.ceqF rfl rfl (by (try simp only [List.length_nil, List.length_cons, List.length_append, List.length_take, List.length_drop, List.length_set]); omega)) <| zd <| zu rfl <| zs <| zj rfl rfl rfl <| zd <| zi rfl (fun h3 => ?_) (fun h3 => ?_)
     refine zo <| zf 9 rfl rfl <| zfw [_, _] rfl rfl rfl rfl <| yD rfl rfl (.of .rf) (kCheck_fn _ _) <| zj rfl rfl rfl <| yTs rfl (by assumption) <| yTs rfl (by assumption) <| yTs rfl (by assumption) <| yTs rfl (by assumption) <| yTs rfl (by assumption) <| zy (.pickFp rfl (by assumption) rfl) <| zd ?_
     refine zs <| zc rfl <| zd <| zq <| zt rfl <| zs <| zc rfl <| zd <| zr <| yR (.t rfl .nil) rfl (.of (.d (.d (.d .rf))))
     contradiction
theorem pkCheck_I (i : Int) (F : List Assn) : Meets Tryz.prog 84 [fdv (fdI i) none 0] F (Det (i64 0) F) := by
  refine Meets.intro b84 k84 (by simp) ?_
  refine J.nilS byteC 1 false (by decide) ?_
  focus
   refine zs <| yB rfl fun b1 => zc rfl <| zw rfl rfl <| yD rfl rfl (.of .rf) (pkonly_I _ _) <| zc rfl <| zc rfl <| yN fun b3 => yW rfl rfl rfl rfl rfl <| zc rfl <| zc rfl <| yG rfl ?_
   refine zw rfl rfl <| yG rfl <| zw rfl rfl <| yG rfl <| yD rfl rfl (.of .rf) (pkSame_fn _ _) <| yG rfl <| zc rfl <| zy (.pickF rfl rfl) <| zd <| zq <| zi rfl (fun h1 => ?_) (fun h1 => ?_)
   contradiction
   refine zk <| zs <| zfl rfl rfl rfl <| zd <| zq <| zb <| zs <| zy (.ceqF rfl rfl (by (try simp only [List.length_nil, List.length_cons, List.length_append, List.length_take, List.length_drop, List.length_set]); omega)) <| zd <| zu rfl <| zs <| zy (.ceqF rfl rfl (by (try simp only [List.length_nil, List.length_cons, List.length_append, List.length_take, List.length_drop, List.length_set]); omega)) ?_
   refine zd <| zu rfl <| zs <| zy (.ceqF rfl rfl (by (try simp only [List.length_nil, List.length_cons, List.length_append, List.length_take, List.length_drop, List.length_set]); omega)) <| zd <| zu rfl <| zs <| zy (.ceqF rfl rfl (by (try simp only [List.length_nil, List.length_cons, List.length_append, List.length_take, List.length_drop, List.length_set]); omega)) <| zd <| zu rfl <| zk <| zs ?_
   refine zc rfl <| zd <| zq <| zu rfl <| zk <| zs <| zc rfl <| zd <| zr <| yR (.t rfl .nil) rfl (.of (.d (.d (.d .rf))))
end Go.Proofs.YtmeajliiloaegaaGreat

set_option linter.unusedSimpArgs false
set_option linter.unusedVariables false
set_option maxRecDepth 100000
set_option maxHeartbeats 2000000
namespace Go.SL
open Go
def needsL (k : Int) : List Int := if k = 7 then [5, 7, 7, 2, 2] else if k = 5 then [5, 7, 2, 2] else if k = 3 ∨ k = 4 ∨ k = 8 then [5, 2, 2] else if k = 1 then [5] else if k = 6 then [5, 7] else []
theorem SlT.ty {α : Type} {m : Bool} {enc : α → List Value} {sz c : Nat} {sv : Value} {ls : List (List Value)} (xs : List α) (e : xs.map enc = ls) {r : List Assn} : Imp (SlT m (fun e => e) sz sv c ls :: r) (SlT m enc sz sv c xs :: r) := by
  subst e
  have : SlT m enc sz sv c xs = SlT m (fun e => e) sz sv c (xs.map enc) := by
    have h : (xs.map enc).map (fun e => e) = xs.map enc := List.map_id'' (fun _ => rfl) _
    unfold SlT; simp only [h]
  rw [this]; exact Imp.refl _
end Go.SL
namespace Go.Proofs.YtmeajliiloaegaaGreat
open Go Go.SL
attribute [local irreducible] pc rc SlT Me Mt It pt ro pur ex sep old Meets
instance : TE 156 Int intE 1 := ⟨intE_one, by decide⟩
theorem mgneeds_fn (k : Int) (F : List Assn) (h : 1 ≤ k ∧ k ≤ 10) : Meets Tryz.prog 83 [i64 k] F
    (Some' (fun _ : Option Addr × Nat => True) (fun x => .tuple #[.slice x.1 (needsL k).length x.2, .bool true]) (fun x => SlT true intE 1 (.slice x.1 (needsL k).length x.2) x.2 (needsL k) :: F)) := by
  refine Meets.intro b83 k83 (by simp) ?_
  refine J.nilS intE 1 true (by decide) ?_
  obtain ⟨h1, h2⟩ := h
  have hk : k = 1 ∨ k = 2 ∨ k = 3 ∨ k = 4 ∨ k = 5 ∨ k = 6 ∨ k = 7 ∨ k = 8 ∨ k = 9 ∨ k = 10 := by omega
  rcases hk with rfl | rfl | rfl | rfl | rfl | rfl | rfl | rfl | rfl | rfl
  all_goals simp only [needsL, reduceIte, Int.reduceEq, or_false, or_true, false_or, true_or]
  focus
   refine zs <| zc rfl <| zc rfl <| zc rfl <| zc rfl <| zd <| zq <| zb <| zq <| zb <| zq <| zb ?_
   refine zq <| zb <| zq <| zb <| zq <| zb <| zq <| zb <| zq <| zb <| zs <| zy (.ceqF rfl rfl (by decide)) ?_
   refine zd <| zq <| zu rfl <| zk <| zs <| zy (.ceqF rfl rfl (by decide)) <| zd <| zq <| zu rfl <| zk <| zs <| zy (.ceqF rfl rfl (by decide)) ?_
   refine zd <| zq <| zu rfl <| zs <| zy (.ceqF rfl rfl (by decide)) <| zd <| zu rfl <| zo <| zy (.ceqF rfl rfl (by decide)) <| zd <| zq <| zu rfl ?_
   refine zk <| zs <| zy (.ceqT rfl rfl (by decide)) <| zd <| zq <| zt rfl <| zx <| seqQ_x <| blockQ_miss rfl <| seqQ_x <| blockQ_miss rfl <| seqQ_x ?_
   refine blockQ_miss rfl <| zs <| JT.bsl1 (by repeat (first | exact Cells.nil | apply Cells.z | (apply Cells.cl; rfl; rfl; rfl))) (by simp only [List.length_cons, List.length_nil, Nat.reduceAdd]; rfl) (by decide) (by rfl) fun a31 => ?_
   rotate_left
  rotate_left 1
  focus
   refine zs <| zc rfl <| zc rfl <| zc rfl <| zc rfl <| zd <| zq <| zb <| zq <| zb <| zq <| zb ?_
   refine zq <| zb <| zq <| zb <| zq <| zb <| zq <| zb <| zq <| zb <| zs <| zy (.ceqF rfl rfl (by decide)) ?_
   refine zd <| zq <| zu rfl <| zk <| zs <| zy (.ceqF rfl rfl (by decide)) <| zd <| zq <| zu rfl <| zk <| zs <| zy (.ceqF rfl rfl (by decide)) ?_
   refine zd <| zq <| zu rfl <| zs <| zy (.ceqF rfl rfl (by decide)) <| zd <| zu rfl <| zo <| zy (.ceqF rfl rfl (by decide)) <| zd <| zq <| zu rfl ?_
   refine zk <| zs <| zy (.ceqF rfl rfl (by decide)) <| zd <| zq <| zu rfl <| zk <| zs <| zy (.ceqF rfl rfl (by decide)) <| zd <| zq <| zu rfl ?_
   refine zk <| zs <| zy (.ceqT rfl rfl (by decide)) <| zd <| zq <| zt rfl <| zk <| zq <| zt rfl <| zx <| seqQ_x <| blockQ_miss rfl ?_
   refine seqQ_x <| blockQ_miss rfl <| seqQ_x <| blockQ_miss rfl <| seqQ_x <| blockQ_miss rfl <| seqQ_x <| blockQ_miss rfl <| zx <| blockQ_miss rfl <| zs <| zc rfl ?_
   refine zc rfl <| zd <| zr <| yQ ⟨_, _⟩ (.t rfl (.t rfl .nil)) trivial rfl (.of (.t0 .rf))
  focus
   refine zs <| zc rfl <| zc rfl <| zc rfl <| zc rfl <| zd <| zq <| zb <| zq <| zb <| zq <| zb ?_
   refine zq <| zb <| zq <| zb <| zq <| zb <| zq <| zb <| zq <| zb <| zs <| zy (.ceqF rfl rfl (by decide)) ?_
   refine zd <| zq <| zu rfl <| zk <| zs <| zy (.ceqF rfl rfl (by decide)) <| zd <| zq <| zu rfl <| zk <| zs <| zy (.ceqT rfl rfl (by decide)) ?_
   refine zd <| zq <| zt rfl <| zk <| zq <| zt rfl <| zx <| seqQ_x <| blockQ_miss rfl <| seqQ_x <| blockQ_miss rfl <| zo ?_
   refine JT.bT [_, _] (by repeat (first | exact Cells.nil | apply Cells.z | (apply Cells.cl; rfl; rfl; rfl))) rfl (by decide) fun a29 => ?_
   (refine JT.A3 rfl rfl rfl (by decide) (by (try simp only [List.length_nil, List.length_cons, List.length_append, List.length_take, List.length_drop, List.length_set]); omega) (fun a4 c4 hc4 => ?_))
   refine zd <| zs <| JT.bsl1 (by repeat (first | exact Cells.nil | apply Cells.z | (apply Cells.cl; rfl; rfl; rfl))) (by simp only [List.length_cons, List.length_nil, Nat.reduceAdd]; rfl) (by decide) (by rfl) fun a31 => ?_
   rotate_left
  rotate_left 1
  focus
   refine zs <| zc rfl <| zc rfl <| zc rfl <| zc rfl <| zd <| zq <| zb <| zq <| zb <| zq <| zb ?_
   refine zq <| zb <| zq <| zb <| zq <| zb <| zq <| zb <| zq <| zb <| zs <| zy (.ceqF rfl rfl (by decide)) ?_
   refine zd <| zq <| zu rfl <| zk <| zs <| zy (.ceqF rfl rfl (by decide)) <| zd <| zq <| zu rfl <| zk <| zs <| zy (.ceqF rfl rfl (by decide)) ?_
   refine zd <| zq <| zu rfl <| zs <| zy (.ceqT rfl rfl (by decide)) <| zd <| zt rfl <| zk <| zq <| zt rfl <| zx <| seqQ_x ?_
   refine blockQ_miss rfl <| seqQ_x <| blockQ_miss rfl <| zo <| JT.bT [_, _] (by repeat (first | exact Cells.nil | apply Cells.z | (apply Cells.cl; rfl; rfl; rfl))) rfl (by decide) fun a29 => ?_
   (refine JT.A3 rfl rfl rfl (by decide) (by (try simp only [List.length_nil, List.length_cons, List.length_append, List.length_take, List.length_drop, List.length_set]); omega) (fun a4 c4 hc4 => ?_))
   refine zd <| zs <| JT.bsl1 (by repeat (first | exact Cells.nil | apply Cells.z | (apply Cells.cl; rfl; rfl; rfl))) (by simp only [List.length_cons, List.length_nil, Nat.reduceAdd]; rfl) (by decide) (by rfl) fun a31 => ?_
   rotate_left
  rotate_left 1
  focus
   refine zs <| zc rfl <| zc rfl <| zc rfl <| zc rfl <| zd <| zq <| zb <| zq <| zb <| zq <| zb ?_
   refine zq <| zb <| zq <| zb <| zq <| zb <| zq <| zb <| zq <| zb <| zs <| zy (.ceqF rfl rfl (by decide)) ?_
   refine zd <| zq <| zu rfl <| zk <| zs <| zy (.ceqT rfl rfl (by decide)) <| zd <| zq <| zt rfl <| zx <| seqQ_x <| blockQ_miss rfl ?_
   refine zo <| JT.bsl1 (by repeat (first | exact Cells.nil | apply Cells.z | (apply Cells.cl; rfl; rfl; rfl))) (by simp only [List.length_cons, List.length_nil, Nat.reduceAdd]; rfl) (by decide) (by rfl) fun a26 => ?_
   (refine JT.A1 rfl rfl (by rfl) rfl (by decide) (by (try simp only [List.length_nil, List.length_cons, List.length_append, List.length_take, List.length_drop, List.length_set]); omega) (fun a4 c4 hc4 => ?_))
   refine zd <| zo <| JT.bT [_, _] (by repeat (first | exact Cells.nil | apply Cells.z | (apply Cells.cl; rfl; rfl; rfl))) rfl (by decide) fun a29 => ?_
   (refine JT.A3 rfl rfl rfl (by decide) (by (try simp only [List.length_nil, List.length_cons, List.length_append, List.length_take, List.length_drop, List.length_set]); omega) (fun a4_1 c4_1 hc4_1 => ?_))
   refine zd <| zs <| JT.bsl1 (by repeat (first | exact Cells.nil | apply Cells.z | (apply Cells.cl; rfl; rfl; rfl))) (by simp only [List.length_cons, List.length_nil, Nat.reduceAdd]; rfl) (by decide) (by rfl) fun a31 => ?_
   rotate_left
  rotate_left 1
  focus
   refine zs <| zc rfl <| zc rfl <| zc rfl <| zc rfl <| zd <| zq <| zb <| zq <| zb <| zq <| zb ?_
   refine zq <| zb <| zq <| zb <| zq <| zb <| zq <| zb <| zq <| zb <| zs <| zy (.ceqF rfl rfl (by decide)) ?_
   refine zd <| zq <| zu rfl <| zk <| zs <| zy (.ceqF rfl rfl (by decide)) <| zd <| zq <| zu rfl <| zk <| zs <| zy (.ceqF rfl rfl (by decide)) ?_
   refine zd <| zq <| zu rfl <| zs <| zy (.ceqF rfl rfl (by decide)) <| zd <| zu rfl <| zo <| zy (.ceqF rfl rfl (by decide)) <| zd <| zq <| zu rfl ?_
   refine zk <| zs <| zy (.ceqF rfl rfl (by decide)) <| zd <| zq <| zu rfl <| zk <| zs <| zy (.ceqT rfl rfl (by decide)) <| zd <| zq <| zt rfl ?_
   refine zx <| seqQ_x <| blockQ_miss rfl <| seqQ_x <| blockQ_miss rfl <| seqQ_x <| blockQ_miss rfl <| seqQ_x <| blockQ_miss rfl <| zs <| JT.bT [_, _] (by repeat (first | exact Cells.nil | apply Cells.z | (apply Cells.cl; rfl; rfl; rfl))) rfl (by decide) fun a35 => ?_
   (refine JT.A3 rfl rfl rfl (by decide) (by (try simp only [List.length_nil, List.length_cons, List.length_append, List.length_take, List.length_drop, List.length_set]); omega) (fun a4 c4 hc4 => ?_))
   refine zd <| zx <| blockQ_miss rfl <| seqQ_x <| blockQ_miss rfl <| zs <| zc rfl <| zc rfl <| zd <| zr <| yQ ⟨_, _⟩ (.t rfl (.t rfl .nil)) trivial rfl (.of (.t0 (.d .rf)))
  focus
   refine zs <| zc rfl <| zc rfl <| zc rfl <| zc rfl <| zd <| zq <| zb <| zq <| zb <| zq <| zb ?_
   refine zq <| zb <| zq <| zb <| zq <| zb <| zq <| zb <| zq <| zb <| zs <| zy (.ceqT rfl rfl (by decide)) ?_
   refine zd <| zq <| zt rfl <| zx <| zo <| JT.bsl1 (by repeat (first | exact Cells.nil | apply Cells.z | (apply Cells.cl; rfl; rfl; rfl))) (by simp only [List.length_cons, List.length_nil, Nat.reduceAdd]; rfl) (by decide) (by rfl) fun a23 => ?_
   (refine JT.A1 rfl rfl (by rfl) rfl (by decide) (by (try simp only [List.length_nil, List.length_cons, List.length_append, List.length_take, List.length_drop, List.length_set]); omega) (fun a4 c4 hc4 => ?_))
   refine zd <| zo <| JT.bsl1 (by repeat (first | exact Cells.nil | apply Cells.z | (apply Cells.cl; rfl; rfl; rfl))) (by simp only [List.length_cons, List.length_nil, Nat.reduceAdd]; rfl) (by decide) (by rfl) fun a26 => ?_
   (refine JT.A1 rfl rfl (by rfl) rfl (by decide) (by (try simp only [List.length_nil, List.length_cons, List.length_append, List.length_take, List.length_drop, List.length_set]); omega) (fun a4_1 c4_1 hc4_1 => ?_))
   refine zd <| zo <| JT.bT [_, _] (by repeat (first | exact Cells.nil | apply Cells.z | (apply Cells.cl; rfl; rfl; rfl))) rfl (by decide) fun a29 => ?_
   (refine JT.A3 rfl rfl rfl (by decide) (by (try simp only [List.length_nil, List.length_cons, List.length_append, List.length_take, List.length_drop, List.length_set]); omega) (fun a4_2 c4_2 hc4_2 => ?_))
   refine zd <| zs <| JT.bsl1 (by repeat (first | exact Cells.nil | apply Cells.z | (apply Cells.cl; rfl; rfl; rfl))) (by simp only [List.length_cons, List.length_nil, Nat.reduceAdd]; rfl) (by decide) (by rfl) fun a31 => ?_
   rotate_left
  rotate_left 1
  focus
   refine zs <| zc rfl <| zc rfl <| zc rfl <| zc rfl <| zd <| zq <| zb <| zq <| zb <| zq <| zb ?_
   refine zq <| zb <| zq <| zb <| zq <| zb <| zq <| zb <| zq <| zb <| zs <| zy (.ceqF rfl rfl (by decide)) ?_
   refine zd <| zq <| zu rfl <| zk <| zs <| zy (.ceqF rfl rfl (by decide)) <| zd <| zq <| zu rfl <| zk <| zs <| zy (.ceqF rfl rfl (by decide)) ?_
   refine zd <| zq <| zu rfl <| zs <| zy (.ceqF rfl rfl (by decide)) <| zd <| zu rfl <| zo <| zy (.ceqT rfl rfl (by decide)) <| zd <| zq <| zt rfl ?_
   refine zx <| seqQ_x <| blockQ_miss rfl <| seqQ_x <| blockQ_miss rfl <| zo <| JT.bT [_, _] (by repeat (first | exact Cells.nil | apply Cells.z | (apply Cells.cl; rfl; rfl; rfl))) rfl (by decide) fun a29 => ?_
   (refine JT.A3 rfl rfl rfl (by decide) (by (try simp only [List.length_nil, List.length_cons, List.length_append, List.length_take, List.length_drop, List.length_set]); omega) (fun a4 c4 hc4 => ?_))
   refine zd <| zs <| JT.bsl1 (by repeat (first | exact Cells.nil | apply Cells.z | (apply Cells.cl; rfl; rfl; rfl))) (by simp only [List.length_cons, List.length_nil, Nat.reduceAdd]; rfl) (by decide) (by rfl) fun a31 => ?_
   rotate_left
  rotate_left 1
  focus
   refine zs <| zc rfl <| zc rfl <| zc rfl <| zc rfl <| zd <| zq <| zb <| zq <| zb <| zq <| zb ?_
   refine zq <| zb <| zq <| zb <| zq <| zb <| zq <| zb <| zq <| zb <| zs <| zy (.ceqF rfl rfl (by decide)) ?_
   refine zd <| zq <| zu rfl <| zk <| zs <| zy (.ceqF rfl rfl (by decide)) <| zd <| zq <| zu rfl <| zk <| zs <| zy (.ceqF rfl rfl (by decide)) ?_
   refine zd <| zq <| zu rfl <| zs <| zy (.ceqF rfl rfl (by decide)) <| zd <| zu rfl <| zo <| zy (.ceqF rfl rfl (by decide)) <| zd <| zq <| zu rfl ?_
   refine zk <| zs <| zy (.ceqF rfl rfl (by decide)) <| zd <| zq <| zu rfl <| zk <| zs <| zy (.ceqF rfl rfl (by decide)) <| zd <| zq <| zu rfl ?_
   refine zk <| zs <| zy (.ceqF rfl rfl (by decide)) <| zd <| zq <| zu rfl <| zs <| zy (.ceqT rfl rfl (by decide)) <| zd <| zt rfl <| zk <| zq ?_
   refine zt rfl <| zx <| seqQ_x <| blockQ_miss rfl <| seqQ_x <| blockQ_miss rfl <| seqQ_x <| blockQ_miss rfl <| seqQ_x <| blockQ_miss rfl <| seqQ_x <| blockQ_miss rfl ?_
   refine zx <| blockQ_miss rfl <| zs <| zc rfl <| zc rfl <| zd <| zr <| yQ ⟨_, _⟩ (.t rfl (.t rfl .nil)) trivial rfl (.of (.t0 .rf))
  focus
   refine zs <| zc rfl <| zc rfl <| zc rfl <| zc rfl <| zd <| zq <| zb <| zq <| zb <| zq <| zb ?_
   refine zq <| zb <| zq <| zb <| zq <| zb <| zq <| zb <| zq <| zb <| zs <| zy (.ceqF rfl rfl (by decide)) ?_
   refine zd <| zq <| zu rfl <| zk <| zs <| zy (.ceqF rfl rfl (by decide)) <| zd <| zq <| zu rfl <| zk <| zs <| zy (.ceqF rfl rfl (by decide)) ?_
   refine zd <| zq <| zu rfl <| zs <| zy (.ceqF rfl rfl (by decide)) <| zd <| zu rfl <| zo <| zy (.ceqF rfl rfl (by decide)) <| zd <| zq <| zu rfl ?_
   refine zk <| zs <| zy (.ceqF rfl rfl (by decide)) <| zd <| zq <| zu rfl <| zk <| zs <| zy (.ceqF rfl rfl (by decide)) <| zd <| zq <| zu rfl ?_
   refine zk <| zs <| zy (.ceqF rfl rfl (by decide)) <| zd <| zq <| zu rfl <| zs <| zy (.ceqF rfl rfl (by decide)) <| zd <| zu rfl <| zo <| zy (.ceqT rfl rfl (by decide)) ?_
   refine zd <| zq <| zt rfl <| zx <| seqQ_x <| blockQ_miss rfl <| seqQ_x <| blockQ_miss rfl <| seqQ_x <| blockQ_miss rfl <| seqQ_x <| blockQ_miss rfl ?_
   refine seqQ_x <| blockQ_miss rfl <| zx <| blockQ_miss rfl <| zs <| zc rfl <| zc rfl <| zd <| zr <| yQ ⟨_, _⟩ (.t rfl (.t rfl .nil)) trivial rfl (.of (.t0 .rf))
  all_goals refine JT.up (fun w hs => (hs.imp (Imp.take (c := SlT true (fun e => e) 1 (.slice a31 1 1) 1 [[.int .i64 5]]) (by (repeat (first | exact Has.here | assumption | apply Has.there))) (Imp.refl _))).imp (SlT.ty (enc := intE) [(5 : Int)] rfl)) ?_
  focus
   (refine JT.A3 rfl rfl rfl (by decide) (by (try simp only [List.length_nil, List.length_cons, List.length_append, List.length_take, List.length_drop, List.length_set]); omega) (fun a4 c4 hc4 => ?_))
   refine zd <| zx <| blockQ_miss rfl <| seqQ_x <| blockQ_miss rfl <| seqQ_x <| blockQ_miss rfl <| zs <| zc rfl <| zc rfl <| zd <| zr ?_
   refine yQ ⟨_, _⟩ (.t rfl (.t rfl .nil)) trivial rfl (.of (.t0 (.d .rf)))
  focus
   (refine JT.A3 rfl rfl rfl (by decide) (by (try simp only [List.length_nil, List.length_cons, List.length_append, List.length_take, List.length_drop, List.length_set]); omega) (fun a4_1 c4_1 hc4_1 => ?_))
   refine zd <| zx <| blockQ_miss rfl <| seqQ_x <| blockQ_miss rfl <| seqQ_x <| blockQ_miss rfl <| zs <| zc rfl <| zc rfl <| zd <| zr ?_
   refine yQ ⟨_, _⟩ (.t rfl (.t rfl .nil)) trivial rfl (.of (.t0 (.d (.d .rf))))
  focus
   (refine JT.A3 rfl rfl rfl (by decide) (by (try simp only [List.length_nil, List.length_cons, List.length_append, List.length_take, List.length_drop, List.length_set]); omega) (fun a4_1 c4_1 hc4_1 => ?_))
   refine zd <| zx <| blockQ_miss rfl <| seqQ_x <| blockQ_miss rfl <| seqQ_x <| blockQ_miss rfl <| zs <| zc rfl <| zc rfl <| zd <| zr ?_
   refine yQ ⟨_, _⟩ (.t rfl (.t rfl .nil)) trivial rfl (.of (.t0 (.d (.d .rf))))
  focus
   (refine JT.A3 rfl rfl rfl (by decide) (by (try simp only [List.length_nil, List.length_cons, List.length_append, List.length_take, List.length_drop, List.length_set]); omega) (fun a4_2 c4_2 hc4_2 => ?_))
   refine zd <| zx <| blockQ_miss rfl <| seqQ_x <| blockQ_miss rfl <| seqQ_x <| blockQ_miss rfl <| zs <| zc rfl <| zc rfl <| zd <| zr ?_
   refine yQ ⟨_, _⟩ (.t rfl (.t rfl .nil)) trivial rfl (.of (.t0 (.d (.d (.d .rf)))))
  focus
   (refine JT.A3 rfl rfl rfl (by decide) (by (try simp only [List.length_nil, List.length_cons, List.length_append, List.length_take, List.length_drop, List.length_set]); omega) (fun a4_3 c4_3 hc4_3 => ?_))
   refine zd <| zx <| blockQ_miss rfl <| seqQ_x <| blockQ_miss rfl <| seqQ_x <| blockQ_miss rfl <| zs <| zc rfl <| zc rfl <| zd <| zr ?_
   refine yQ ⟨_, _⟩ (.t rfl (.t rfl .nil)) trivial rfl (.of (.t0 (.d (.d (.d (.d .rf))))))
  focus
   (refine JT.A3 rfl rfl rfl (by decide) (by (try simp only [List.length_nil, List.length_cons, List.length_append, List.length_take, List.length_drop, List.length_set]); omega) (fun a4_1 c4_1 hc4_1 => ?_))
   refine zd <| zx <| blockQ_miss rfl <| seqQ_x <| blockQ_miss rfl <| seqQ_x <| blockQ_miss rfl <| zs <| zc rfl <| zc rfl <| zd <| zr ?_
   refine yQ ⟨_, _⟩ (.t rfl (.t rfl .nil)) trivial rfl (.of (.t0 (.d (.d .rf))))
theorem mgneeds_no (k : Int) (F : List Assn) (h : ¬ (1 ≤ k ∧ k ≤ 10)) : Meets Tryz.prog 83 [i64 k] F (Det (.tuple #[.slice none 0 0, .bool false]) F) := by
  refine Meets.intro b83 k83 (by simp) ?_
  focus
   refine zs <| zc rfl <| zc rfl <| zc rfl <| zc rfl <| zd <| zq <| zb <| zq <| zb <| zq <| zb ?_
   refine zq <| zb <| zq <| zb <| zq <| zb <| zq <| zb <| zq <| zb <| zs <| zy (.ceqF rfl rfl (by omega)) ?_
   refine zd <| zq <| zu rfl <| zk <| zs <| zy (.ceqF rfl rfl (by omega)) <| zd <| zq <| zu rfl <| zk <| zs <| zy (.ceqF rfl rfl (by omega)) ?_
   refine zd <| zq <| zu rfl <| zs <| zy (.ceqF rfl rfl (by omega)) <| zd <| zu rfl <| zo <| zy (.ceqF rfl rfl (by omega)) <| zd <| zq <| zu rfl ?_
   refine zk <| zs <| zy (.ceqF rfl rfl (by omega)) <| zd <| zq <| zu rfl <| zk <| zs <| zy (.ceqF rfl rfl (by omega)) <| zd <| zq <| zu rfl ?_
   refine zk <| zs <| zy (.ceqF rfl rfl (by omega)) <| zd <| zq <| zu rfl <| zs <| zy (.ceqF rfl rfl (by omega)) <| zd <| zu rfl <| zo <| zy (.ceqF rfl rfl (by omega)) ?_
   refine zd <| zq <| zu rfl <| zk <| zx <| blockQ_miss rfl <| seqQ_x <| blockQ_miss rfl <| seqQ_x <| blockQ_miss rfl <| seqQ_x <| blockQ_miss rfl ?_
   refine seqQ_x <| blockQ_miss rfl <| seqQ_x <| blockQ_miss rfl <| zs <| zc rfl <| zc rfl <| zd <| zr <| yR (.t rfl (.t rfl .nil)) rfl (.of .rf)
end Go.Proofs.YtmeajliiloaegaaGreat

set_option linter.unusedSimpArgs false
set_option linter.unusedVariables false
set_option maxRecDepth 100000
set_option maxHeartbeats 2000000
namespace Go.SL
open Go
def nR (k : Int) (i : Nat) : Nat := ((needsL k).take i).count 7
def nI (k : Int) (i : Nat) : Nat := ((needsL k).take i).count 2
def fieldAt (a : Ask) (i : Nat) : Fld := if nth (needsL a.kind) i = 5 then fdV a.w else if nth (needsL a.kind) i = 7 then fdR (nth [a.ref, a.ref2] (nR a.kind i)) else fdI (nth [a.o.agent, a.o.op] (nI a.kind i))
def fldOk (x : Fld) : Prop := (x.kind = 5 → vecOk x.v) ∧ (x.kind = 7 → refOk x.r)
/-- A field without bytes. -/
def fd0C (x : Fld) : List Value := [i64 x.kind, u64 x.n, i64 x.i, .bool x.t, .slice none 0 0, i64 x.v.len, u64 x.v.bits, i64 x.k.rank, u64 x.k.n, i64 x.r.id, i64 x.r.key.rank, u64 x.r.key.n, i64 x.r.vec.len, u64 x.r.vec.bits]
theorem fd0C_one : ∀ o : Fld, (fd0C o).length = 14 ∧ ∀ v ∈ fd0C o, isOne v = true := by intro o; simp [fd0C, isOne]
instance : FS fd0C 5 2 vecC Fld.v := ⟨fun _ => rfl⟩
instance : FS fd0C 9 5 refC Fld.r := ⟨fun _ => rfl⟩
theorem kind10 {k : Int} (h : 1 ≤ k ∧ k ≤ 10) : k = 1 ∨ k = 2 ∨ k = 3 ∨ k = 4 ∨ k = 5 ∨ k = 6 ∨ k = 7 ∨ k = 8 ∨ k = 9 ∨ k = 10 := by omega
theorem needs_len (k : Int) : (needsL k).length ≤ 5 := by
  unfold needsL; repeat' split
  all_goals decide
theorem needs_at {k : Int} {i : Nat} (h : 1 ≤ k ∧ k ≤ 10) (hi : i < (needsL k).length) :
    (nth (needsL k) i = 5 ∧ nR k (i + 1) = nR k i ∧ nI k (i + 1) = nI k i) ∨ (nth (needsL k) i = 7 ∧ nR k i < 2 ∧ nR k (i + 1) = nR k i + 1 ∧ nI k (i + 1) = nI k i) ∨ (nth (needsL k) i = 2 ∧ nI k i < 2 ∧ nR k (i + 1) = nR k i ∧ nI k (i + 1) = nI k i + 1) := by
  have h5 := needs_len k
  rcases kind10 h with rfl | rfl | rfl | rfl | rfl | rfl | rfl | rfl | rfl | rfl <;>
  (have hj : i = 0 ∨ i = 1 ∨ i = 2 ∨ i = 3 ∨ i = 4 := by omega
   rcases hj with rfl | rfl | rfl | rfl | rfl <;> revert hi <;> decide)
def madeF (s : Ask × Int × Int) (f : Fld) : Ask × Int × Int :=
  if f.kind = 5 then ({ s.1 with w := f.v }, s.2.1, s.2.2)
  else if f.kind = 7 ∧ s.2.1 = 0 then ({ s.1 with ref := f.r }, s.2.1 + 1, s.2.2)
  else if f.kind = 7 then ({ s.1 with ref2 := f.r }, s.2.1, s.2.2)
  else if s.2.2 = 0 then ({ s.1 with o := ⟨f.i, s.1.o.op⟩ }, s.2.1, s.2.2 + 1)
  else ({ s.1 with o := ⟨s.1.o.agent, f.i⟩ }, s.2.1, s.2.2)
def madeS (k : Int) (xs : List Fld) : Ask × Int × Int := xs.foldl madeF (⟨k, zV, zR, zR, zO⟩, 0, 0)
theorem madeS_snoc (k : Int) (xs : List Fld) (i : Nat) (h : i < xs.length) : madeS k (xs.take (i + 1)) = madeF (madeS k (xs.take i)) (nth xs i) := by
  unfold madeS
  rw [List.take_add_one, List.getElem?_eq_getElem h, ← nth_eq h, List.foldl_append]; rfl
def fieldsL (a : Ask) (n : Nat) : List Fld := (List.range n).map (fieldAt a)
theorem fieldsL_len (a : Ask) (n : Nat) : (fieldsL a n).length = n := by simp [fieldsL]
theorem fieldsL_snoc (a : Ask) (n : Nat) : fieldsL a (n + 1) = fieldsL a n ++ [fieldAt a n] := by simp [fieldsL, List.range_succ]
theorem made_only (a : Ask) (h : 1 ≤ a.kind ∧ a.kind ≤ 10) : (madeS a.kind (fieldsL a (needsL a.kind).length)).1 = a.only := by
  obtain ⟨k, w, r, r2, o⟩ := a
  rcases kind10 h with rfl | rfl | rfl | rfl | rfl | rfl | rfl | rfl | rfl | rfl <;> rfl
theorem ask_ok (a : Ask) (h : 1 ≤ a.kind ∧ a.kind ≤ 10) (hf : ∀ j, j < (needsL a.kind).length → fldOk (fieldAt a j)) : a.ok ↔ a.only = a := by
  unfold Ask.ok
  constructor
  · intro h; exact h.2.2.1.symm
  · intro he
    refine ⟨h.1, h.2, he.symm, ?_⟩
    obtain ⟨k, w, r, r2, o⟩ := a
    have h0 := hf 0; have h1 := hf 1; have h2 := hf 2
    rcases kind10 h with rfl | rfl | rfl | rfl | rfl | rfl | rfl | rfl | rfl | rfl <;>
    simp only [Ask.hasW, Ask.hasR] <;> simp (config := { decide := true }) [fieldAt, fldOk, needsL, nR, nI, nth] at h0 h1 h2 ⊢ <;> (try simp_all)
theorem ask_no (a : Ask) (h : 1 ≤ a.kind ∧ a.kind ≤ 10) {j : Nat} (hj : j < (needsL a.kind).length) (hf : ¬ fldOk (fieldAt a j)) : ¬ a.ok := by
  rintro ⟨_, _, _, h1, h2, h3⟩
  obtain ⟨k, w, r, r2, o⟩ := a
  simp only at h1 h2 h3 hj
  have hj' : j = 0 ∨ j = 1 ∨ j = 2 ∨ j = 3 ∨ j = 4 := by have := needs_len k; omega
  apply hf
  rcases kind10 h with rfl | rfl | rfl | rfl | rfl | rfl | rfl | rfl | rfl | rfl <;>
  rcases hj' with rfl | rfl | rfl | rfl | rfl <;>
  first
    | (exfalso; revert hj; decide)
    | (simp (config := { decide := true }) [Ask.hasW, Ask.hasR] at h1 h2 h3
       simp (config := { decide := true }) [fieldAt, fldOk, needsL, nR, nI, nth]
       try assumption)
end Go.SL
namespace Go.Proofs.YtmeajliiloaegaaGreat
open Go Go.SL
attribute [local irreducible] pc rc SlT Me Mt It pt ro pur ex sep old Meets
instance : TE 158 Fld fd0C 14 := ⟨fd0C_one, by decide⟩
theorem mgmade_fn {a1 : Option Addr} {c1 : Nat} {xs : List Fld} (k : Int) {F : List Assn} [Hs : HS F (.slice a1 xs.length c1) Fld fd0C 14 c1 xs] :
    Meets Tryz.prog 85 [i64 k, .slice a1 xs.length c1] F (Det (askv (madeS k xs).1) F) := by
  refine Meets.intro b85 k85 (by simp) ?_
  refine J.sl Hs (fun hC hL _ => ?_)
  focus
   refine zs <| yN fun b4 => zg rfl <| yN fun b5 => yW rfl rfl rfl rfl rfl <| zc rfl <| zc rfl <| zc rfl <| zc rfl <| zc rfl <| zd <| zq ?_
   refine zb ?_
  refine J.lp (ι := Nat × SL.Ask × Int × Int) (fun i => i.1 ≤ xs.length ∧ i.2 = madeS k (xs.take i.1)) (fun i => [(6, i64 i.2.2.1), (7, i64 i.2.2.2), (14, i64 (i.1 : Int))])
    (fun i => pc b4 47 (askC zAsk) :: pc b5 47 (askC i.2.1) :: F) (fun i => xs.length - i.1) (0, ⟨k, zV, zR, zR, zO⟩, 0, 0) ⟨by simp, rfl⟩ (by exact subxR rfl) (.of (.t1 (.t0 .rf))) (fun i hi => ?_)
  obtain ⟨i, s, n, m⟩ := i
  obtain ⟨hi, he⟩ := hi
  dsimp only at hi he ⊢
  by_cases hlt : i < xs.length
  · have hs := madeS_snoc k xs i hlt
    rw [← he] at hs
    generalize hf : nth xs i = f at hs
    subst hf
    unfold madeF at hs
    dsimp only at hs
    focus
     refine zs <| zy (.cltT rfl rfl (by omega)) <| zd <| zq <| zt rfl <| zk <| zq <| zb <| zs <| zy (.iC rfl rfl (by omega)) <| zy (.LE rfl (by omega)) <| yN fun b9 => ?_
     refine yW rfl rfl rfl rfl rfl <| zd <| zb <| zs <| zfl rfl rfl rfl <| zj rfl rfl rfl <| zd <| zi rfl (fun h1 => ?_) (fun h1 => ?_)
     refine zo <| zfw [_, _] rfl rfl rfl rfl <| zf 1 rfl rfl <| yS rfl rfl rfl rfl rfl (Nat.le_of_ble_eq_true rfl) rfl <| zd <| zo <| zy (.addN rfl rfl (by omega)) <| zd <| seqQ_n ?_
     rotate_left
     refine zs <| zfl rfl rfl rfl <| zj rfl rfl rfl <| zm rfl rfl (fun h2 => .int rfl rfl rfl) <| zy (.pickA rfl rfl rfl) <| zd <| zi rfl (fun h2 => ?_) (fun h2 => ?_)
     refine zo <| zfw [_, _, _, _, _] rfl rfl rfl rfl <| zf 3 rfl rfl <| yS rfl rfl rfl rfl rfl (Nat.le_of_ble_eq_true rfl) rfl <| zy (.add rfl rfl (Wr.i64 (by omega) (by omega))) <| zd <| zo <| zy (.addN rfl rfl (by omega)) <| zd <| seqQ_n ?_
     rotate_left
     refine zs <| zfl rfl rfl rfl <| zj rfl rfl rfl <| zd <| zi rfl (fun h3 => ?_) (fun h3 => ?_)
     refine zo <| zfw [_, _, _, _, _] rfl rfl rfl rfl <| zf 8 rfl rfl <| yS rfl rfl rfl rfl rfl (Nat.le_of_ble_eq_true rfl) rfl <| zd <| zo <| zy (.addN rfl rfl (by omega)) <| zd <| seqQ_n ?_
     rotate_left
     refine zs <| zj rfl rfl rfl <| zd <| zi rfl (fun h4 => ?_) (fun h4 => ?_)
     refine zo <| zfl rfl rfl rfl <| zf 13 rfl rfl <| zf 13 rfl rfl <| yS rfl rfl rfl rfl rfl (Nat.le_of_ble_eq_true rfl) rfl <| zy (.add rfl rfl (Wr.i64 (by omega) (by omega))) <| zd <| zo <| zy (.addN rfl rfl (by omega)) <| zd <| seqQ_n ?_
     rotate_left
     refine zo <| zfl rfl rfl rfl <| zf 13 rfl rfl <| zf 14 rfl rfl <| yS rfl rfl rfl rfl rfl (Nat.le_of_ble_eq_true rfl) rfl <| zd <| zo <| zy (.addN rfl rfl (by omega)) <| zd <| seqQ_n ?_
     rotate_left
    · refine ⟨(i + 1, ⟨s.kind, (nth xs i).v, s.ref, s.ref2, s.o⟩, n, m), ⟨by simp only; omega, ?_⟩, by simp only; omega, by exact subxR rfl, by exact (.of (.t2 (.t0 (.d .rf))))⟩
      rw [if_pos h1] at hs; exact hs.symm
    · refine ⟨(i + 1, ⟨s.kind, s.w, (nth xs i).r, s.ref2, s.o⟩, n + 1, m), ⟨by simp only; omega, ?_⟩, by simp only; omega, by exact subxR rfl, by exact (.of (.t2 (.t0 (.d .rf))))⟩
      rw [if_neg h1, if_pos h2] at hs; exact hs.symm
    · refine ⟨(i + 1, ⟨s.kind, s.w, s.ref, (nth xs i).r, s.o⟩, n, m), ⟨by simp only; omega, ?_⟩, by simp only; omega, by exact subxR rfl, by exact (.of (.t2 (.t0 (.d .rf))))⟩
      rw [if_neg h1, if_neg (by omega), if_pos h3] at hs; exact hs.symm
    · refine ⟨(i + 1, ⟨s.kind, s.w, s.ref, s.ref2, ⟨(nth xs i).i, s.o.op⟩⟩, n, m + 1), ⟨by simp only; omega, ?_⟩, by simp only; omega, by exact subxR rfl, by exact (.of (.t2 (.t0 (.d .rf))))⟩
      rw [if_neg h1, if_neg (by omega), if_neg h3, if_pos h4] at hs; exact hs.symm
    · refine ⟨(i + 1, ⟨s.kind, s.w, s.ref, s.ref2, ⟨s.o.agent, (nth xs i).i⟩⟩, n, m), ⟨by simp only; omega, ?_⟩, by simp only; omega, by exact subxR rfl, by exact (.of (.t2 (.t0 (.d .rf))))⟩
      rw [if_neg h1, if_neg (by omega), if_neg h3, if_neg h4] at hs; exact hs.symm
  · rw [show i = xs.length by omega, List.take_length] at he
    focus
     refine zs <| zy (.cltF rfl rfl (by omega)) <| zd <| zq <| zu rfl <| zx <| zs <| zw rfl rfl <| yW rfl rfl rfl rfl rfl <| zd <| zr <| yR (.w rfl rfl .nil) ?_ (.of (.d (.d .rf)))
    simp only [mkRet]; rw [← he]
end Go.Proofs.YtmeajliiloaegaaGreat

set_option linter.unusedSimpArgs false
set_option linter.unusedVariables false
set_option maxRecDepth 100000
set_option maxHeartbeats 2000000
namespace Go.Proofs.YtmeajliiloaegaaGreat
open Go Go.SL
attribute [local irreducible] pc rc SlT Me Mt It pt ro pur ex sep old Meets
theorem fieldAt_5 {a : SL.Ask} {i : Nat} (h : nth (needsL a.kind) i = 5) : fieldAt a i = fdV a.w := if_pos h
theorem fieldAt_7 {a : SL.Ask} {i : Nat} (h : nth (needsL a.kind) i = 7) : fieldAt a i = fdR (nth [a.ref, a.ref2] (nR a.kind i)) := by unfold fieldAt; rw [if_neg (by omega), if_pos h]
theorem fieldAt_2 {a : SL.Ask} {i : Nat} (h : nth (needsL a.kind) i = 2) : fieldAt a i = fdI (nth [a.o.agent, a.o.op] (nI a.kind i)) := by unfold fieldAt; rw [if_neg (by omega), if_neg (by omega)]
theorem nth_drop {α : Type} [Inhabited α] {xs : List α} {j : Nat} : nth (xs.drop j) 0 = nth xs j := by simp [nth, List.getD]
theorem drop_len {α : Type} {xs : List α} {j n : Nat} (h : j ≤ xs.length) (e : xs.length = n) : (xs.drop j).length = n - j := by simp; omega
instance : TE 29 SL.Ref refC 5 := ⟨refC_one, by decide⟩
theorem mgask_ok (a : SL.Ask) (F : List Assn) (h : 1 ≤ a.kind ∧ a.kind ≤ 10) : Meets Tryz.prog 49 [askv a] F (Some' (fun _ : Value => True) (fun s => .tuple #[s, .bool (decide a.ok)]) (fun _ => F)) := by
  refine Meets.intro b49 k49 (by simp) ?_
  have hn := needs_len a.kind
  refine J.nilS fd0C 14 true (by decide) ?_
  focus
   refine zs <| yB rfl fun b1 => zc rfl <| zc rfl <| zfl rfl rfl rfl <| yE rfl rfl (.of .rf) (mgneeds_fn _ _ (by assumption)) fun ⟨a15, c15⟩ _ => zc rfl <| zc rfl <| zc rfl <| zc rfl <| zd <| zq ?_
   refine zu rfl <| zk <| seqQ_n ?_
  dsimp only
  refine J.cutD (ι := (Option Addr × Nat) × Option Addr × Nat) (fun _ => True) (fun x => [(6, .slice none ([] : List Fld).length 0), (7, .slice x.1.1 [a.ref, a.ref2].length x.1.2), (8, .slice x.2.1 [a.o.agent, a.o.op].length x.2.2)])
    (fun x => SlT true fd0C 14 (.slice none ([] : List Fld).length 0) 0 [] :: SlT true refC 5 (.slice x.1.1 [a.ref, a.ref2].length x.1.2) x.1.2 [a.ref, a.ref2] :: SlT true intE 1 (.slice x.2.1 [a.o.agent, a.o.op].length x.2.2) x.2.2 [a.o.agent, a.o.op] :: SlT true intE 1 (.slice a15 (needsL a.kind).length c15) c15 (needsL a.kind) :: pc b1 47 (askC a) :: F) ?_ (fun x _ => ?_)
  · focus
     refine zo <| zc rfl <| zfw [_, _, _, _, _] rfl rfl rfl rfl <| zfw [_, _, _, _, _] rfl rfl rfl rfl <| zf 13 rfl rfl <| zfl rfl rfl rfl <| zf 13 rfl rfl <| zfl rfl rfl rfl <| JT.both ?_ ?_
     refine JT.bT [_, _] (by repeat (first | exact Cells.nil | apply Cells.z | (apply Cells.cl; rfl; rfl; rfl))) rfl (by decide) fun a24 => ?_
     refine zc rfl <| JT.bT [_, _] (by repeat (first | exact Cells.nil | apply Cells.z | (apply Cells.cl; rfl; rfl; rfl))) rfl (by decide) fun a31 => ?_
     refine zc rfl <| zd <| ⟨⟨⟨_, _⟩, ⟨_, _⟩⟩, ?_, (subxR rfl), (.of (.t4 (.t1 (.t0 (.t0 (.t0 .rf))))))⟩
     omega
     refine JT.bT [_, _] (by repeat (first | exact Cells.nil | apply Cells.z | (apply Cells.cl; rfl; rfl; rfl))) rfl (by decide) fun a31 => ?_
     refine JT.bT [_, _] (by repeat (first | exact Cells.nil | apply Cells.z | (apply Cells.cl; rfl; rfl; rfl))) rfl (by decide) fun a24 => ?_
     refine zc rfl <| zc rfl <| zd <| ⟨⟨⟨_, _⟩, ⟨_, _⟩⟩, ?_, (subxR rfl), (.of (.t4 (.t0 (.t0 (.t0 (.t0 .rf))))))⟩
     omega
  obtain ⟨⟨a7, c7⟩, a8, c8⟩ := x
  dsimp only
  refine J.frz (sv := .slice a7 [a.ref, a.ref2].length c7) (xs := [a.ref, a.ref2]) (by (repeat (first | exact Has.here | assumption | apply Has.there))) ?_
  refine J.frz (sv := .slice a8 [a.o.agent, a.o.op].length c8) (xs := [a.o.agent, a.o.op]) (by (repeat (first | exact Has.here | assumption | apply Has.there))) ?_
  focus
   refine zs <| zc rfl <| zc rfl <| zc rfl <| zd <| zq <| zb ?_
  refine J.lp (ι := Nat × (Option Addr × Nat × List Fld) × (Option Addr × Nat × List SL.Ref) × (Option Addr × Nat × List Int)) (fun i => i.1 ≤ (needsL a.kind).length ∧ nR a.kind i.1 ≤ 2 ∧ nI a.kind i.1 ≤ 2 ∧ (∀ j, j < i.1 → fldOk (fieldAt a j)) ∧ i.2.1.2.2 = fieldsL a i.1 ∧ i.2.2.1.2.2 = [a.ref, a.ref2].drop (nR a.kind i.1) ∧ i.2.2.2.2.2 = [a.o.agent, a.o.op].drop (nI a.kind i.1))
    (fun i => [(6, .slice i.2.1.1 i.2.1.2.2.length i.2.1.2.1), (7, .slice i.2.2.1.1 i.2.2.1.2.2.length i.2.2.1.2.1), (8, .slice i.2.2.2.1 i.2.2.2.2.2.length i.2.2.2.2.1), (34, i64 (i.1 : Int))])
    (fun i => SlT true fd0C 14 (.slice i.2.1.1 i.2.1.2.2.length i.2.1.2.1) i.2.1.2.1 i.2.1.2.2 :: SlT false refC 5 (.slice i.2.2.1.1 i.2.2.1.2.2.length i.2.2.1.2.1) i.2.2.1.2.1 i.2.2.1.2.2 :: SlT false intE 1 (.slice i.2.2.2.1 i.2.2.2.2.2.length i.2.2.2.2.1) i.2.2.2.2.1 i.2.2.2.2.2 ::
      SlT true intE 1 (.slice a15 (needsL a.kind).length c15) c15 (needsL a.kind) :: pc b1 47 (askC a) :: F) (fun i => (needsL a.kind).length - i.1) (0, (none, 0, []), (a7, c7, [a.ref, a.ref2]), (a8, c8, [a.o.agent, a.o.op])) ⟨by simp, by simp [nR], by simp [nI], fun j hj => by simp at hj, rfl, by simp [nR], by simp [nI]⟩ (by exact subxR rfl) (.of (.t2 (.t1 (.t0 (.t0 (.t0 .rf)))))) (fun i hi => ?_)
  obtain ⟨i, ⟨a6, c6, fs⟩, ⟨a7, c7, rs⟩, a8, c8, is⟩ := i
  obtain ⟨hi, hr, hj, hf, hfs, hrs, his⟩ := hi
  dsimp only at hi hr hj hf hfs hrs his ⊢
  have hl6 : fs.length = i := by rw [hfs, fieldsL_len]
  by_cases hlt : i < (needsL a.kind).length
  · refine J.slF (a := a7) (xs := rs) (by (repeat (first | exact Has.here | assumption | apply Has.there))) (fun g7 _ _ => ?_)
    refine J.slF (a := a8) (xs := is) (by (repeat (first | exact Has.here | assumption | apply Has.there))) (fun g8 _ _ => ?_)
    have hl7 : rs.length = 2 - nR a.kind i := by rw [hrs]; exact drop_len hr rfl
    have hl8 : is.length = 2 - nI a.kind i := by rw [his]; exact drop_len hj rfl
    have hn7 : nth rs 0 = nth [a.ref, a.ref2] (nR a.kind i) := by rw [hrs, nth_drop]
    have hn8 : nth is 0 = nth [a.o.agent, a.o.op] (nI a.kind i) := by rw [his, nth_drop]
    have hG : ∀ x : Fld, fieldAt a i = x → fldOk x → i + 1 ≤ (needsL a.kind).length ∧ (∀ j, j < i + 1 → fldOk (fieldAt a j)) ∧ fs ++ [x] = fieldsL a (i + 1) := by
      intro x hx ho
      refine ⟨by omega, fun j hj => ?_, by rw [fieldsL_snoc, hfs, hx]⟩
      rcases Nat.lt_succ_iff_lt_or_eq.1 hj with h | h
      · exact hf j h
      · rw [h, hx]; exact ho
    rcases needs_at h hlt with ⟨e, e1, e2⟩ | ⟨e, e1, e2, e3⟩ | ⟨e, e1, e2, e3⟩
    · have hP : ∀ F, Meets Tryz.prog 84 [fdv ⟨nth (needsL a.kind) i, 0, 0, false, [], a.w, zK, zR⟩ none 0] F (Det (i64 (if vecOk a.w then 0 else 30)) F) := fun F => by rw [e]; exact pkCheck_V a.w F
      have hat := fieldAt_5 e
      by_cases hv : vecOk a.w
      · rw [if_pos hv] at hP
        focus
         refine zs <| zy (.cltT rfl rfl (by omega)) <| zd <| zq <| zt rfl <| zk <| zq <| zb <| zs <| zy (.iC rfl rfl (by omega)) <| zy (.LE0 rfl (by omega) rfl) <| zg rfl ?_
         refine yN fun b11 => yW rfl rfl rfl rfl rfl <| zc rfl <| zd <| zq <| zb <| zs <| zy (.ceqT rfl rfl (by omega)) <| zd <| zt rfl <| zo <| zfw [_, _] rfl rfl rfl rfl ?_
         refine zf 5 rfl rfl <| yS (us := [_, _]) rfl rfl rfl rfl rfl (Nat.le_of_ble_eq_true rfl) (by simp only [lput]; rfl) <| zd <| zs <| zw rfl rfl <| yD rfl rfl (.of .rf) (hP _) <| zy (.cneF rfl rfl (by decide)) <| zd <| zq <| zu rfl <| zk <| zo ?_
         refine zw rfl rfl <| JT.bsl1 (by repeat (first | exact Cells.nil | apply Cells.z | (apply Cells.cl; rfl; rfl; rfl))) (by simp only [List.length_cons, List.length_nil, Nat.reduceAdd]; rfl) (by decide) (by rfl) fun a67 => ?_
        refine JT.A1 (v := ⟨nth (needsL a.kind) i, 0, 0, false, [], a.w, zK, zR⟩) rfl rfl (by rfl) rfl (by decide) (by omega) (fun a6' c6' hc6 => ?_)
        focus
         refine zd <| zo <| zy (.addN rfl rfl (by omega)) <| zd <| seqQ_n ?_
        obtain ⟨q1, q2, q3⟩ := hG ⟨nth (needsL a.kind) i, 0, 0, false, [], a.w, zK, zR⟩ (hat.trans (by rw [e])) (⟨fun _ => hv, fun h => by simp only at h; omega⟩)
        refine ⟨(i + 1, (a6', c6', fs ++ [⟨nth (needsL a.kind) i, 0, 0, false, [], a.w, zK, zR⟩]), (a7, c7, rs), (a8, c8, is)), ?_, by simp only; omega, by exact subxR rfl, by exact (.of (.t0 (.t2 (.t2 (.t2 (.t2 (.d (.d .rf))))))))⟩
        exact ⟨q1, by dsimp only; omega, by dsimp only; omega, q2, q3, by rw [e1]; exact hrs, by rw [e2]; exact his⟩
      · rw [if_neg hv] at hP
        focus
         refine zs <| zy (.cltT rfl rfl (by omega)) <| zd <| zq <| zt rfl <| zk <| zq <| zb <| zs <| zy (.iC rfl rfl (by omega)) <| zy (.LE0 rfl (by omega) rfl) <| zg rfl ?_
         refine yN fun b11 => yW rfl rfl rfl rfl rfl <| zc rfl <| zd <| zq <| zb <| zs <| zy (.ceqT rfl rfl (by omega)) <| zd <| zt rfl <| zo <| zfw [_, _] rfl rfl rfl rfl ?_
         refine zf 5 rfl rfl <| yS (us := [_, _]) rfl rfl rfl rfl rfl (Nat.le_of_ble_eq_true rfl) (by simp only [lput]; rfl) <| zd <| zs <| zw rfl rfl <| yD rfl rfl (.of .rf) (hP _) <| zy (.cneT rfl rfl (by decide)) <| zd <| zq <| zt rfl <| zs <| zc rfl ?_
         refine zc rfl <| zd <| zr <| seqQ_r <| blockQ_r <| seqQ_r <| seqQ_r <| blockQ_r <| seqQ_r ?_
        refine retQS (.slice none 0 0) (.t rfl (.t rfl .nil)) trivial (by simp only [mkRet]; rw [decide_eq_false (ask_no a h hlt (by rw [hat]; intro h; exact hv (h.1 rfl)))]) (.of (.d (.d (.d (.d (.d (.d .rf)))))))
    · have hP : ∀ F, Meets Tryz.prog 84 [fdv ⟨nth (needsL a.kind) i, 0, 0, false, [], zV, zK, nth rs 0⟩ none 0] F (Det (i64 (if refOk (nth rs 0) then 0 else 30)) F) := fun F => by rw [e]; exact pkCheck_R _ F
      have hat := fieldAt_7 e
      by_cases hv : refOk (nth rs 0)
      · rw [if_pos hv] at hP
        focus
         refine zs <| zy (.cltT rfl rfl (by omega)) <| zd <| zq <| zt rfl <| zk <| zq <| zb <| zs <| zy (.iC rfl rfl (by omega)) <| zy (.LE0 rfl (by omega) rfl) <| zg rfl ?_
         refine yN fun b11 => yW rfl rfl rfl rfl rfl <| zc rfl <| zd <| zq <| zb <| zs <| zy (.ceqF rfl rfl (by omega)) <| zd <| zu rfl <| zs <| zy (.ceqT rfl rfl (by omega)) ?_
         refine zd <| zt rfl <| zo <| zy (.iC rfl rfl (by omega)) <| zy (.LE rfl (by omega)) ?_
         ((refine JT.G rfl (.c rfl) .no .no (by decide) (by omega) (by omega) (by omega) (by omega) (fun a52 => ?_)); (try simp only [List.take_length, List.drop_zero, Nat.sub_zero]))
         refine zf 9 rfl rfl <| yS (us := [_, _, _, _, _]) rfl rfl rfl rfl rfl (Nat.le_of_ble_eq_true rfl) (by simp only [lput]; rfl) <| zc rfl <| zd <| zs <| zw rfl rfl <| yD rfl rfl (.of .rf) (hP _) <| zy (.cneF rfl rfl (by decide)) <| zd <| zq <| zu rfl <| zk ?_
         refine zo <| zw rfl rfl <| JT.bsl1 (by repeat (first | exact Cells.nil | apply Cells.z | (apply Cells.cl; rfl; rfl; rfl))) (by simp only [List.length_cons, List.length_nil, Nat.reduceAdd]; rfl) (by decide) (by rfl) fun a67 => ?_
        refine JT.A1 (v := ⟨nth (needsL a.kind) i, 0, 0, false, [], zV, zK, nth rs 0⟩) rfl rfl (by rfl) rfl (by decide) (by omega) (fun a6' c6' hc6 => ?_)
        focus
         refine zd <| zo <| zy (.addN rfl rfl (by omega)) <| zd <| seqQ_n ?_
        obtain ⟨q1, q2, q3⟩ := hG ⟨nth (needsL a.kind) i, 0, 0, false, [], zV, zK, nth rs 0⟩ (hat.trans (by rw [e, hn7])) (⟨fun h => by simp only at h; omega, fun _ => hv⟩)
        refine ⟨(i + 1, (a6', c6', fs ++ [⟨nth (needsL a.kind) i, 0, 0, false, [], zV, zK, nth rs 0⟩]), (a52, c7 - 1, rs.drop 1), (a8, c8, is)), ?_, by simp only; omega, by exact subxR rfl, by exact (.of (.t0 (.t2 (.t3 (.t3 (.t3 (.d (.d (.d .rf)))))))))⟩
        exact ⟨q1, by dsimp only; omega, by dsimp only; omega, q2, q3, by dsimp only; rw [e2, hrs, List.drop_drop, Nat.add_comm], by rw [e3]; exact his⟩
      · rw [if_neg hv] at hP
        focus
         refine zs <| zy (.cltT rfl rfl (by omega)) <| zd <| zq <| zt rfl <| zk <| zq <| zb <| zs <| zy (.iC rfl rfl (by omega)) <| zy (.LE0 rfl (by omega) rfl) <| zg rfl ?_
         refine yN fun b11 => yW rfl rfl rfl rfl rfl <| zc rfl <| zd <| zq <| zb <| zs <| zy (.ceqF rfl rfl (by omega)) <| zd <| zu rfl <| zs <| zy (.ceqT rfl rfl (by omega)) ?_
         refine zd <| zt rfl <| zo <| zy (.iC rfl rfl (by omega)) <| zy (.LE rfl (by omega)) ?_
         ((refine JT.G rfl (.c rfl) .no .no (by decide) (by omega) (by omega) (by omega) (by omega) (fun a52 => ?_)); (try simp only [List.take_length, List.drop_zero, Nat.sub_zero]))
         refine zf 9 rfl rfl <| yS (us := [_, _, _, _, _]) rfl rfl rfl rfl rfl (Nat.le_of_ble_eq_true rfl) (by simp only [lput]; rfl) <| zc rfl <| zd <| zs <| zw rfl rfl <| yD rfl rfl (.of .rf) (hP _) <| zy (.cneT rfl rfl (by decide)) <| zd <| zq <| zt rfl <| zs ?_
         refine zc rfl <| zc rfl <| zd <| zr <| seqQ_r <| blockQ_r <| seqQ_r <| seqQ_r <| blockQ_r <| seqQ_r ?_
        refine retQS (.slice none 0 0) (.t rfl (.t rfl .nil)) trivial (by simp only [mkRet]; rw [decide_eq_false (ask_no a h hlt (by rw [hat]; rw [← hn7]; intro h; exact hv (h.2 rfl)))]) (.of (.d (.d (.d (.d (.d (.d (.d .rf))))))))
    · have hP : ∀ F, Meets Tryz.prog 84 [fdv ⟨nth (needsL a.kind) i, 0, nth is 0, false, [], zV, zK, zR⟩ none 0] F (Det (i64 0) F) := fun F => by rw [e]; exact pkCheck_I _ F
      have hat := fieldAt_2 e
      focus
       refine zs <| zy (.cltT rfl rfl (by omega)) <| zd <| zq <| zt rfl <| zk <| zq <| zb <| zs <| zy (.iC rfl rfl (by omega)) <| zy (.LE0 rfl (by omega) rfl) <| zg rfl ?_
       refine yN fun b11 => yW rfl rfl rfl rfl rfl <| zc rfl <| zd <| zq <| zb <| zs <| zy (.ceqF rfl rfl (by omega)) <| zd <| zu rfl <| zs <| zy (.ceqF rfl rfl (by omega)) ?_
       refine zd <| zu rfl <| zs <| zy (.ceqT rfl rfl (by omega)) <| zd <| zt rfl <| zo <| zy (.iC rfl rfl (by omega)) <| zy (.LE0 rfl (by omega) rfl) ?_
       ((refine JT.G rfl (.c rfl) .no .no (by decide) (by omega) (by omega) (by omega) (by omega) (fun a60 => ?_)); (try simp only [List.take_length, List.drop_zero, Nat.sub_zero]))
       refine zf 2 rfl rfl <| yS (us := [_]) rfl rfl rfl rfl rfl (Nat.le_of_ble_eq_true rfl) (by simp only [lput]; rfl) <| zc rfl <| zd <| zs <| zw rfl rfl <| yD rfl rfl (.of .rf) (hP _) <| zy (.cneF rfl rfl (by decide)) <| zd <| zq <| zu rfl <| zk ?_
       refine zo <| zw rfl rfl <| JT.bsl1 (by repeat (first | exact Cells.nil | apply Cells.z | (apply Cells.cl; rfl; rfl; rfl))) (by simp only [List.length_cons, List.length_nil, Nat.reduceAdd]; rfl) (by decide) (by rfl) fun a67 => ?_
      refine JT.A1 (v := ⟨nth (needsL a.kind) i, 0, nth is 0, false, [], zV, zK, zR⟩) rfl rfl (by rfl) rfl (by decide) (by omega) (fun a6' c6' hc6 => ?_)
      focus
       refine zd <| zo <| zy (.addN rfl rfl (by omega)) <| zd <| seqQ_n ?_
      obtain ⟨q1, q2, q3⟩ := hG ⟨nth (needsL a.kind) i, 0, nth is 0, false, [], zV, zK, zR⟩ (hat.trans (by rw [e, hn8])) (⟨fun h => by simp only at h; omega, fun h => by simp only at h; omega⟩)
      refine ⟨(i + 1, (a6', c6', fs ++ [⟨nth (needsL a.kind) i, 0, nth is 0, false, [], zV, zK, zR⟩]), (a7, c7, rs), (a60, c8 - 1, is.drop 1)), ?_, by simp only; omega, by exact subxR rfl, by exact (.of (.t0 (.t3 (.t2 (.t3 (.t3 (.d (.d (.d .rf)))))))))⟩
      exact ⟨q1, by dsimp only; omega, by dsimp only; omega, q2, q3, by rw [e2]; exact hrs, by dsimp only; rw [e3, his, List.drop_drop, Nat.add_comm]⟩
  · have hi' : i = (needsL a.kind).length := by omega
    subst hi'
    have hb : decide ((madeS a.kind fs).1 = a) = decide a.ok := by
      rw [hfs, made_only a h, Bool.eq_iff_iff, decide_eq_true_eq, decide_eq_true_eq, ask_ok a h hf]
    focus
     refine zs <| zy (.cltF rfl rfl (by omega)) <| zd <| zq <| zu rfl <| zx <| zs <| zfl rfl rfl rfl <| zw rfl rfl <| yD rfl rfl (.of .rf) (mgmade_fn _) <| JT.yA rfl (Ev.Lw rfl rfl) ?_
     refine zy (.eqT rfl rfl) <| zc rfl <| zc rfl <| zd <| zr ?_
    refine retQS (.slice a6 fs.length c6) (.t rfl (.t rfl .nil)) trivial (by simp only [mkRet]; rw [hb]) (.of (.d (.d (.d (.d (.d .rf))))))
end Go.Proofs.YtmeajliiloaegaaGreat

set_option linter.unusedSimpArgs false
set_option linter.unusedVariables false
set_option maxRecDepth 100000
set_option maxHeartbeats 2000000
namespace Go.SL
open Go
instance {a : SL.Ask} : BP (decide (askE a = 0)) a.ok (¬ a.ok) := .mk' (by simp [askE]) .rfl
instance {a : SL.Ask} : BP (decide (askE a ≠ 0)) (¬ a.ok) a.ok := .mk' (by simp [askE]) (by simp)
end Go.SL
namespace Go.Proofs.YtmeajliiloaegaaGreat
open Go Go.SL
attribute [local irreducible] pc rc SlT Me Mt It pt ro pur ex sep old Meets
theorem mgCheckAsk_fn (a : SL.Ask) (F : List Assn) : Meets Tryz.prog 25 [askv a] F (Det (i64 (askE a)) F) := by
  refine Meets.intro b25 k25 (by simp) ?_
  by_cases h : 1 ≤ a.kind ∧ a.kind ≤ 10
  · by_cases ho : a.ok
    · focus
       refine zs <| yB rfl fun b1 => zc rfl <| zw rfl rfl <| yE rfl rfl (.of .rf) (mgask_ok _ _ (by assumption)) fun x7 _ => zc rfl <| zc rfl <| zc rfl <| zd <| zq <| zi rfl (fun h1 => ?_) (fun h1 => ?_)
       contradiction
       refine zk <| zs <| zc rfl <| zd <| zr <| yR (.t rfl .nil) ?_ (.of (.d .rf))
      all_goals (simp only [mkRet, askE]; (repeat (first | rw [if_pos (by (first | assumption | omega | grind))] | rw [if_neg (by (first | assumption | omega | grind))])))
    · focus
       refine zs <| yB rfl fun b1 => zc rfl <| zw rfl rfl <| yE rfl rfl (.of .rf) (mgask_ok _ _ (by assumption)) fun x7 _ => zc rfl <| zc rfl <| zc rfl <| zd <| zq <| zi rfl (fun h1 => ?_) (fun h1 => ?_)
       refine zs <| zc rfl <| zd <| zr <| yR (.t rfl .nil) ?_ (.of (.d .rf))
       rotate_left
       contradiction
      all_goals (simp only [mkRet, askE]; (repeat (first | rw [if_pos (by (first | assumption | omega | grind))] | rw [if_neg (by (first | assumption | omega | grind))])))
  · have hP : ∀ F, Meets Tryz.prog 49 [askv a] F (Some' (fun _ : Value => True) (fun s => .tuple #[s, .bool false]) (fun _ => F)) := by
      intro F
      refine Meets.intro b49 k49 (by simp) ?_
      focus
       refine zs <| yB rfl fun b1 => zc rfl <| zc rfl <| zfl rfl rfl rfl <| yD rfl rfl (.of .rf) (mgneeds_no _ _ (by assumption)) <| zc rfl <| zc rfl <| zc rfl <| zc rfl <| zd <| zq ?_
       refine zt rfl <| zs <| zc rfl <| zc rfl <| zd <| zr <| yQ _ (.t rfl (.t rfl .nil)) trivial rfl (.of (.d .rf))
    have ho : ¬ a.ok := fun h' => h ⟨h'.1, h'.2.1⟩
    focus
     refine zs <| yB rfl fun b1 => zc rfl <| zw rfl rfl <| yE rfl rfl (.of .rf) (hP _) fun x7 _ => zc rfl <| zc rfl <| zc rfl <| zd <| zq <| zt rfl <| zs ?_
     refine zc rfl <| zd <| zr <| yR (.t rfl .nil) ?_ (.of (.d .rf))
    all_goals (simp only [mkRet, askE]; (repeat (first | rw [if_pos (by (first | assumption | omega | grind))] | rw [if_neg (by (first | assumption | omega | grind))])))
end Go.Proofs.YtmeajliiloaegaaGreat
