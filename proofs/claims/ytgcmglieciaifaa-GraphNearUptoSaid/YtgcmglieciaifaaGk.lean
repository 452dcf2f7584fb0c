/- Layer 11: Way: the function. Conditions: none. -/
import Derived.Test.YtgcmglieciaifaaGj
set_option linter.unusedSimpArgs false
set_option linter.unusedVariables false
set_option maxRecDepth 100000
set_option maxHeartbeats 4000000
namespace Go.SL
open Go
theorem gat_some {h : Int} {xs : List Ref} {id : Int} {r : Ref} (e : gat h xs id = some r) : r.id = id ∧ ∃ i, i < (grow h xs zV).length ∧ nth (grow h xs zV) i = r ∧ gfix (fun r => decide (r.id = id)) (grow h xs zV) = i := by
  unfold gat at e
  have h1 := List.find?_some e
  refine ⟨by simpa using h1, ?_⟩
  generalize grow h xs zV = L at *
  cases hx : L.findIdx? (fun r => decide (r.id = id)) with
  | none =>
    rw [List.findIdx?_eq_none_iff] at hx
    have := hx r (List.mem_of_find?_eq_some e)
    simp at this h1; exact absurd h1 this
  | some i =>
    obtain ⟨hi, h2, h3⟩ := List.findIdx?_eq_some_iff_getElem.1 hx
    refine ⟨i, hi, ?_, by unfold gfix; rw [hx]⟩
    rw [nth_eq hi]
    have : L.find? (fun r => decide (r.id = id)) = some L[i] := by
      rw [List.find?_eq_some_iff_getElem]
      exact ⟨h2, i, hi, rfl, fun j hj => by simpa using h3 j hj⟩
    rw [this] at e; exact Option.some.inj e
theorem gat_none {h : Int} {xs : List Ref} {id : Int} (e : gat h xs id = none) : gfix (fun r => decide (r.id = id)) (grow h xs zV) = -1 := by
  unfold gat at e
  unfold gfix
  have : (grow h xs zV).findIdx? (fun r => decide (r.id = id)) = none := by
    rw [List.findIdx?_eq_none_iff]; rw [List.find?_eq_none] at e
    intro x hx; simpa using e x hx
  rw [this]
end Go.SL
namespace Go.Proofs.Ytgcmglieciaifaa
open Go Go.SL
attribute [local irreducible] pc rc SlT Me Mt It pt ro pur ex sep old Meets
attribute [local irreducible] RowsA BysP GP WkP
theorem gAll_fn (F : List Assn) : Meets Try.prog 32 [] F (Det (vv zV) F) := by
  refine Meets.intro b32 k32 (by simp) ?_
  focus
   refine zs <| yN fun b0 => zg rfl <| yW rfl rfl rfl rfl rfl <| zd <| zr <| yR (.w rfl rfl .nil) rfl (.of (.d .rf))
theorem gWay1_fn {b : Nat} (id : Int) (r : SL.Ref) (F : List Assn) {T : Nat} {G : List Assn} [HP F b T [i64 id] G] : Meets Try.prog 33 [rv r, ptr b] F (Det (.bool (decide (r.id = id))) F) := by
  refine Meets.intro b33 k33 (by simp) ?_
  focus
   refine zs <| yB rfl fun b2 => zc rfl <| zfl rfl rfl rfl <| zl rfl rfl <| zj rfl rfl rfl <| zd <| zr <| yR (.t rfl .nil) rfl (.of (.d .rf))
theorem gListV_fn (b : Nat) (h : Int) (m : GB) (xs : List SL.Ref) (F : List Assn) (hm : ∀ w, (alk m w).getD [] = gmem xs w) (hl : xs.length ≤ 1022) (w : Vec) : Meets Try.prog 31 [ptr b, vv w] (GP b h m :: F)
    (Some' (fun _ : Option Addr × Nat => True) (fun x => .slice x.1 (grow h xs w).length x.2) (fun x => SlT true refC 5 (.slice x.1 (grow h xs w).length x.2) x.2 (grow h xs w) :: GP b h m :: F)) := by
  have := gList_fn b h m w F (by rw [hm]; exact Nat.le_trans (gmem_len _ _) hl)
  rw [hm] at this; exact this
theorem gWay_bad (h from' : Int) (tgt : SL.Key) {a1 : Option Addr} {c1 : Nat} {xs : List SL.Ref} {F : List Assn} [Hs : HS F (.slice a1 xs.length c1) SL.Ref refC 5 c1 xs] (hg : ¬ grOk h xs) : Meets Try.prog 11 [i64 h, i64 from', kv tgt, .slice a1 xs.length c1] F (Det (.tuple #[.slice none 0 0, rv zR, rv zR, i64 110]) F) := by
  refine Meets.intro b11 k11 (by simp) ?_
  have hB : ∀ {F : List Assn} [HS F (.slice a1 xs.length c1) SL.Ref refC 5 c1 xs], Meets Try.prog 29 [i64 h, .slice a1 xs.length c1] F _ := fun {F} _ => gBuild_no h (F := F) hg
  focus
   refine zs <| JT.box1 rfl rfl fun b5 => yB rfl fun b6 => zc rfl <| yN fun b9 => yN fun b10 => zc rfl <| yD rfl rfl (.of .rf) hB <| zc rfl <| zc rfl <| zc rfl <| zc rfl ?_
   refine zy (.cneT rfl rfl (by decide)) <| zd <| zq <| zt rfl <| zs <| zg rfl <| zg rfl <| zc rfl <| yW rfl rfl rfl rfl rfl <| yW rfl rfl rfl rfl rfl <| zc rfl <| zd ?_
   refine zr <| yR (.t rfl (.w rfl rfl (.w rfl rfl (.t rfl .nil)))) rfl (.of (.d (.d (.d (.d .rf)))))
theorem gWay_non (h from' : Int) (tgt : SL.Key) {a1 : Option Addr} {c1 : Nat} {xs : List SL.Ref} {F : List Assn} [Hs : HS F (.slice a1 xs.length c1) SL.Ref refC 5 c1 xs] (hg : grOk h xs) (hb : ∀ r ∈ xs, 0 ≤ r.vec.bits) (ha : gat h xs from' = none) :
    Meets Try.prog 11 [i64 h, i64 from', kv tgt, .slice a1 xs.length c1] F (Det (.tuple #[.slice none 0 0, rv zR, rv zR, i64 111]) F) := by
  refine Meets.intro b11 k11 (by simp) ?_
  have hB : ∀ {F : List Assn} [HS F (.slice a1 xs.length c1) SL.Ref refC 5 c1 xs], Meets Try.prog 29 [i64 h, .slice a1 xs.length c1] F _ := fun {F} _ => gBuild_ok h (F := F) hg hb
  have hm := fun w => gby_mem hg hb w
  have hx := gat_none ha
  generalize gby (gsort xs) (h.toNat + 1) = m at *
  have hL := fun b F => gListV_fn b h m xs F hm hg.len zV
  generalize grow h xs zV = L at *
  focus
   refine zs <| JT.box1 rfl rfl fun b5 => yB rfl fun b6 => zc rfl <| yN fun b9 => yN fun b10 => zc rfl <| yE rfl rfl (.of .rf) hB fun x22 _ => zc rfl <| zc rfl <| zc rfl <| zc rfl ?_
   refine zy (.cneF rfl rfl (by decide)) <| zd <| zq <| zu rfl <| zk <| zs <| yD rfl rfl (.of .rf) (gAll_fn _) <| yE rfl rfl (.of (.t0 .rf)) (hL _ _) fun ⟨a32, c32⟩ _ => zy (.mkf rfl) ?_
  dsimp only
  refine JT.callD rfl rfl (Up.refl _) (slIdxR_fn (cb := [ptr b5]) (p := fun r => decide (r.id = from')) (fun x => gWay1_fn from' x _)) ?_
  rw [hx]
  focus
   refine zy (.cltT rfl rfl (by decide)) <| zd <| zq <| zt rfl <| zs <| zg rfl <| zg rfl <| zc rfl <| yW rfl rfl rfl rfl rfl <| yW rfl rfl rfl rfl rfl <| zc rfl <| zd ?_
   refine zr <| yR (.t rfl (.w rfl rfl (.w rfl rfl (.t rfl .nil)))) rfl (.of (.d (.d (.d (.d (.d (.d .rf)))))))
theorem gWay_key (h from' : Int) (tgt : SL.Key) {a1 : Option Addr} {c1 : Nat} {xs : List SL.Ref} {F : List Assn} [Hs : HS F (.slice a1 xs.length c1) SL.Ref refC 5 c1 xs] (hg : grOk h xs) (hb : ∀ r ∈ xs, 0 ≤ r.vec.bits) {r : SL.Ref} (ha : gat h xs from' = some r) (hk : ¬ keyOk tgt) :
    Meets Try.prog 11 [i64 h, i64 from', kv tgt, .slice a1 xs.length c1] F (Det (.tuple #[.slice none 0 0, rv zR, rv zR, i64 1]) F) := by
  refine Meets.intro b11 k11 (by simp) ?_
  have hB : ∀ {F : List Assn} [HS F (.slice a1 xs.length c1) SL.Ref refC 5 c1 xs], Meets Try.prog 29 [i64 h, .slice a1 xs.length c1] F _ := fun {F} _ => gBuild_ok h (F := F) hg hb
  have hm := fun w => gby_mem hg hb w
  obtain ⟨_, i, hi, hni, hx⟩ := gat_some ha
  generalize gby (gsort xs) (h.toNat + 1) = m at *
  have hL := fun b F => gListV_fn b h m xs F hm hg.len zV
  generalize grow h xs zV = L at *
  focus
   refine zs <| JT.box1 rfl rfl fun b5 => yB rfl fun b6 => zc rfl <| yN fun b9 => yN fun b10 => zc rfl <| yE rfl rfl (.of .rf) hB fun x22 _ => zc rfl <| zc rfl <| zc rfl <| zc rfl ?_
   refine zy (.cneF rfl rfl (by decide)) <| zd <| zq <| zu rfl <| zk <| zs <| yD rfl rfl (.of .rf) (gAll_fn _) <| yE rfl rfl (.of (.t0 .rf)) (hL _ _) fun ⟨a32, c32⟩ _ => zy (.mkf rfl) ?_
  dsimp only
  refine JT.callD rfl rfl (Up.refl _) (slIdxR_fn (cb := [ptr b5]) (p := fun r => decide (r.id = from')) (fun x => gWay1_fn from' x _)) ?_
  rw [hx]
  focus
   refine zy (.cltF rfl rfl (by omega)) <| zd <| zq <| zu rfl <| zk <| zs <| zw rfl rfl <| yD rfl rfl (.of .rf) (kCheck_fn _ _) <| zj rfl rfl rfl <| zd <| zq <| zi rfl (fun h1 => ?_) (fun h1 => ?_)
   refine zs <| zg rfl <| zg rfl <| zc rfl <| yW rfl rfl rfl rfl rfl <| yW rfl rfl rfl rfl rfl <| zc rfl <| zd <| zr <| yR (.t rfl (.w rfl rfl (.w rfl rfl (.t rfl .nil)))) rfl (.of (.d (.d (.d (.d (.d (.d .rf)))))))
   contradiction
theorem gWay_ok (h from' : Int) (tgt : SL.Key) {a1 : Option Addr} {c1 : Nat} {xs : List SL.Ref} {F : List Assn} [Hs : HS F (.slice a1 xs.length c1) SL.Ref refC 5 c1 xs] (hg : grOk h xs) (hb : ∀ r ∈ xs, 0 ≤ r.vec.bits) {r : SL.Ref} (ha : gat h xs from' = some r) (hk : keyOk tgt) :
    Meets Try.prog 11 [i64 h, i64 from', kv tgt, .slice a1 xs.length c1] F
      (Some' (fun _ : Option Addr × Nat => True) (fun x => .tuple #[.slice x.1 (gwayE h xs from' tgt).1.length x.2, rv (gwayE h xs from' tgt).2.1, rv (gwayE h xs from' tgt).2.2.1, i64 0]) (fun x => SlT true hopC 6 (.slice x.1 (gwayE h xs from' tgt).1.length x.2) x.2 (gwayE h xs from' tgt).1 :: F)) := by
  refine Meets.intro b11 k11 (by simp) ?_
  unfold gwayE
  rw [if_pos hg, ha]
  simp only [if_pos hk]
  have hB : ∀ {F : List Assn} [HS F (.slice a1 xs.length c1) SL.Ref refC 5 c1 xs], Meets Try.prog 29 [i64 h, .slice a1 xs.length c1] F _ := fun {F} _ => gBuild_ok h (F := F) hg hb
  have hm := fun w => gby_mem hg hb w
  obtain ⟨_, i, hi, hni, hx⟩ := gat_some ha
  have hr : gOn h xs r := gOn.of hg hb (w := zV) (by rw [← hni, nth_eq hi]; exact List.getElem_mem hi)
  generalize gby (gsort xs) (h.toNat + 1) = m at *
  have hL := fun b F => gListV_fn b h m xs F hm hg.len zV
  have hbe := fun b id F => gBes_fn b h m zV id F (by rw [hm]; exact Nat.le_trans (gmem_len _ _) hg.len)
  simp only [hm] at hbe
  change ∀ b id F, Meets Try.prog 39 [ptr b, vv zV, i64 id] (GP b h m :: F) (Det (.tuple #[rv (gbes (grow h xs zV) id).1, rv (gbes (grow h xs zV) id).2.1, .bool (gbes (grow h xs zV) id).2.2]) (GP b h m :: F)) at hbe
  generalize hLL : grow h xs zV = L at *
  focus
   refine zs <| JT.box1 rfl rfl fun b5 => yB rfl fun b6 => zc rfl <| yN fun b9 => yN fun b10 => zc rfl <| yE rfl rfl (.of .rf) hB fun x22 _ => zc rfl <| zc rfl <| zc rfl <| zc rfl ?_
   refine zy (.cneF rfl rfl (by decide)) <| zd <| zq <| zu rfl <| zk <| zs <| yD rfl rfl (.of .rf) (gAll_fn _) <| yE rfl rfl (.of (.t0 .rf)) (hL _ _) fun ⟨a32, c32⟩ _ => zy (.mkf rfl) ?_
  dsimp only
  refine JT.callD rfl rfl (Up.refl _) (slIdxR_fn (cb := [ptr b5]) (p := fun r => decide (r.id = from')) (fun x => gWay1_fn from' x _)) ?_
  rw [hx]
  focus
   refine zy (.cltF rfl rfl (by omega)) <| zd <| zq <| zu rfl <| zk <| zs <| zw rfl rfl <| yD rfl rfl (.of .rf) (kCheck_fn _ _) <| zj rfl rfl rfl <| zd <| zq <| zi rfl (fun h1 => ?_) (fun h1 => ?_)
   contradiction
   refine zk <| zs <| zg rfl <| yB rfl fun b15 => yD rfl rfl (.of .rf) (gAll_fn _) <| yE rfl rfl (.of (.t2 .rf)) (hL _ _) fun ⟨a51, c51⟩ _ => zy (.iC rfl rfl (by omega)) <| zy (.LE rfl (by omega)) ?_
  refine JT.up (Up.nilS (enc := hopC) (sz := 6) true (by decide) (Up.refl _)) ?_
  refine JT.imp (WkP.fold (b := b15) (g := x22) (on := zR) (lv := h) (hops := []) (a := none) (c := 0) (by (repeat (first | exact Has.here | assumption | apply Has.there))) (by (repeat (first | exact Has.here | assumption | apply Has.there))) (Imp.refl _)) ?_
  rw [hni]
  have hst := fun F => gStep_fn b15 x22 zR h [] r F (by simp)
  by_cases hlow : tgt.rank = 1
  · simp only [if_pos hlow]
    focus
     refine yD rfl rfl (.of (.t0 .rf)) (hst _) <| zfl rfl rfl rfl <| zy (.ceqT rfl rfl (by omega)) <| zd <| zq <| zt rfl <| zs <| zf 7 rfl rfl ?_
    refine JT.openWk (by (repeat (first | exact Has.here | assumption | apply Has.there))) (fun ha hc => ?_)
    unfold wkC
    focus
     refine zl rfl rfl <| zg rfl <| zf 1 rfl rfl ?_
    refine JT.openGP (by (repeat (first | exact Has.here | assumption | apply Has.there))) (fun mb => ?_)
    unfold grC
    focus
     refine zy (.Lp (us := [_, _, _, _, _]) rfl (Nat.le_of_ble_eq_true rfl) rfl) <| zc rfl <| yW rfl rfl rfl rfl rfl <| JT.yA rfl (Ev.Lp (us := [_, _, _, _, _]) rfl (Nat.le_of_ble_eq_true rfl) rfl) <| yW rfl rfl rfl rfl rfl <| zc rfl <| zd <| zr <| yQ ⟨_, _⟩ (.t rfl (.w rfl rfl (.w rfl rfl (.t rfl .nil)))) trivial rfl (.of (.t5 (.d (.d (.d (.d (.d (.d (.d (.d (.d .rf)))))))))))
  · simp only [if_neg hlow]
    have hF : gfuel h xs (decide (¬ keyLt r.key tgt)) h r < gF0 := by
      have := gfar_le (h := h) (xs := xs) hg (decide (¬ keyLt r.key tgt)) r
      have := hg.h32
      unfold gfuel gF0; omega
    unfold gway at *
    by_cases hlt : keyLt r.key tgt
    · have hR := fun F => gRight_fn b15 x22 h xs m tgt r [⟨h, r⟩] F hm hg hb hk hlow gF0 ⟨hr, hg.h0, Int.le_refl _, by simp [hlt]⟩ (by simpa [hlt] using hF) (by unfold gF0; simp)
      rw [show decide (¬ keyLt r.key tgt) = false by simp [hlt]]
      generalize gwalk h xs false tgt gF0 h r [⟨h, r⟩] = W at *
      obtain ⟨on, hops⟩ := W
      dsimp only at hR ⊢
      focus
       refine yD rfl rfl (.of (.t0 .rf)) (hst _) <| zfl rfl rfl rfl <| zy (.ceqF rfl rfl (by omega)) <| zd <| zq <| zu rfl <| zk <| zs <| zf 1 rfl rfl <| zf 2 rfl rfl ?_
      refine JT.openWk (by (repeat (first | exact Has.here | assumption | apply Has.there))) (fun ha hc => ?_)
      focus
       refine zy (.Lp (us := [_, _]) rfl (Nat.le_of_ble_eq_true rfl) rfl) <| zw rfl rfl <| yD rfl rfl (.of .rf) (kLess_fn _ _ _) <| zd <| zq <| zi rfl (fun h2 => ?_) (fun h2 => ?_)
       refine zo <| zw rfl rfl <| yD rfl rfl (.of (WkP.fold .here .here (.t1 .rf))) (hR _) <| zd <| zs <| zf 1 rfl rfl <| zf 1 rfl rfl ?_
       rotate_left
       contradiction
      refine JT.openWk (by (repeat (first | exact Has.here | assumption | apply Has.there))) (fun ha2 hc2 => ?_)
      focus
       refine zl rfl rfl <| JT.both ?_ ?_
       refine yD rfl rfl (.of .rf) (gAll_fn _) <| JT.yA rfl (Ev.L rfl rfl) <| JT.both ?_ ?_
       refine yD rfl rfl (.of (.t2 .rf)) (hbe _ _ _) <| zc rfl <| zc rfl <| zc rfl <| JT.both ?_ ?_
       refine yN fun b16 => yN fun b17 => yW rfl rfl rfl rfl rfl <| yW rfl rfl rfl rfl rfl <| zd <| zs <| zfl rfl rfl rfl <| zfw [_, _, _, _, _] rfl rfl rfl rfl <| zw rfl rfl <| zc rfl <| yW rfl rfl rfl rfl rfl <| JT.yA rfl (Ev.Lw rfl rfl) ?_
       refine yW rfl rfl rfl rfl rfl <| zc rfl <| zd <| zr <| yQ ⟨_, _⟩ (.t rfl (.w rfl rfl (.w rfl rfl (.t rfl .nil)))) trivial rfl (.of (.t6 (.d (.d (.d (.d (.d (.d (.d (.d (.d (.d .rf))))))))))))
       refine yN fun b17 => yN fun b16 => yW rfl rfl rfl rfl rfl <| yW rfl rfl rfl rfl rfl <| zd <| zs <| zfl rfl rfl rfl <| zfw [_, _, _, _, _] rfl rfl rfl rfl <| zw rfl rfl <| zc rfl <| yW rfl rfl rfl rfl rfl <| JT.yA rfl (Ev.Lw rfl rfl) ?_
       refine yW rfl rfl rfl rfl rfl <| zc rfl <| zd <| zr <| yQ ⟨_, _⟩ (.t rfl (.w rfl rfl (.w rfl rfl (.t rfl .nil)))) trivial rfl (.of (.t6 (.d (.d (.d (.d (.d (.d (.d (.d (.d (.d .rf))))))))))))
       refine JT.both ?_ ?_
       refine yN fun b16 => JT.both ?_ ?_
       refine yD rfl rfl (.of (.t3 .rf)) (hbe _ _ _) <| zc rfl <| zc rfl <| zc rfl <| yN fun b17 => yW rfl rfl rfl rfl rfl <| yW rfl rfl rfl rfl rfl <| zd <| zs <| zfl rfl rfl rfl <| zfw [_, _, _, _, _] rfl rfl rfl rfl <| zw rfl rfl ?_
       refine zc rfl <| yW rfl rfl rfl rfl rfl <| JT.yA rfl (Ev.Lw rfl rfl) <| yW rfl rfl rfl rfl rfl <| zc rfl <| zd <| zr <| yQ ⟨_, _⟩ (.t rfl (.w rfl rfl (.w rfl rfl (.t rfl .nil)))) trivial rfl (.of (.t6 (.d (.d (.d (.d (.d (.d (.d (.d (.d (.d .rf))))))))))))
       refine yN fun b17 => yD rfl rfl (.of (.t4 .rf)) (hbe _ _ _) <| zc rfl <| zc rfl <| zc rfl <| yW rfl rfl rfl rfl rfl <| yW rfl rfl rfl rfl rfl <| zd <| zs <| zfl rfl rfl rfl <| zfw [_, _, _, _, _] rfl rfl rfl rfl <| zw rfl rfl ?_
       refine zc rfl <| yW rfl rfl rfl rfl rfl <| JT.yA rfl (Ev.Lw rfl rfl) <| yW rfl rfl rfl rfl rfl <| zc rfl <| zd <| zr <| yQ ⟨_, _⟩ (.t rfl (.w rfl rfl (.w rfl rfl (.t rfl .nil)))) trivial rfl (.of (.t6 (.d (.d (.d (.d (.d (.d (.d (.d (.d (.d .rf))))))))))))
       refine yN fun b17 => JT.both ?_ ?_
       refine yD rfl rfl (.of (.t3 .rf)) (hbe _ _ _) <| zc rfl <| zc rfl <| zc rfl <| yN fun b16 => yW rfl rfl rfl rfl rfl <| yW rfl rfl rfl rfl rfl <| zd <| zs <| zfl rfl rfl rfl <| zfw [_, _, _, _, _] rfl rfl rfl rfl <| zw rfl rfl ?_
       refine zc rfl <| yW rfl rfl rfl rfl rfl <| JT.yA rfl (Ev.Lw rfl rfl) <| yW rfl rfl rfl rfl rfl <| zc rfl <| zd <| zr <| yQ ⟨_, _⟩ (.t rfl (.w rfl rfl (.w rfl rfl (.t rfl .nil)))) trivial rfl (.of (.t6 (.d (.d (.d (.d (.d (.d (.d (.d (.d (.d .rf))))))))))))
       refine yN fun b16 => yD rfl rfl (.of (.t4 .rf)) (hbe _ _ _) <| zc rfl <| zc rfl <| zc rfl <| yW rfl rfl rfl rfl rfl <| yW rfl rfl rfl rfl rfl <| zd <| zs <| zfl rfl rfl rfl <| zfw [_, _, _, _, _] rfl rfl rfl rfl <| zw rfl rfl ?_
       refine zc rfl <| yW rfl rfl rfl rfl rfl <| JT.yA rfl (Ev.Lw rfl rfl) <| yW rfl rfl rfl rfl rfl <| zc rfl <| zd <| zr <| yQ ⟨_, _⟩ (.t rfl (.w rfl rfl (.w rfl rfl (.t rfl .nil)))) trivial rfl (.of (.t6 (.d (.d (.d (.d (.d (.d (.d (.d (.d (.d .rf))))))))))))
       refine JT.both ?_ ?_
       refine yN fun b16 => JT.both ?_ ?_
       refine yD rfl rfl (.of .rf) (gAll_fn _) <| JT.yA rfl (Ev.L rfl rfl) <| JT.both ?_ ?_
       refine yD rfl rfl (.of (.t3 .rf)) (hbe _ _ _) <| zc rfl <| zc rfl <| zc rfl <| yN fun b17 => yW rfl rfl rfl rfl rfl <| yW rfl rfl rfl rfl rfl <| zd <| zs <| zfl rfl rfl rfl <| zfw [_, _, _, _, _] rfl rfl rfl rfl <| zw rfl rfl ?_
       refine zc rfl <| yW rfl rfl rfl rfl rfl <| JT.yA rfl (Ev.Lw rfl rfl) <| yW rfl rfl rfl rfl rfl <| zc rfl <| zd <| zr <| yQ ⟨_, _⟩ (.t rfl (.w rfl rfl (.w rfl rfl (.t rfl .nil)))) trivial rfl (.of (.t6 (.d (.d (.d (.d (.d (.d (.d (.d (.d (.d .rf))))))))))))
       refine yN fun b17 => yD rfl rfl (.of (.t4 .rf)) (hbe _ _ _) <| zc rfl <| zc rfl <| zc rfl <| yW rfl rfl rfl rfl rfl <| yW rfl rfl rfl rfl rfl <| zd <| zs <| zfl rfl rfl rfl <| zfw [_, _, _, _, _] rfl rfl rfl rfl <| zw rfl rfl ?_
       refine zc rfl <| yW rfl rfl rfl rfl rfl <| JT.yA rfl (Ev.Lw rfl rfl) <| yW rfl rfl rfl rfl rfl <| zc rfl <| zd <| zr <| yQ ⟨_, _⟩ (.t rfl (.w rfl rfl (.w rfl rfl (.t rfl .nil)))) trivial rfl (.of (.t6 (.d (.d (.d (.d (.d (.d (.d (.d (.d (.d .rf))))))))))))
       refine yN fun b17 => yD rfl rfl (.of .rf) (gAll_fn _) <| JT.yA rfl (Ev.L rfl rfl) <| yD rfl rfl (.of (.t4 .rf)) (hbe _ _ _) <| zc rfl <| zc rfl <| zc rfl <| yW rfl rfl rfl rfl rfl <| yW rfl rfl rfl rfl rfl <| zd <| zs <| zfl rfl rfl rfl ?_
       refine zfw [_, _, _, _, _] rfl rfl rfl rfl <| zw rfl rfl <| zc rfl <| yW rfl rfl rfl rfl rfl <| JT.yA rfl (Ev.Lw rfl rfl) <| yW rfl rfl rfl rfl rfl <| zc rfl <| zd <| zr <| yQ ⟨_, _⟩ (.t rfl (.w rfl rfl (.w rfl rfl (.t rfl .nil)))) trivial rfl (.of (.t6 (.d (.d (.d (.d (.d (.d (.d (.d (.d (.d .rf))))))))))))
       refine yN fun b17 => JT.both ?_ ?_
       refine yD rfl rfl (.of .rf) (gAll_fn _) <| JT.yA rfl (Ev.L rfl rfl) <| JT.both ?_ ?_
       refine yD rfl rfl (.of (.t3 .rf)) (hbe _ _ _) <| zc rfl <| zc rfl <| zc rfl <| yN fun b16 => yW rfl rfl rfl rfl rfl <| yW rfl rfl rfl rfl rfl <| zd <| zs <| zfl rfl rfl rfl <| zfw [_, _, _, _, _] rfl rfl rfl rfl <| zw rfl rfl ?_
       refine zc rfl <| yW rfl rfl rfl rfl rfl <| JT.yA rfl (Ev.Lw rfl rfl) <| yW rfl rfl rfl rfl rfl <| zc rfl <| zd <| zr <| yQ ⟨_, _⟩ (.t rfl (.w rfl rfl (.w rfl rfl (.t rfl .nil)))) trivial rfl (.of (.t6 (.d (.d (.d (.d (.d (.d (.d (.d (.d (.d .rf))))))))))))
       refine yN fun b16 => yD rfl rfl (.of (.t4 .rf)) (hbe _ _ _) <| zc rfl <| zc rfl <| zc rfl <| yW rfl rfl rfl rfl rfl <| yW rfl rfl rfl rfl rfl <| zd <| zs <| zfl rfl rfl rfl <| zfw [_, _, _, _, _] rfl rfl rfl rfl <| zw rfl rfl ?_
       refine zc rfl <| yW rfl rfl rfl rfl rfl <| JT.yA rfl (Ev.Lw rfl rfl) <| yW rfl rfl rfl rfl rfl <| zc rfl <| zd <| zr <| yQ ⟨_, _⟩ (.t rfl (.w rfl rfl (.w rfl rfl (.t rfl .nil)))) trivial rfl (.of (.t6 (.d (.d (.d (.d (.d (.d (.d (.d (.d (.d .rf))))))))))))
       refine yN fun b16 => yD rfl rfl (.of .rf) (gAll_fn _) <| JT.yA rfl (Ev.L rfl rfl) <| yD rfl rfl (.of (.t4 .rf)) (hbe _ _ _) <| zc rfl <| zc rfl <| zc rfl <| yW rfl rfl rfl rfl rfl <| yW rfl rfl rfl rfl rfl <| zd <| zs <| zfl rfl rfl rfl ?_
       refine zfw [_, _, _, _, _] rfl rfl rfl rfl <| zw rfl rfl <| zc rfl <| yW rfl rfl rfl rfl rfl <| JT.yA rfl (Ev.Lw rfl rfl) <| yW rfl rfl rfl rfl rfl <| zc rfl <| zd <| zr <| yQ ⟨_, _⟩ (.t rfl (.w rfl rfl (.w rfl rfl (.t rfl .nil)))) trivial rfl (.of (.t6 (.d (.d (.d (.d (.d (.d (.d (.d (.d (.d .rf))))))))))))
    · have hR := fun F => gLeft_fn b15 x22 h xs m tgt r [⟨h, r⟩] F hm hg hb hk hlow gF0 ⟨hr, hg.h0, Int.le_refl _, by simp [hlt]⟩ (by simpa [hlt] using hF) (by unfold gF0; simp)
      rw [show decide (¬ keyLt r.key tgt) = true by simp [hlt]]
      generalize gwalk h xs true tgt gF0 h r [⟨h, r⟩] = W at *
      obtain ⟨on, hops⟩ := W
      dsimp only at hR ⊢
      focus
       refine yD rfl rfl (.of (.t0 .rf)) (hst _) <| zfl rfl rfl rfl <| zy (.ceqF rfl rfl (by omega)) <| zd <| zq <| zu rfl <| zk <| zs <| zf 1 rfl rfl <| zf 2 rfl rfl ?_
      refine JT.openWk (by (repeat (first | exact Has.here | assumption | apply Has.there))) (fun ha hc => ?_)
      focus
       refine zy (.Lp (us := [_, _]) rfl (Nat.le_of_ble_eq_true rfl) rfl) <| zw rfl rfl <| yD rfl rfl (.of .rf) (kLess_fn _ _ _) <| zd <| zq <| zi rfl (fun h2 => ?_) (fun h2 => ?_)
       contradiction
       refine zo <| zw rfl rfl <| yD rfl rfl (.of (WkP.fold .here .here (.t1 .rf))) (hR _) <| zd <| zs <| zf 1 rfl rfl <| zf 1 rfl rfl ?_
      refine JT.openWk (by (repeat (first | exact Has.here | assumption | apply Has.there))) (fun ha2 hc2 => ?_)
      focus
       refine zl rfl rfl <| JT.both ?_ ?_
       refine yD rfl rfl (.of .rf) (gAll_fn _) <| JT.yA rfl (Ev.L rfl rfl) <| JT.both ?_ ?_
       refine yD rfl rfl (.of (.t2 .rf)) (hbe _ _ _) <| zc rfl <| zc rfl <| zc rfl <| JT.both ?_ ?_
       refine yN fun b16 => yN fun b17 => yW rfl rfl rfl rfl rfl <| yW rfl rfl rfl rfl rfl <| zd <| zs <| zfl rfl rfl rfl <| zfw [_, _, _, _, _] rfl rfl rfl rfl <| zw rfl rfl <| zc rfl <| yW rfl rfl rfl rfl rfl <| JT.yA rfl (Ev.Lw rfl rfl) ?_
       refine yW rfl rfl rfl rfl rfl <| zc rfl <| zd <| zr <| yQ ⟨_, _⟩ (.t rfl (.w rfl rfl (.w rfl rfl (.t rfl .nil)))) trivial rfl (.of (.t6 (.d (.d (.d (.d (.d (.d (.d (.d (.d (.d .rf))))))))))))
       refine yN fun b17 => yN fun b16 => yW rfl rfl rfl rfl rfl <| yW rfl rfl rfl rfl rfl <| zd <| zs <| zfl rfl rfl rfl <| zfw [_, _, _, _, _] rfl rfl rfl rfl <| zw rfl rfl <| zc rfl <| yW rfl rfl rfl rfl rfl <| JT.yA rfl (Ev.Lw rfl rfl) ?_
       refine yW rfl rfl rfl rfl rfl <| zc rfl <| zd <| zr <| yQ ⟨_, _⟩ (.t rfl (.w rfl rfl (.w rfl rfl (.t rfl .nil)))) trivial rfl (.of (.t6 (.d (.d (.d (.d (.d (.d (.d (.d (.d (.d .rf))))))))))))
       refine JT.both ?_ ?_
       refine yN fun b16 => JT.both ?_ ?_
       refine yD rfl rfl (.of (.t3 .rf)) (hbe _ _ _) <| zc rfl <| zc rfl <| zc rfl <| yN fun b17 => yW rfl rfl rfl rfl rfl <| yW rfl rfl rfl rfl rfl <| zd <| zs <| zfl rfl rfl rfl <| zfw [_, _, _, _, _] rfl rfl rfl rfl <| zw rfl rfl ?_
       refine zc rfl <| yW rfl rfl rfl rfl rfl <| JT.yA rfl (Ev.Lw rfl rfl) <| yW rfl rfl rfl rfl rfl <| zc rfl <| zd <| zr <| yQ ⟨_, _⟩ (.t rfl (.w rfl rfl (.w rfl rfl (.t rfl .nil)))) trivial rfl (.of (.t6 (.d (.d (.d (.d (.d (.d (.d (.d (.d (.d .rf))))))))))))
       refine yN fun b17 => yD rfl rfl (.of (.t4 .rf)) (hbe _ _ _) <| zc rfl <| zc rfl <| zc rfl <| yW rfl rfl rfl rfl rfl <| yW rfl rfl rfl rfl rfl <| zd <| zs <| zfl rfl rfl rfl <| zfw [_, _, _, _, _] rfl rfl rfl rfl <| zw rfl rfl ?_
       refine zc rfl <| yW rfl rfl rfl rfl rfl <| JT.yA rfl (Ev.Lw rfl rfl) <| yW rfl rfl rfl rfl rfl <| zc rfl <| zd <| zr <| yQ ⟨_, _⟩ (.t rfl (.w rfl rfl (.w rfl rfl (.t rfl .nil)))) trivial rfl (.of (.t6 (.d (.d (.d (.d (.d (.d (.d (.d (.d (.d .rf))))))))))))
       refine yN fun b17 => JT.both ?_ ?_
       refine yD rfl rfl (.of (.t3 .rf)) (hbe _ _ _) <| zc rfl <| zc rfl <| zc rfl <| yN fun b16 => yW rfl rfl rfl rfl rfl <| yW rfl rfl rfl rfl rfl <| zd <| zs <| zfl rfl rfl rfl <| zfw [_, _, _, _, _] rfl rfl rfl rfl <| zw rfl rfl ?_
       refine zc rfl <| yW rfl rfl rfl rfl rfl <| JT.yA rfl (Ev.Lw rfl rfl) <| yW rfl rfl rfl rfl rfl <| zc rfl <| zd <| zr <| yQ ⟨_, _⟩ (.t rfl (.w rfl rfl (.w rfl rfl (.t rfl .nil)))) trivial rfl (.of (.t6 (.d (.d (.d (.d (.d (.d (.d (.d (.d (.d .rf))))))))))))
       refine yN fun b16 => yD rfl rfl (.of (.t4 .rf)) (hbe _ _ _) <| zc rfl <| zc rfl <| zc rfl <| yW rfl rfl rfl rfl rfl <| yW rfl rfl rfl rfl rfl <| zd <| zs <| zfl rfl rfl rfl <| zfw [_, _, _, _, _] rfl rfl rfl rfl <| zw rfl rfl ?_
       refine zc rfl <| yW rfl rfl rfl rfl rfl <| JT.yA rfl (Ev.Lw rfl rfl) <| yW rfl rfl rfl rfl rfl <| zc rfl <| zd <| zr <| yQ ⟨_, _⟩ (.t rfl (.w rfl rfl (.w rfl rfl (.t rfl .nil)))) trivial rfl (.of (.t6 (.d (.d (.d (.d (.d (.d (.d (.d (.d (.d .rf))))))))))))
       refine JT.both ?_ ?_
       refine yN fun b16 => JT.both ?_ ?_
       refine yD rfl rfl (.of .rf) (gAll_fn _) <| JT.yA rfl (Ev.L rfl rfl) <| JT.both ?_ ?_
       refine yD rfl rfl (.of (.t3 .rf)) (hbe _ _ _) <| zc rfl <| zc rfl <| zc rfl <| yN fun b17 => yW rfl rfl rfl rfl rfl <| yW rfl rfl rfl rfl rfl <| zd <| zs <| zfl rfl rfl rfl <| zfw [_, _, _, _, _] rfl rfl rfl rfl <| zw rfl rfl ?_
       refine zc rfl <| yW rfl rfl rfl rfl rfl <| JT.yA rfl (Ev.Lw rfl rfl) <| yW rfl rfl rfl rfl rfl <| zc rfl <| zd <| zr <| yQ ⟨_, _⟩ (.t rfl (.w rfl rfl (.w rfl rfl (.t rfl .nil)))) trivial rfl (.of (.t6 (.d (.d (.d (.d (.d (.d (.d (.d (.d (.d .rf))))))))))))
       refine yN fun b17 => yD rfl rfl (.of (.t4 .rf)) (hbe _ _ _) <| zc rfl <| zc rfl <| zc rfl <| yW rfl rfl rfl rfl rfl <| yW rfl rfl rfl rfl rfl <| zd <| zs <| zfl rfl rfl rfl <| zfw [_, _, _, _, _] rfl rfl rfl rfl <| zw rfl rfl ?_
       refine zc rfl <| yW rfl rfl rfl rfl rfl <| JT.yA rfl (Ev.Lw rfl rfl) <| yW rfl rfl rfl rfl rfl <| zc rfl <| zd <| zr <| yQ ⟨_, _⟩ (.t rfl (.w rfl rfl (.w rfl rfl (.t rfl .nil)))) trivial rfl (.of (.t6 (.d (.d (.d (.d (.d (.d (.d (.d (.d (.d .rf))))))))))))
       refine yN fun b17 => yD rfl rfl (.of .rf) (gAll_fn _) <| JT.yA rfl (Ev.L rfl rfl) <| yD rfl rfl (.of (.t4 .rf)) (hbe _ _ _) <| zc rfl <| zc rfl <| zc rfl <| yW rfl rfl rfl rfl rfl <| yW rfl rfl rfl rfl rfl <| zd <| zs <| zfl rfl rfl rfl ?_
       refine zfw [_, _, _, _, _] rfl rfl rfl rfl <| zw rfl rfl <| zc rfl <| yW rfl rfl rfl rfl rfl <| JT.yA rfl (Ev.Lw rfl rfl) <| yW rfl rfl rfl rfl rfl <| zc rfl <| zd <| zr <| yQ ⟨_, _⟩ (.t rfl (.w rfl rfl (.w rfl rfl (.t rfl .nil)))) trivial rfl (.of (.t6 (.d (.d (.d (.d (.d (.d (.d (.d (.d (.d .rf))))))))))))
       refine yN fun b17 => JT.both ?_ ?_
       refine yD rfl rfl (.of .rf) (gAll_fn _) <| JT.yA rfl (Ev.L rfl rfl) <| JT.both ?_ ?_
       refine yD rfl rfl (.of (.t3 .rf)) (hbe _ _ _) <| zc rfl <| zc rfl <| zc rfl <| yN fun b16 => yW rfl rfl rfl rfl rfl <| yW rfl rfl rfl rfl rfl <| zd <| zs <| zfl rfl rfl rfl <| zfw [_, _, _, _, _] rfl rfl rfl rfl <| zw rfl rfl ?_
       refine zc rfl <| yW rfl rfl rfl rfl rfl <| JT.yA rfl (Ev.Lw rfl rfl) <| yW rfl rfl rfl rfl rfl <| zc rfl <| zd <| zr <| yQ ⟨_, _⟩ (.t rfl (.w rfl rfl (.w rfl rfl (.t rfl .nil)))) trivial rfl (.of (.t6 (.d (.d (.d (.d (.d (.d (.d (.d (.d (.d .rf))))))))))))
       refine yN fun b16 => yD rfl rfl (.of (.t4 .rf)) (hbe _ _ _) <| zc rfl <| zc rfl <| zc rfl <| yW rfl rfl rfl rfl rfl <| yW rfl rfl rfl rfl rfl <| zd <| zs <| zfl rfl rfl rfl <| zfw [_, _, _, _, _] rfl rfl rfl rfl <| zw rfl rfl ?_
       refine zc rfl <| yW rfl rfl rfl rfl rfl <| JT.yA rfl (Ev.Lw rfl rfl) <| yW rfl rfl rfl rfl rfl <| zc rfl <| zd <| zr <| yQ ⟨_, _⟩ (.t rfl (.w rfl rfl (.w rfl rfl (.t rfl .nil)))) trivial rfl (.of (.t6 (.d (.d (.d (.d (.d (.d (.d (.d (.d (.d .rf))))))))))))
       refine yN fun b16 => yD rfl rfl (.of .rf) (gAll_fn _) <| JT.yA rfl (Ev.L rfl rfl) <| yD rfl rfl (.of (.t4 .rf)) (hbe _ _ _) <| zc rfl <| zc rfl <| zc rfl <| yW rfl rfl rfl rfl rfl <| yW rfl rfl rfl rfl rfl <| zd <| zs <| zfl rfl rfl rfl ?_
       refine zfw [_, _, _, _, _] rfl rfl rfl rfl <| zw rfl rfl <| zc rfl <| yW rfl rfl rfl rfl rfl <| JT.yA rfl (Ev.Lw rfl rfl) <| yW rfl rfl rfl rfl rfl <| zc rfl <| zd <| zr <| yQ ⟨_, _⟩ (.t rfl (.w rfl rfl (.w rfl rfl (.t rfl .nil)))) trivial rfl (.of (.t6 (.d (.d (.d (.d (.d (.d (.d (.d (.d (.d .rf))))))))))))
end Go.Proofs.Ytgcmglieciaifaa
