/- Layer 11: lists of a graph, and who stands beside whom: the functions. Conditions: none. -/
import Derived.Test.YtgcmglieciaifaaGd
set_option linter.unusedSimpArgs false
set_option linter.unusedVariables false
set_option maxRecDepth 100000
set_option maxHeartbeats 4000000
namespace Go.SL
open Go
theorem JT.callvD {P : Program} {ρ : Env} {cs : List Assn} {t : Tr} {K : Env → List Assn → Prop} {d : Nat} {f : Operand} {args : List Operand} {fid : Nat} {vs cap : List Value} {cs0 cs1 : List Assn} {v0 : Value} (hf : ρ.ev f = some (.func (.func fid) #[] cap.toArray)) (ha : ρ.evs args = some vs)
    (hi : Up cs cs0) (hfn : Meets P fid (vs ++ cap) cs0 (Det v0 cs1)) (h : JT P t ((d, v0) :: ρ) cs1 K) : JT P (.st ⟨some d, .call f args, none⟩ t) ρ cs K :=
  JT.callv hf ha hfn hi fun v cs' ⟨e1, e2⟩ => by subst e1 e2; exact h
theorem SlT.ty {α : Type} {m : Bool} {enc : α → List Value} {sz c : Nat} {sv : Value} {ls : List (List Value)} (xs : List α) (e : xs.map enc = ls) {r : List Assn} : Imp (SlT m (fun e => e) sz sv c ls :: r) (SlT m enc sz sv c xs :: r) := by
  subst e
  have : SlT m enc sz sv c xs = SlT m (fun e => e) sz sv c (xs.map enc) := by
    have h : (xs.map enc).map (fun e => e) = xs.map enc := List.map_id'' (fun _ => rfl) _
    unfold SlT; simp only [h]
  rw [this]; exact Imp.refl _
/-- A list's members out of all, to be read, and put back. -/
theorem RowsA.read (rs : List (Vec × RowE)) (w : Vec) : ∃ Rest : Assn, (∀ r, Up (RowsA rs :: r) (rowO (w, (alk rs w).getD rz) :: Rest :: r)) ∧ ∀ r, Imp (rowO (w, (alk rs w).getD rz) :: Rest :: r) (RowsA rs :: r) := by
  cases h : aix rs w with
  | none =>
    refine ⟨RowsA rs, fun r => ?_, fun r => ?_⟩
    · rw [alk_aix, h]; exact Up.nilS true (by decide) (Up.refl _)
    · exact Imp.drop
  | some i =>
    obtain ⟨hlt, hk⟩ := aix_some h
    have hi : rs[i]? = some (w, (rs[i]).2) := by rw [List.getElem?_eq_getElem hlt, ← hk]
    have e : (alk rs w).getD rz = (rs[i]).2 := by rw [alk_aix, h]; simp [List.getElem?_eq_getElem hlt]
    rw [e]
    refine ⟨RowsA (rs.eraseIdx i), fun r => Up.of (RowsA.take hi), fun r => ?_⟩
    have := RowsA.put (rs := rs) (r := r) (w, (rs[i]).2) hi
    have hs : rs.set i (w, (rs[i]).2) = rs := by
      have : (w, (rs[i]).2) = rs[i] := by rw [← hk]
      rw [this]; exact List.set_getElem_self hlt
    rw [hs] at this; exact this
theorem row_get {rs : List (Vec × RowE)} {m : GB} (e : rer rs = m) (w : Vec) : ((alk rs w).getD rz).l = (alk m w).getD [] := by
  rw [← e, alk_rer]; cases alk rs w <;> rfl
/-- Where the first is, or -1. -/
def gfix (p : Ref → Bool) (l : List Ref) : Int := match l.findIdx? p with
  | some i => (i : Int)
  | none => -1
theorem gfix_at {p : Ref → Bool} {l : List Ref} {k : Nat} (hk : k < l.length) (hn : ∀ j, j < k → p (nth l j) = false) (h : p (nth l k) = true) : gfix p l = k := by
  have : l.findIdx? p = some k := by
    rw [List.findIdx?_eq_some_iff_getElem]
    refine ⟨hk, by rw [← nth_eq hk]; exact h, fun j hj => ?_⟩
    rw [← nth_eq (by omega)]; simp [hn j hj]
  unfold gfix; rw [this]
theorem gfix_no {p : Ref → Bool} {l : List Ref} (hn : ∀ j, j < l.length → p (nth l j) = false) : gfix p l = -1 := by
  have : l.findIdx? p = none := by
    rw [List.findIdx?_eq_none_iff]
    intro x hx
    obtain ⟨i, hi, rfl⟩ := List.mem_iff_getElem.1 hx
    rw [← nth_eq hi]; exact hn i hi
  unfold gfix; rw [this]
end Go.SL
namespace Go.Proofs.Ytgcmglieciaifaa
open Go Go.SL
attribute [local irreducible] pc rc SlT Me Mt It pt ro pur ex sep old Meets
attribute [local irreducible] RowsA BysP GP
theorem gMay_fn (b : Nat) (h : Int) (m : GB) (w : Vec) (F : List Assn) : Meets Try.prog 47 [ptr b, vv w] (GP b h m :: F) (Det (.bool (decide (gmay h w))) (GP b h m :: F)) := by
  refine Meets.intro b47 k47 (by simp) ?_
  refine J.openGP Has.here (fun mb => ?_)
  unfold gmay grC
  by_cases hw : vecOk w
  · have hr : vRE w = 0 := by unfold vRE; rw [if_pos hw]
    focus
     refine zs <| yB rfl fun b3 => zc rfl <| zw rfl rfl <| yD rfl rfl (.of .rf) (vRight_fn _ _) <| zy (.ceqT rfl rfl (by omega)) <| yG rfl <| zf 0 rfl rfl <| yG rfl <| zl rfl rfl <| yG rfl <| zf 0 rfl rfl ?_
     refine yG rfl <| zl rfl rfl <| yG rfl <| zj rfl rfl rfl <| zy (.pickT rfl rfl) <| zd <| zr <| yR (.t rfl .nil) ?_ (.of (GP.fold (.there .here) (.there .here) (.d .rf)))
    simp only [mkRet]; congr 1; rw [Bool.eq_iff_iff]; simp [hw]
  · have hr : vRE w = 10 := by unfold vRE; rw [if_neg hw]
    focus
     refine zs <| yB rfl fun b3 => zc rfl <| zw rfl rfl <| yD rfl rfl (.of .rf) (vRight_fn _ _) <| zy (.ceqF rfl rfl (by omega)) <| zv rfl rfl <| zv rfl rfl <| zv rfl rfl <| zv rfl rfl <| zv rfl rfl <| zy (.pickF rfl rfl) ?_
     refine zd <| zr <| yR (.t rfl .nil) ?_ (.of (GP.fold (.there .here) (.there .here) (.d .rf)))
    simp only [mkRet]; congr 1; simp [hw]
theorem gList_fn (b : Nat) (h : Int) (m : GB) (w : Vec) (F : List Assn) (hl : ((alk m w).getD []).length ≤ 1022) : Meets Try.prog 31 [ptr b, vv w] (GP b h m :: F)
    (Some' (fun _ : Option Addr × Nat => True) (fun x => .slice x.1 (gHead h :: ((alk m w).getD [] ++ [gTail h])).length x.2) (fun x => SlT true refC 5 (.slice x.1 (gHead h :: ((alk m w).getD [] ++ [gTail h])).length x.2) x.2 (gHead h :: ((alk m w).getD [] ++ [gTail h])) :: GP b h m :: F)) := by
  refine Meets.intro b31 k31 (by simp) ?_
  refine J.openGP Has.here (fun mb => ?_)
  refine J.openBys (by (repeat (first | exact Has.here | assumption | apply Has.there))) (fun rs hrs => ?_)
  have hrow := row_get hrs w
  rw [← hrow] at hl ⊢
  obtain ⟨Rest, h1, h2⟩ := RowsA.read rs w
  have hlk : ∀ v, alk rs w = some v → (alk rs w).getD rz = v := fun v e => by rw [e]; rfl
  have hln : alk rs w = none → (alk rs w).getD rz = rz := fun e => by rw [e]; rfl
  generalize (alk rs w).getD rz = row at *
  unfold grC
  focus
   refine zs <| yB rfl fun b3 => zc rfl <| zfw [_, _, _, _, _] rfl rfl rfl rfl <| zfl rfl rfl rfl <| zw rfl rfl <| JT.lk1 rfl (by rfl) (fun v16 h3 => ?_) (fun h3 => ?_)
   refine JT.bsl1 (by repeat (first | exact Cells.nil | apply Cells.z | (apply Cells.cl; rfl; rfl; rfl))) (by simp only [List.length_cons, List.length_nil, Nat.reduceAdd]; rfl) (by decide) (by rfl) fun a10 => ?_
   rotate_left
   refine JT.bsl1 (by repeat (first | exact Cells.nil | apply Cells.z | (apply Cells.cl; rfl; rfl; rfl))) (by simp only [List.length_cons, List.length_nil, Nat.reduceAdd]; rfl) (by decide) (by rfl) fun a10 => ?_
   rotate_left
  · obtain rfl := hlk _ h3
    refine JT.has (c := RowsA rs) (by (repeat (first | exact Has.here | assumption | apply Has.there))) (JT.up (h1 _) ?_)
    refine JT.imp (Imp.trans (Imp.take (c := SlT true (fun e : List Value => e) 5 (.slice a10 1 1) 1 [[i64 0, i64 1, u64 0, i64 h, u64 0]]) (by (repeat (first | exact Has.here | assumption | apply Has.there))) (Imp.refl _)) (SlT.ty (enc := refC) [gHead h] rfl)) ?_
    unfold rowO rowV
    dsimp only
    have hl2 : ([gHead h] ++ row.l).length ≤ 1023 := by simp; omega
    focus
     (refine JT.A3 rfl rfl rfl (by decide) (by simp; omega) (fun a17 c17 hc17 => ?_))
     refine zfw [_, _, _, _, _] rfl rfl rfl rfl <| JT.bsl1 (by repeat (first | exact Cells.nil | apply Cells.z | (apply Cells.cl; rfl; rfl; rfl))) (by simp only [List.length_cons, List.length_nil, Nat.reduceAdd]; rfl) (by decide) (by rfl) fun a23 => ?_
    refine JT.A1 (v := gTail h) rfl rfl rfl rfl (by decide) (by omega) (fun a4 c4 hc4 => ?_)
    refine JT.imp (Imp.take (c := SlT true refC 5 (.slice row.a row.l.length row.c) row.c row.l) (by (repeat (first | exact Has.here | assumption | apply Has.there))) (Imp.take (c := Rest) (by (repeat (first | exact Has.here | assumption | apply Has.there))) (Imp.refl _))) ?_
    refine JT.imp (h2 _) ?_
    focus
     refine zd <| zr ?_
    rw [show [gHead h] ++ row.l ++ [gTail h] = gHead h :: (row.l ++ [gTail h]) from rfl]
    refine retQS (a4, c4) (.t rfl .nil) trivial rfl (Up.of (Imp.take (by (repeat (first | exact Has.here | assumption | apply Has.there))) (Imp.trans (BysP.fold (mb := mb) (rs := rs) (by (repeat (first | exact Has.here | assumption | apply Has.there))) (by (repeat (first | exact Has.here | assumption | apply Has.there))) hrs (Imp.refl _)) (GP.fold (mb := mb) (by (repeat (first | exact Has.here | assumption | apply Has.there))) (by (repeat (first | exact Has.here | assumption | apply Has.there))) (by (repeat (first | exact Imp.refl _ | (apply Imp.take; (· (repeat (first | exact Has.here | assumption | apply Has.there)))) | fail | apply Imp.dropT | exact Imp.nil _)))))))
  · obtain rfl := hln h3
    refine JT.up (Up.nilS (enc := refC) (sz := 5) true (by decide) (Up.refl _)) ?_
    refine JT.imp (Imp.trans (Imp.take (c := SlT true (fun e : List Value => e) 5 (.slice a10 1 1) 1 [[i64 0, i64 1, u64 0, i64 h, u64 0]]) (by (repeat (first | exact Has.here | assumption | apply Has.there))) (Imp.refl _)) (SlT.ty (enc := refC) [gHead h] rfl)) ?_
    have hl2 : ([gHead h] ++ ([] : List SL.Ref)).length ≤ 1023 := by simp
    focus
     (refine JT.A3 rfl rfl rfl (by decide) (by (try simp only [List.length_nil, List.length_cons, List.length_append, List.length_take, List.length_drop, List.length_set]); omega) (fun a17 c17 hc17 => ?_))
     refine zfw [_, _, _, _, _] rfl rfl rfl rfl <| JT.bsl1 (by repeat (first | exact Cells.nil | apply Cells.z | (apply Cells.cl; rfl; rfl; rfl))) (by simp only [List.length_cons, List.length_nil, Nat.reduceAdd]; rfl) (by decide) (by rfl) fun a23 => ?_
    refine JT.A1 (v := gTail h) rfl rfl rfl rfl (by decide) (by omega) (fun a4 c4 hc4 => ?_)
    focus
     refine zd <| zr ?_
    rw [show [gHead h] ++ ([] : List SL.Ref) ++ [gTail h] = gHead h :: (rz.l ++ [gTail h]) from rfl]
    refine retQS (a4, c4) (.t rfl .nil) trivial rfl (Up.of (Imp.take (by (repeat (first | exact Has.here | assumption | apply Has.there))) (Imp.trans (BysP.fold (mb := mb) (rs := rs) (by (repeat (first | exact Has.here | assumption | apply Has.there))) (by (repeat (first | exact Has.here | assumption | apply Has.there))) hrs (Imp.refl _)) (GP.fold (mb := mb) (by (repeat (first | exact Has.here | assumption | apply Has.there))) (by (repeat (first | exact Has.here | assumption | apply Has.there))) (by (repeat (first | exact Imp.refl _ | (apply Imp.take; (· (repeat (first | exact Has.here | assumption | apply Has.there)))) | fail | apply Imp.dropT | exact Imp.nil _)))))))
theorem slIdxR_fn {a : Option Addr} {c : Nat} {xs : List SL.Ref} {g : Nat} {cb : List Value} {p : SL.Ref → Bool} {F : List Assn} [Hs : HS F (.slice a xs.length c) SL.Ref refC 5 c xs]
    (hp : ∀ x, Meets Try.prog g (rv x :: cb) F (Det (.bool (p x)) F)) : Meets Try.prog 30 [.slice a xs.length c, .func (.func g) #[] cb.toArray] F (Det (i64 (gfix p xs)) F) := by
  refine Meets.intro b30 k30 (by simp) ?_
  refine J.sl Hs (fun hC hL hN => ?_)
  focus
   refine zs <| zc rfl <| zc rfl <| zc rfl <| zd <| zq <| zb ?_
  refine J.lp (ι := Nat) (fun k => k ≤ xs.length ∧ ∀ j, j < k → p (nth xs j) = false) (fun k => [(8, i64 k)]) (fun _ => F) (fun k => xs.length - k) 0 ⟨by omega, fun j hj => by omega⟩ (by exact subxR rfl) (Up.refl _) (fun k hk => ?_)
  obtain ⟨hk, hn⟩ := hk
  focus
   refine zs <| zj rfl rfl rfl <| zd <| zq <| zi rfl (fun h1 => ?_) (fun h1 => ?_)
   refine zk <| zq <| zb <| zs <| zc rfl <| zy (.iC rfl rfl (by omega)) <| zy (.LE rfl (by omega)) ?_
   rotate_left
   refine zx <| zs <| zc rfl <| zd <| zr <| yR (.t rfl .nil) ?_ (.of .rf)
   rotate_left
  · refine JT.callvD (cap := cb) rfl rfl (Up.refl _) (hp _) ?_
    focus
     refine zd <| zi rfl (fun h2 => ?_) (fun h2 => ?_)
     refine zs <| zc rfl <| zd <| zr <| yR (.t rfl .nil) ?_ (.of .rf)
     rotate_left
     refine zk <| zo <| zy (.addN rfl rfl (by omega)) <| zd <| ⟨_, ?_, (by omega), (subxR rfl), (.of .rf)⟩
     rotate_left
    · simp only [mkRet]; rw [gfix_at (by omega) hn h2]
    · exact ⟨by omega, fun j hj => (Nat.lt_or_eq_of_le (Nat.le_of_lt_succ hj)).elim (hn j) (fun e => e ▸ h2)⟩
  · simp only [mkRet]; rw [gfix_no fun j hj => hn j (by omega)]
theorem gBes1_fn {b : Nat} (id : Int) (r : SL.Ref) (F : List Assn) {T : Nat} {G : List Assn} [HP F b T [i64 id] G] : Meets Try.prog 65 [rv r, ptr b] F (Det (.bool (decide (r.id = id))) F) := by
  refine Meets.intro b65 k65 (by simp) ?_
  focus
   refine zs <| yB rfl fun b2 => zc rfl <| zfl rfl rfl rfl <| zl rfl rfl <| zj rfl rfl rfl <| zd <| zr <| yR (.t rfl .nil) rfl (.of (.d .rf))
theorem gBes_fn (b : Nat) (h : Int) (m : GB) (w : Vec) (id : Int) (F : List Assn) (hl : ((alk m w).getD []).length ≤ 1022) : Meets Try.prog 39 [ptr b, vv w, i64 id] (GP b h m :: F)
    (Det (.tuple #[rv (gbes (gHead h :: ((alk m w).getD [] ++ [gTail h])) id).1, rv (gbes (gHead h :: ((alk m w).getD [] ++ [gTail h])) id).2.1, .bool (gbes (gHead h :: ((alk m w).getD [] ++ [gTail h])) id).2.2]) (GP b h m :: F)) := by
  refine Meets.intro b39 k39 (by simp) ?_
  have hL := fun F => gList_fn b h m w F hl
  have hlen : (gHead h :: ((alk m w).getD [] ++ [gTail h])).length ≤ 1024 := by simp; omega
  generalize (gHead h :: ((alk m w).getD [] ++ [gTail h])) = L at *
  have hI : (∃ i, L.findIdx? (fun r => decide (r.id = id)) = some i ∧ i < L.length ∧ gfix (fun r => decide (r.id = id)) L = i) ∨ (L.findIdx? (fun r => decide (r.id = id)) = none ∧ gfix (fun r => decide (r.id = id)) L = -1) := by
    unfold gfix
    cases hx : L.findIdx? (fun r => decide (r.id = id)) with
    | none => exact .inr ⟨rfl, rfl⟩
    | some i => exact .inl ⟨i, rfl, (List.findIdx?_eq_some_iff_getElem.1 hx).1, rfl⟩
  unfold gbes gix
  focus
   refine zs <| yB rfl fun b4 => JT.box1 rfl rfl fun b5 => yN fun b6 => yN fun b7 => zc rfl <| zw rfl rfl <| yE rfl rfl (.of (.t4 .rf)) (hL _) fun ⟨a9, c9⟩ _ => zy (.mkf rfl) ?_
  dsimp only
  refine JT.callD rfl rfl (Up.refl _) (slIdxR_fn (cb := [ptr b5]) (p := fun r => decide (r.id = id)) (fun x => gBes1_fn id x _)) ?_
  rcases hI with ⟨i, h1, h2, h3⟩ | ⟨h1, h3⟩
  · rw [h1, h3]
    dsimp only
    unfold gl gr
    by_cases h4 : 0 < i
    · by_cases h5 : i + 1 < L.length
      · rw [if_pos h4, if_pos h5]
        focus
         refine yN fun b11 => yN fun b12 => zy (.cgtT rfl rfl (by omega)) <| zd <| zq <| zt rfl <| zo <| zy (.subN rfl rfl (by omega) (by omega)) <| zy (.iC rfl rfl (by omega)) <| zy (.LE rfl (by omega)) <| yW rfl rfl rfl rfl rfl <| zd ?_
         refine zs <| zy (.cgeT rfl rfl (by omega)) <| yG rfl <| zy (.addN rfl rfl (by omega)) <| yG rfl <| zc rfl <| yG rfl <| zy (.cltT rfl rfl (by omega)) <| zy (.pickT rfl rfl) <| zd <| zq <| zt rfl ?_
         refine zo <| zy (.addN rfl rfl (by omega)) <| zy (.iC rfl rfl (by omega)) <| zy (.LE rfl (by omega)) <| yW rfl rfl rfl rfl rfl <| zd <| zs <| zw rfl rfl <| zw rfl rfl <| zy (.cgeT rfl rfl (by omega)) <| yW rfl rfl rfl rfl rfl <| JT.yA rfl (Ev.Lw rfl rfl) ?_
         refine yW rfl rfl rfl rfl rfl <| zc rfl <| zd <| zr <| yR (.w rfl rfl (.w rfl rfl (.t rfl .nil))) rfl (.of (.t5 (.d (.d (.d (.d (.d (.d (.d .rf)))))))))
      · rw [if_pos h4, if_neg h5]
        focus
         refine yN fun b11 => yN fun b12 => zy (.cgtT rfl rfl (by omega)) <| zd <| zq <| zt rfl <| zo <| zy (.subN rfl rfl (by omega) (by omega)) <| zy (.iC rfl rfl (by omega)) <| zy (.LE rfl (by omega)) <| yW rfl rfl rfl rfl rfl <| zd ?_
         refine zs <| zy (.cgeT rfl rfl (by omega)) <| yG rfl <| zy (.addN rfl rfl (by omega)) <| yG rfl <| zc rfl <| yG rfl <| zy (.cltF rfl rfl (by omega)) <| zy (.pickT rfl rfl) <| zd <| zq <| zu rfl ?_
         refine zk <| zs <| zw rfl rfl <| zw rfl rfl <| zy (.cgeT rfl rfl (by omega)) <| yW rfl rfl rfl rfl rfl <| JT.yA rfl (Ev.Lw rfl rfl) <| yW rfl rfl rfl rfl rfl <| zc rfl <| zd <| zr <| yR (.w rfl rfl (.w rfl rfl (.t rfl .nil))) rfl (.of (.t5 (.d (.d (.d (.d (.d (.d (.d .rf)))))))))
    · obtain rfl : i = 0 := by omega
      by_cases h5 : 0 + 1 < L.length
      · rw [if_neg h4, if_pos h5]
        focus
         refine yN fun b11 => yN fun b12 => zy (.cgtF rfl rfl (by omega)) <| zd <| zq <| zu rfl <| zk <| zs <| zy (.cgeT rfl rfl (by omega)) <| yG rfl <| zy (.addN rfl rfl (by omega)) <| yG rfl ?_
         refine zc rfl <| yG rfl <| zy (.cltT rfl rfl (by omega)) <| zy (.pickT rfl rfl) <| zd <| zq <| zt rfl <| zo <| zy (.addN rfl rfl (by omega)) <| zy (.iC rfl rfl (by omega)) <| zy (.LE rfl (by omega)) <| yW rfl rfl rfl rfl rfl ?_
         refine zd <| zs <| zw rfl rfl <| zw rfl rfl <| zy (.cgeT rfl rfl (by omega)) <| yW rfl rfl rfl rfl rfl <| JT.yA rfl (Ev.Lw rfl rfl) <| yW rfl rfl rfl rfl rfl <| zc rfl <| zd <| zr <| yR (.w rfl rfl (.w rfl rfl (.t rfl .nil))) rfl (.of (.t5 (.d (.d (.d (.d (.d (.d (.d .rf)))))))))
      · rw [if_neg h4, if_neg h5]
        focus
         refine yN fun b11 => yN fun b12 => zy (.cgtF rfl rfl (by omega)) <| zd <| zq <| zu rfl <| zk <| zs <| zy (.cgeT rfl rfl (by omega)) <| yG rfl <| zy (.addN rfl rfl (by omega)) <| yG rfl ?_
         refine zc rfl <| yG rfl <| zy (.cltF rfl rfl (by omega)) <| zy (.pickT rfl rfl) <| zd <| zq <| zu rfl <| zk <| zs <| zw rfl rfl <| zw rfl rfl <| zy (.cgeT rfl rfl (by omega)) ?_
         refine yW rfl rfl rfl rfl rfl <| JT.yA rfl (Ev.Lw rfl rfl) <| yW rfl rfl rfl rfl rfl <| zc rfl <| zd <| zr <| yR (.w rfl rfl (.w rfl rfl (.t rfl .nil))) rfl (.of (.t5 (.d (.d (.d (.d (.d (.d (.d .rf)))))))))
  · rw [h1, h3]
    focus
     refine yN fun b11 => yN fun b12 => zy (.cgtF rfl rfl (by decide)) <| zd <| zq <| zu rfl <| zk <| zs <| zy (.cgeF rfl rfl (by decide)) <| zv rfl rfl <| zv rfl rfl <| zv rfl rfl ?_
     refine zy (.pickF rfl rfl) <| zd <| zq <| zu rfl <| zk <| zs <| zw rfl rfl <| zw rfl rfl <| zy (.cgeF rfl rfl (by decide)) <| yW rfl rfl rfl rfl rfl <| JT.yA rfl (Ev.Lw rfl rfl) <| yW rfl rfl rfl rfl rfl ?_
     refine zc rfl <| zd <| zr <| yR (.w rfl rfl (.w rfl rfl (.t rfl .nil))) rfl (.of (.t5 (.d (.d (.d (.d (.d (.d (.d .rf)))))))))
end Go.Proofs.Ytgcmglieciaifaa
