/- Layer 11: Lists: the program's function. Conditions: none. -/
import Derived.Test.YtgcmglieciaifaaGs
import Derived.Test.YtgcmglieciaifaaVc
import Derived.Test.YtgcmglieciaifaaSlU
import Derived.Test.YtgcmglieciaifaaBg
set_option linter.unusedSimpArgs false
set_option linter.unusedVariables false
set_option maxRecDepth 100000
set_option maxHeartbeats 4000000
namespace Go.SL
open Go
/-- A list, told. -/
structure LsE where
  w : Vec
  a : Option Addr
  c : Nat
  l : List Ref
  ok : vecG w
theorem zV_G : vecG zV := ⟨⟨by decide, by decide, by decide⟩, by decide⟩
instance : Inhabited LsE := ⟨⟨zV, none, 0, [], zV_G⟩⟩
def lsC (x : LsE) : List Value := [i64 x.w.len, u64 x.w.bits, .slice x.a x.l.length x.c]
theorem lsC_one : ∀ o : LsE, (lsC o).length = 3 ∧ ∀ v ∈ lsC o, isOne v = true := by intro o; simp [lsC, isOne]
instance : FS lsC 0 2 vecC LsE.w := ⟨fun _ => rfl⟩
def LsE.pr (x : LsE) : Vec × RowE := (x.w, ⟨x.a, x.c, x.l⟩)
def lsO (x : LsE) : Assn := SlT true refC 5 (.slice x.a x.l.length x.c) x.c x.l
def LsA (ys : List LsE) : Assn := sep (ys.map lsO)
theorem sep_perm' {l m : List Assn} (h : l.Perm m) : ∀ {r : List Assn}, Imp (sep l :: r) (sep m :: r) := by
  induction h with
  | nil => exact Imp.refl _
  | cons x _ ih => exact Imp.trans (sep_pull (A := [])) (Imp.trans (Imp.cons ih) (sep_push (A := [])))
  | swap x y l => exact Imp.trans (sep_pull (A := [])) (Imp.trans (Imp.cons (sep_pull (A := []))) (Imp.trans Imp.swap (Imp.trans (Imp.cons (sep_push (A := []))) (sep_push (A := [])))))
  | trans _ _ h1 h2 => exact Imp.trans h1 h2
theorem visit_perm {α : Type} [Inhabited α] {m : List α} {d : List Nat} (hn : d.Nodup) (hl : ∀ i ∈ d, i < m.length) (ha : ∀ i, i < m.length → i ∈ d) : (d.map (nth m)).Perm m := by
  have h1 : d.Perm (List.range m.length) := by
    rw [List.perm_ext_iff_of_nodup hn List.nodup_range]
    intro i; rw [List.mem_range]; exact ⟨hl i, ha i⟩
  have h2 := h1.map (nth m)
  have e : (List.range m.length).map (nth m) = m := by
    apply List.ext_getElem?
    intro i
    rw [List.getElem?_map]
    rcases Nat.lt_or_ge i m.length with h | h
    · rw [List.getElem?_range h, List.getElem?_eq_getElem h, Option.map_some, nth_eq h]
    · rw [List.getElem?_eq_none (by simpa using h), List.getElem?_eq_none h]; rfl
  rwa [e] at h2
theorem nodup_lt2 : ∀ {n : Nat} {d : List Nat}, d.Nodup → (∀ i ∈ d, i < n) → d.length ≤ n
  | 0, d, _, h => by
    rcases d with _ | ⟨x, r⟩
    · simp
    · have := h x (by simp); omega
  | n + 1, d, hd, h => by
    have h1 := nodup_lt2 (n := n) (d := d.erase n) (hd.erase n) (fun i hi => by
      have := h i (List.mem_of_mem_erase hi)
      have : i ≠ n := fun e => by subst e; exact absurd hi (by simp [hd.mem_erase_iff])
      omega)
    have := List.length_erase (l := d) (a := n)
    split at this <;> omega
theorem alk_mem' {m : GB} (hn : (m.map (·.1)).Nodup) {x : Vec × List Ref} (h : x ∈ m) : alk m x.1 = some x.2 := by
  obtain ⟨i, hi, rfl⟩ := List.mem_iff_getElem.1 h
  unfold alk
  have : m.find? (fun x => decide ((m[i]).1 = x.1)) = some m[i] := by
    rw [List.find?_eq_some_iff_getElem]
    refine ⟨by simp, i, hi, rfl, fun j hj => ?_⟩
    simp only [Bool.not_eq_true', decide_eq_false_iff_not]
    intro e
    have := (List.getElem_inj (i := i) (j := j) (h₀ := by simpa using hi) (h₁ := by simp; omega) hn).1 (by simpa using e)
    omega
  rw [this]; rfl
theorem LsA.of {rs : List (Vec × RowE)} {ys : List LsE} (h : (ys.map LsE.pr).Perm rs) {r : List Assn} : Imp (RowsA rs :: r) (LsA ys :: r) := by
  have e : ys.map lsO = (ys.map LsE.pr).map rowO := by rw [List.map_map]; rfl
  unfold LsA RowsA
  rw [e]; exact sep_perm' (h.symm.map rowO)
end Go.SL
namespace Go.Proofs.Ytgcmglieciaifaa
open Go Go.SL Go.Sort Go.Lib Go.Shelf
attribute [local irreducible] pc rc SlT Me Mt It pt ro pur ex sep old Meets
attribute [local irreducible] RowsA BysP GP LsA
theorem gOrder_fn (v w : Vec) (F : List Assn) (hv : vecG v) (hw : vecG w) : Meets Try.prog 52 [vv v, vv w] F (Det (i64 (vcmp v w)) F) := by
  refine Meets.intro b52 k52 (by simp) ?_
  focus
   refine zs <| yB rfl fun b2 => yB rfl fun b3 => zc rfl <| zw rfl rfl <| zw rfl rfl <| yD rfl rfl (.of .rf) (vCompare_fn _ _ _ (by assumption) (by assumption)) <| zc rfl <| zc rfl <| zc rfl <| zd <| zr ?_
   refine yR (.t rfl .nil) rfl (.of (.d (.d .rf)))
theorem gLists1_fn (x y : LsE) (F : List Assn) : Meets Try.prog 51 [.agg (lsC x).toArray, .agg (lsC y).toArray] F (Det (i64 (vcmp x.w y.w)) F) := by
  refine Meets.intro b51 k51 (by simp) ?_
  have h1 := x.ok; have h2 := y.ok
  unfold lsC
  focus
   refine zs <| yB rfl fun b2 => yB rfl fun b3 => zc rfl <| zfw [_, _] rfl rfl rfl rfl <| zfw [_, _] rfl rfl rfl rfl <| yD rfl rfl (.of .rf) (gOrder_fn _ _ _ (by assumption) (by assumption)) <| zd <| zr <| yR (.t rfl .nil) rfl (.of (.d (.d .rf)))
theorem ls_swo : SWO (ltOf fun (x y : LsE) => vcmp x.w y.w) where
  irrefl x := by simp only [ltOf, decide_eq_false_iff_not, vcmp_lt]; exact lexLt_irrefl _
  trans x y z h1 h2 := by simp only [ltOf, decide_eq_true_eq, vcmp_lt] at *; exact lexLt_trans h1 h2
  ntrans x y z h1 h2 := by
    simp only [ltOf, decide_eq_true_eq, decide_eq_false_iff_not, vcmp_lt] at *
    intro h
    rcases vlt_total x.ok y.ok with h3 | h3 | h3
    · exact h1 h3
    · rw [h3] at h; exact h2 h
    · exact h2 (lexLt_trans h3 h)
shelf_lay_g SlLaysF0.n6 Slsf 6 at Try 50 as sortL
theorem slSortL_fn (xs : List LsE) (a : Option Addr) (c : Nat) (F : List Assn) : Meets Try.prog 50 [.slice a xs.length c, .func (.func 51) #[] #[]] (SlT true lsC 3 (.slice a xs.length c) c xs :: F)
    (Some' (fun ys : List LsE => ys.Perm xs ∧ ys.Pairwise (fun x y => ¬ vcmp y.w x.w < 0)) (fun _ => .tuple #[]) (fun ys => SlT true lsC 3 (.slice a ys.length c) c ys :: F)) :=
  sort_meets sortL 3 (fun w => by kernel_rfl) (fun w => by kernel_rfl) lsC_one ls_swo (g := 51) k51 (cb := []) (CmpFn.of fun x y F => gLists1_fn x y F) (by kernel_rfl)
instance : TE 67 LsE lsC 3 := ⟨lsC_one, by decide⟩
theorem gLists_no (h : Int) {a1 : Option Addr} {c1 : Nat} {xs : List SL.Ref} {F : List Assn} [Hs : HS F (.slice a1 xs.length c1) SL.Ref refC 5 c1 xs] (hg : ¬ grOk h xs) : Meets Try.prog 23 [i64 h, .slice a1 xs.length c1] F (Det (.tuple #[.slice none 0 0, i64 110]) F) := by
  refine Meets.intro b23 k23 (by simp) ?_
  have hB : ∀ {F : List Assn} [HS F (.slice a1 xs.length c1) SL.Ref refC 5 c1 xs], Meets Try.prog 29 [i64 h, .slice a1 xs.length c1] F _ := fun {F} _ => gBuild_no h (F := F) hg
  focus
   refine zs <| zc rfl <| zc rfl <| yD rfl rfl (.of .rf) hB <| zc rfl <| zc rfl <| zc rfl <| zc rfl <| zy (.cneT rfl rfl (by decide)) <| zd <| zq <| zt rfl ?_
   refine zs <| zc rfl <| zc rfl <| zd <| zr <| yR (.t rfl (.t rfl .nil)) rfl (.of .rf)
theorem gLists_ok (h : Int) {a1 : Option Addr} {c1 : Nat} {xs : List SL.Ref} {F : List Assn} [Hs : HS F (.slice a1 xs.length c1) SL.Ref refC 5 c1 xs] (hg : grOk h xs) (hb : ∀ r ∈ xs, 0 ≤ r.vec.bits) : Meets Try.prog 23 [i64 h, .slice a1 xs.length c1] F
    (Some' (fun x : Option Addr × Nat × List LsE => x.2.2.map (·.w) = glists h xs ∧ ∀ y ∈ x.2.2, y.l = gmem xs y.w) (fun x => .tuple #[.slice x.1 x.2.2.length x.2.1, i64 0]) (fun x => SlT true lsC 3 (.slice x.1 x.2.2.length x.2.1) x.2.1 x.2.2 :: LsA x.2.2 :: F)) := by
  refine Meets.intro b23 k23 (by simp) ?_
  have hB : ∀ {F : List Assn} [HS F (.slice a1 xs.length c1) SL.Ref refC 5 c1 xs], Meets Try.prog 29 [i64 h, .slice a1 xs.length c1] F _ := fun {F} _ => gBuild_ok h (F := F) hg hb
  have hk := gby_keys (s := gsort xs) (n := h.toNat + 1)
  have hal := fun w => alk_gby (gsort_ok hg hb) w
  have hle := fun {l} hp hs => glists_eq hg hb (l := l) hp hs
  have hG := pre_G hg hb
  have hml := gby_len' hg
  generalize gby (gsort xs) (h.toNat + 1) = m at *
  focus
   refine zs <| zc rfl <| zc rfl <| yE rfl rfl (.of .rf) hB fun x14 _ => zc rfl <| zc rfl <| zc rfl <| zc rfl <| zy (.cneF rfl rfl (by decide)) <| zd <| zq <| zu rfl ?_
   refine zk <| zs <| zc rfl <| zf 11 rfl rfl ?_
  refine JT.openGP (by (repeat (first | exact Has.here | assumption | apply Has.there))) (fun mb => ?_)
  unfold grC
  focus
   refine zl rfl rfl ?_
  refine JT.openBys (by (repeat (first | exact Has.here | assumption | apply Has.there))) (fun rs hrs => ?_)
  refine JT.openM (Has.here) (fun es c => ?_)
  refine JT.rng rfl Has.here (fun it => ?_)
  focus
   refine zd <| zq <| zb ?_
  have hrl : rs.length = m.length := by rw [← hrs]; simp [rer]
  have hkg : ∀ x ∈ rs, vecG x.1 := fun x hx => by
    have : x.1 ∈ m.map (·.1) := by rw [← hrs]; exact List.mem_map.2 ⟨(x.1, x.2.l), List.mem_map.2 ⟨x, hx, rfl⟩, rfl⟩
    obtain ⟨r, hr, j, hj, e⟩ := (hk.1 x.1).1 this
    rw [e]; exact hG r ((gsort_perm xs).mem_iff.1 hr) j hj
  refine J.lp (ι := List Nat × List LsE × Option Addr × Nat) (fun i => i.1.Nodup ∧ (∀ j ∈ i.1, j < rs.length) ∧ i.2.1.map LsE.pr = i.1.map (nth rs)) (fun i => [(8, .slice i.2.2.1 i.2.1.length i.2.2.2)])
    (fun i => It it mb c es i.1 :: Me mb es c vv rowV rs :: RowsA rs :: SlT true lsC 3 (.slice i.2.2.1 i.2.1.length i.2.2.2) i.2.2.2 i.2.1 :: F)
    (fun i => rs.length - i.1.length) ([], [], none, 0) ⟨by simp, by simp, by simp⟩ (by exact subxR rfl) (Up.nilS (enc := lsC) (sz := 3) true (by decide) (.of (.t1 (.t1 (.t1 (.t0 (.d .rf))))))) (fun i hi => ?_)
  obtain ⟨d, ys, a8, c8⟩ := i
  obtain ⟨hd1, hd2, hd3⟩ := hi
  simp only at hd1 hd2 hd3 ⊢
  have hdl := nodup_lt2 hd1 hd2
  have hyl : ys.length = d.length := by simpa using congrArg List.length hd3
  refine zs ?_
  refine JT.nxt rfl Has.here Has.here (fun i hi hni => ?_) (fun hall => ?_)
  · focus
     refine zc rfl <| zd <| zq <| zt rfl <| zk <| zb <| zo ?_
    refine JT.ent rfl Has.here Has.here hi ?_
    rcases hgi : rs[i] with ⟨w, row⟩
    have hw : vecG w := hkg (w, row) (by rw [← hgi]; exact List.getElem_mem hi)
    have hni' : nth rs i = (w, row) := by rw [nth_eq hi]; exact hgi
    have hE : (d ++ [i]).Nodup ∧ (∀ j ∈ d ++ [i], j < rs.length) ∧ (ys ++ [(⟨w, row.a, row.c, row.l, hw⟩ : LsE)]).map LsE.pr = (d ++ [i]).map (nth rs) := by
      refine ⟨?_, fun j hj => ?_, ?_⟩
      · rw [List.nodup_append]; exact ⟨hd1, by simp, fun a ha b hb => by simp at hb; subst hb; rintro rfl; exact hni ha⟩
      · rcases List.mem_append.1 hj with hj | hj
        · exact hd2 j hj
        · simp at hj; omega
      · rw [List.map_append, List.map_append, hd3, List.map_cons, List.map_cons, List.map_nil, List.map_nil, hni']; rfl
    have hdl2 : d.length + 1 ≤ rs.length := by simpa using nodup_lt2 hE.1 hE.2.1
    dsimp only
    unfold rowV
    focus
     refine zc rfl <| zc rfl <| yN fun b9 => yW rfl rfl rfl rfl rfl <| zw rfl rfl <| zg rfl <| JT.bsl1 (by repeat (first | exact Cells.nil | apply Cells.z | (apply Cells.cl; rfl; rfl; rfl))) (by simp only [List.length_cons, List.length_nil, Nat.reduceAdd]; rfl) (by decide) (by rfl) fun a34 => ?_
    refine JT.A1 (v := (⟨w, row.a, row.c, row.l, hw⟩ : LsE)) rfl rfl rfl rfl (by decide) (by omega) (fun a8' c8' hc8 => ?_)
    focus
     refine zd <| ⟨⟨_, ⟨_, ⟨_, _⟩⟩⟩, ?_, ?_, (subxR rfl), (.of (.t3 (.t3 (.t3 (.t0 (.d (.d .rf)))))))⟩
     omega
    simp only [List.length_append, List.length_cons, List.length_nil]; omega
  have hP := visit_perm hd1 hd2 (fun j hj => hall j (by omega))
  focus
   refine zc rfl <| zd <| zq <| zu rfl <| zx <| zs <| yE rfl rfl (.of (.t3 .rf)) (slSortL_fn _ _ _ _) fun x37 hx37 => zc rfl <| zc rfl <| zd <| zr ?_
  obtain ⟨hp1, hp2⟩ := hx37
  have hpr : (x37.map LsE.pr).Perm rs := (hp1.map _).trans (by rw [hd3]; exact hP)
  have hw1 : (x37.map (·.w)).Perm (m.map (·.1)) := by
    have := hpr.map (·.1)
    rw [List.map_map] at this
    rw [← hrs]; unfold rer; rw [List.map_map]; exact this
  rw [← hp1.length_eq]
  refine retQS (a8, c8, x37) (by (repeat (first | exact Rets.nil | apply Rets.t rfl | (apply Rets.cw rfl; (· (repeat (first | exact Has.here | assumption | apply Has.there))); (· rfl)) | (apply Rets.cv rfl; (· (repeat (first | exact Has.here | assumption | apply Has.there))))))) ⟨hle hw1 (List.pairwise_map.2 hp2), fun y hy => ?_⟩ rfl (Up.of (Imp.take (by (repeat (first | exact Has.here | assumption | apply Has.there))) (Imp.trans (Imp.take (c := RowsA rs) (by (repeat (first | exact Has.here | assumption | apply Has.there))) (by (repeat (first | exact Imp.refl _ | (apply Imp.take; (· (repeat (first | exact Has.here | assumption | apply Has.there)))) | fail | apply Imp.dropT | exact Imp.nil _)))) (LsA.of hpr))))
  have hym : (y.w, y.l) ∈ m := by
    rw [← hrs]; exact List.mem_map.2 ⟨y.pr, hpr.mem_iff.1 (List.mem_map.2 ⟨y, hy, rfl⟩), rfl⟩
  have h1 := alk_mem' hk.2 hym
  rw [hal] at h1
  split at h1
  · cases h1
  · exact (Option.some.inj h1).symm
end Go.Proofs.Ytgcmglieciaifaa
