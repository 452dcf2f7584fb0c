/- Layer 11: Members and Beside: the functions. Conditions: none. -/
import Derived.Test.YtgcmglieciaifaaGe
set_option linter.unusedSimpArgs false
set_option linter.unusedVariables false
set_option maxRecDepth 100000
set_option maxHeartbeats 4000000
namespace Go.SL
open Go
theorem gsort_ok {h : Int} {xs : List Ref} (hg : grOk h xs) (hb : ∀ r ∈ xs, 0 ≤ r.vec.bits) : ∀ r ∈ gsort xs, gMem h r ∧ 0 ≤ r.vec.bits :=
  fun r hr => ⟨hg.mem r ((gsort_perm xs).mem_iff.1 hr), hb r ((gsort_perm xs).mem_iff.1 hr)⟩
theorem gby_mem {h : Int} {xs : List Ref} (hg : grOk h xs) (hb : ∀ r ∈ xs, 0 ≤ r.vec.bits) (w : Vec) : (alk (gby (gsort xs) (h.toNat + 1)) w).getD [] = gmem xs w := gby_get (gsort_ok hg hb) w
theorem gmem_len (xs : List Ref) (w : Vec) : (gmem xs w).length ≤ xs.length := by
  unfold gmem; exact Nat.le_trans (List.length_filter_le _ _) (by rw [(gsort_perm xs).length_eq]; omega)
theorem gmem_le {h : Int} {xs : List Ref} (hg : grOk h xs) (w : Vec) : (gmem xs w).length ≤ 1022 := Nat.le_trans (gmem_len xs w) hg.len
/-- Who stands beside one: the answer. -/
def gbesE (h : Int) (xs : List Ref) (w : Vec) (id : Int) : Ref × Ref × Int :=
  if grOk h xs then (if gmay h w then ((gbes (grow h xs w) id).1, (gbes (grow h xs w) id).2.1, if (gbes (grow h xs w) id).2.2 then 0 else 111) else (zR, zR, 10)) else (zR, zR, 110)
theorem gbes_no {l : List Ref} {id : Int} (h : (gbes l id).2.2 = false) : (gbes l id).1 = zR ∧ (gbes l id).2.1 = zR := by
  unfold gbes at *
  split at h
  · cases h
  · exact ⟨rfl, rfl⟩
end Go.SL
namespace Go.Proofs.Ytgcmglieciaifaa
open Go Go.SL
attribute [local irreducible] pc rc SlT Me Mt It pt ro pur ex sep old Meets
attribute [local irreducible] RowsA BysP GP
theorem gMembers_no (h : Int) {a1 : Option Addr} {c1 : Nat} {xs : List SL.Ref} (w : Vec) {F : List Assn} [Hs : HS F (.slice a1 xs.length c1) SL.Ref refC 5 c1 xs] (hg : ¬ grOk h xs) : Meets Try.prog 18 [i64 h, vv w, .slice a1 xs.length c1] F (Det (.tuple #[.slice none 0 0, i64 110]) F) := by
  refine Meets.intro b18 k18 (by simp) ?_
  have hB : ∀ {F : List Assn} [HS F (.slice a1 xs.length c1) SL.Ref refC 5 c1 xs], Meets Try.prog 29 [i64 h, .slice a1 xs.length c1] F _ := fun {F} _ => gBuild_no h (F := F) hg
  focus
   refine zs <| yB rfl fun b4 => zc rfl <| zc rfl <| yD rfl rfl (.of .rf) hB <| zc rfl <| zc rfl <| zc rfl <| zc rfl <| zy (.cneT rfl rfl (by decide)) <| zd <| zq ?_
   refine zt rfl <| zs <| zc rfl <| zc rfl <| zd <| zr <| yR (.t rfl (.t rfl .nil)) rfl (.of (.d .rf))
theorem gMembers_vec (h : Int) {a1 : Option Addr} {c1 : Nat} {xs : List SL.Ref} (w : Vec) {F : List Assn} [Hs : HS F (.slice a1 xs.length c1) SL.Ref refC 5 c1 xs] (hg : grOk h xs) (hb : ∀ r ∈ xs, 0 ≤ r.vec.bits) (hm : ¬ gmay h w) : Meets Try.prog 18 [i64 h, vv w, .slice a1 xs.length c1] F (Det (.tuple #[.slice none 0 0, i64 10]) F) := by
  refine Meets.intro b18 k18 (by simp) ?_
  have hB : ∀ {F : List Assn} [HS F (.slice a1 xs.length c1) SL.Ref refC 5 c1 xs], Meets Try.prog 29 [i64 h, .slice a1 xs.length c1] F _ := fun {F} _ => gBuild_ok h (F := F) hg hb
  focus
   refine zs <| yB rfl fun b4 => zc rfl <| zc rfl <| yE rfl rfl (.of .rf) hB fun x13 _ => zc rfl <| zc rfl <| zc rfl <| zc rfl <| zy (.cneF rfl rfl (by decide)) <| zd <| zq ?_
   refine zu rfl <| zk <| zs <| zw rfl rfl <| yD rfl rfl (.of (.t0 .rf)) (gMay_fn _ _ _ _ _) <| zc rfl <| zd <| zq <| zi rfl (fun h1 => ?_) (fun h1 => ?_)
   refine zs <| zc rfl <| zc rfl <| zd <| zr <| yR (.t rfl (.t rfl .nil)) rfl (.of (.d (.d .rf)))
   contradiction
theorem gMembers_ok (h : Int) {a1 : Option Addr} {c1 : Nat} {xs : List SL.Ref} (w : Vec) {F : List Assn} [Hs : HS F (.slice a1 xs.length c1) SL.Ref refC 5 c1 xs] (hg : grOk h xs) (hb : ∀ r ∈ xs, 0 ≤ r.vec.bits) (hm : gmay h w) : Meets Try.prog 18 [i64 h, vv w, .slice a1 xs.length c1] F
    (Some' (fun _ : Option Addr × Nat => True) (fun x => .tuple #[.slice x.1 (gmem xs w).length x.2, i64 0]) (fun x => SlT true refC 5 (.slice x.1 (gmem xs w).length x.2) x.2 (gmem xs w) :: F)) := by
  refine Meets.intro b18 k18 (by simp) ?_
  have hB : ∀ {F : List Assn} [HS F (.slice a1 xs.length c1) SL.Ref refC 5 c1 xs], Meets Try.prog 29 [i64 h, .slice a1 xs.length c1] F _ := fun {F} _ => gBuild_ok h (F := F) hg hb
  have hl := gby_mem hg hb w
  generalize gby (gsort xs) (h.toNat + 1) = m at *
  focus
   refine zs <| yB rfl fun b4 => zc rfl <| zc rfl <| yE rfl rfl (.of .rf) hB fun x13 _ => zc rfl <| zc rfl <| zc rfl <| zc rfl <| zy (.cneF rfl rfl (by decide)) <| zd <| zq ?_
   refine zu rfl <| zk <| zs <| zw rfl rfl <| yD rfl rfl (.of (.t0 .rf)) (gMay_fn _ _ _ _ _) <| zc rfl <| zd <| zq <| zi rfl (fun h1 => ?_) (fun h1 => ?_)
   contradiction
   refine zk <| zs <| zf 11 rfl rfl ?_
  refine JT.openGP (by (repeat (first | exact Has.here | assumption | apply Has.there))) (fun mb => ?_)
  unfold grC
  focus
   refine zl rfl rfl <| zw rfl rfl ?_
  refine JT.openBys (by (repeat (first | exact Has.here | assumption | apply Has.there))) (fun rs hrs => ?_)
  have hrow := row_get hrs w
  obtain ⟨Rest, h4, h2⟩ := RowsA.read rs w
  have hlk : ∀ v, alk rs w = some v → (alk rs w).getD rz = v := fun v e => by rw [e]; rfl
  have hln : alk rs w = none → (alk rs w).getD rz = rz := fun e => by rw [e]; rfl
  generalize (alk rs w).getD rz = row at *
  refine JT.has (c := RowsA rs) (by (repeat (first | exact Has.here | assumption | apply Has.there))) (JT.up (h4 _) ?_)
  unfold rowO
  dsimp only
  rw [← hl, ← hrow]
  focus
   refine JT.lk1 rfl (by rfl) (fun v6 h3 => ?_) (fun h3 => ?_)
   refine zc rfl <| zd <| zr ?_
   rotate_left
   refine zc rfl <| zd <| zr ?_
   rotate_left
  · obtain rfl := hlk _ h3
    exact retQS (row.a, row.c) (by (repeat (first | exact Rets.nil | apply Rets.t rfl | (apply Rets.cw rfl; (· (repeat (first | exact Has.here | assumption | apply Has.there))); (· rfl)) | (apply Rets.cv rfl; (· (repeat (first | exact Has.here | assumption | apply Has.there))))))) trivial rfl (.of (.t0 (.d (.d (.d (.d .rf))))))
  · obtain rfl := hln h3
    exact retQS (none, 0) (by (repeat (first | exact Rets.nil | apply Rets.t rfl | (apply Rets.cw rfl; (· (repeat (first | exact Has.here | assumption | apply Has.there))); (· rfl)) | (apply Rets.cv rfl; (· (repeat (first | exact Has.here | assumption | apply Has.there))))))) trivial rfl (.of (.t0 (.d (.d (.d (.d .rf))))))
theorem gBeside_fn (h : Int) {a1 : Option Addr} {c1 : Nat} {xs : List SL.Ref} (w : Vec) (id : Int) {F : List Assn} [Hs : HS F (.slice a1 xs.length c1) SL.Ref refC 5 c1 xs] (hb : ∀ r ∈ xs, 0 ≤ r.vec.bits) : Meets Try.prog 20 [i64 h, vv w, i64 id, .slice a1 xs.length c1] F
    (Det (.tuple #[rv (gbesE h xs w id).1, rv (gbesE h xs w id).2.1, i64 (gbesE h xs w id).2.2]) F) := by
  refine Meets.intro b20 k20 (by simp) ?_
  unfold gbesE
  by_cases hg : grOk h xs
  · simp only [if_pos hg]
    have hB : ∀ {F : List Assn} [HS F (.slice a1 xs.length c1) SL.Ref refC 5 c1 xs], Meets Try.prog 29 [i64 h, .slice a1 xs.length c1] F _ := fun {F} _ => gBuild_ok h (F := F) hg hb
    have hl := gby_mem hg hb w
    have hle := gmem_le hg w
    generalize gby (gsort xs) (h.toNat + 1) = m at *
    by_cases hm : gmay h w
    · simp only [if_pos hm]
      have hE := fun b F => gBes_fn b h m w id F (by rw [hl]; exact hle)
      simp only [hl] at hE
      change ∀ b F, Meets Try.prog 39 [ptr b, vv w, i64 id] (GP b h m :: F) (Det (.tuple #[rv (gbes (grow h xs w) id).1, rv (gbes (grow h xs w) id).2.1, .bool (gbes (grow h xs w) id).2.2]) (GP b h m :: F)) at hE
      have hno := fun e => gbes_no (l := grow h xs w) (id := id) e
      generalize gbes (grow h xs w) id = R at *
      obtain ⟨A, B, ok⟩ := R
      dsimp only at hE hno ⊢
      cases ok
      · obtain ⟨rfl, rfl⟩ := hno rfl
        focus
         refine zs <| yB rfl fun b5 => yN fun b8 => yN fun b9 => zc rfl <| yE rfl rfl (.of .rf) hB fun x19 _ => zc rfl <| zc rfl <| zc rfl <| zc rfl <| zy (.cneF rfl rfl (by decide)) <| zd ?_
         refine zq <| zu rfl <| zk <| zs <| zw rfl rfl <| yD rfl rfl (.of (.t0 .rf)) (gMay_fn _ _ _ _ _) <| zc rfl <| zd <| zq <| zi rfl (fun h1 => ?_) (fun h1 => ?_)
         contradiction
         refine zk <| zs <| zw rfl rfl <| yD rfl rfl (.of (.t0 .rf)) (hE _ _) <| zc rfl <| zc rfl <| zc rfl <| yN fun b13 => yN fun b14 => yW rfl rfl rfl rfl rfl <| yW rfl rfl rfl rfl rfl <| zc rfl ?_
         refine zd <| zq <| zt rfl <| zs <| zg rfl <| zg rfl <| yW rfl rfl rfl rfl rfl <| yW rfl rfl rfl rfl rfl <| zc rfl <| zd <| zr <| yR (.w rfl rfl (.w rfl rfl (.t rfl .nil))) rfl (.of (.d (.d (.d (.d (.d (.d .rf)))))))
      · focus
         refine zs <| yB rfl fun b5 => yN fun b8 => yN fun b9 => zc rfl <| yE rfl rfl (.of .rf) hB fun x19 _ => zc rfl <| zc rfl <| zc rfl <| zc rfl <| zy (.cneF rfl rfl (by decide)) <| zd ?_
         refine zq <| zu rfl <| zk <| zs <| zw rfl rfl <| yD rfl rfl (.of (.t0 .rf)) (gMay_fn _ _ _ _ _) <| zc rfl <| zd <| zq <| zi rfl (fun h1 => ?_) (fun h1 => ?_)
         contradiction
         refine zk <| zs <| zw rfl rfl <| yD rfl rfl (.of (.t0 .rf)) (hE _ _) <| zc rfl <| zc rfl <| zc rfl <| yN fun b13 => yN fun b14 => yW rfl rfl rfl rfl rfl <| yW rfl rfl rfl rfl rfl <| zc rfl ?_
         refine zd <| zq <| zu rfl <| zk <| zs <| zw rfl rfl <| zw rfl rfl <| yW rfl rfl rfl rfl rfl <| JT.yA rfl (Ev.Lw rfl rfl) <| yW rfl rfl rfl rfl rfl <| zc rfl <| zd ?_
         refine zr <| yR (.w rfl rfl (.w rfl rfl (.t rfl .nil))) rfl (.of (.d (.d (.d (.d (.d (.d .rf)))))))
    · simp only [if_neg hm]
      focus
       refine zs <| yB rfl fun b5 => yN fun b8 => yN fun b9 => zc rfl <| yE rfl rfl (.of .rf) hB fun x19 _ => zc rfl <| zc rfl <| zc rfl <| zc rfl <| zy (.cneF rfl rfl (by decide)) <| zd ?_
       refine zq <| zu rfl <| zk <| zs <| zw rfl rfl <| yD rfl rfl (.of (.t0 .rf)) (gMay_fn _ _ _ _ _) <| zc rfl <| zd <| zq <| zi rfl (fun h1 => ?_) (fun h1 => ?_)
       refine zs <| zg rfl <| zg rfl <| yW rfl rfl rfl rfl rfl <| yW rfl rfl rfl rfl rfl <| zc rfl <| zd <| zr <| yR (.w rfl rfl (.w rfl rfl (.t rfl .nil))) rfl (.of (.d (.d (.d (.d .rf)))))
       contradiction
  · simp only [if_neg hg]
    have hB : ∀ {F : List Assn} [HS F (.slice a1 xs.length c1) SL.Ref refC 5 c1 xs], Meets Try.prog 29 [i64 h, .slice a1 xs.length c1] F _ := fun {F} _ => gBuild_no h (F := F) hg
    focus
     refine zs <| yB rfl fun b5 => yN fun b8 => yN fun b9 => zc rfl <| yD rfl rfl (.of .rf) hB <| zc rfl <| zc rfl <| zc rfl <| zc rfl <| zy (.cneT rfl rfl (by decide)) <| zd ?_
     refine zq <| zt rfl <| zs <| zg rfl <| zg rfl <| yW rfl rfl rfl rfl rfl <| yW rfl rfl rfl rfl rfl <| zc rfl <| zd <| zr <| yR (.w rfl rfl (.w rfl rfl (.t rfl .nil))) rfl (.of (.d (.d (.d .rf))))
end Go.Proofs.Ytgcmglieciaifaa
