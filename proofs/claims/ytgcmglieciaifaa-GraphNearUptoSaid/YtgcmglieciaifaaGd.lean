/- Layer 11: a graph in memory; how it is built. Conditions: none. -/
import Derived.Test.YtgcmglieciaifaaGc
import Derived.Test.YtgcmglieciaifaaPx
set_option linter.unusedSimpArgs false
set_option linter.unusedVariables false
set_option maxRecDepth 100000
set_option maxHeartbeats 4000000
namespace Go.SL
open Go
/-- A list's members; where they lie. -/
structure RowE where
  a : Option Addr
  c : Nat
  l : List Ref
  deriving Inhabited
def rowV (x : RowE) : Value := .slice x.a x.l.length x.c
def rowO (x : Vec × RowE) : Assn := SlT true refC 5 (.slice x.2.a x.2.l.length x.2.c) x.2.c x.2.l
def RowsA (rs : List (Vec × RowE)) : Assn := sep (rs.map rowO)
def rer (rs : List (Vec × RowE)) : GB := rs.map fun x => (x.1, x.2.l)
theorem sep_take {α : Type} {f : α → Assn} {l : List α} {i : Nat} {x : α} (h : l[i]? = some x) {r : List Assn} : Imp (sep (l.map f) :: r) (f x :: sep ((l.eraseIdx i).map f) :: r) := by
  obtain ⟨A, B, rfl, rfl, e⟩ := eraseIdx_split h
  rw [e, List.map_append, List.map_cons, List.map_append]; exact sep_pull
theorem sep_put {α : Type} {f : α → Assn} {l : List α} {i : Nat} {x y : α} (h : l[i]? = some x) {r : List Assn} : Imp (f y :: sep ((l.eraseIdx i).map f) :: r) (sep ((l.set i y).map f) :: r) := by
  obtain ⟨A, B, rfl, rfl, e⟩ := eraseIdx_split h
  rw [e, List.map_append]
  have : (A ++ x :: B).set A.length y = A ++ y :: B := by simp
  rw [this, List.map_append, List.map_cons]; exact sep_push
theorem sep_snoc {α : Type} {f : α → Assn} {l : List α} {x : α} {r : List Assn} : Imp (f x :: sep (l.map f) :: r) (sep ((l ++ [x]).map f) :: r) := by
  have h := sep_push (c := f x) (A := l.map f) (B := []) (r := r)
  rw [List.append_nil] at h
  rw [List.map_append, List.map_cons, List.map_nil]; exact h
section
variable {cs r r1 ds : List Assn} {rs : List (Vec × RowE)}
theorem RowsA.take {i : Nat} {x : Vec × RowE} (h : rs[i]? = some x) : Imp (RowsA rs :: r) (rowO x :: RowsA (rs.eraseIdx i) :: r) := sep_take (f := rowO) h
theorem RowsA.put {i : Nat} {x : Vec × RowE} (y : Vec × RowE) (h : rs[i]? = some x) : Imp (rowO y :: RowsA (rs.eraseIdx i) :: r) (RowsA (rs.set i y) :: r) := sep_put (f := rowO) h
theorem RowsA.snoc (y : Vec × RowE) : Imp (rowO y :: RowsA rs :: r) (RowsA (rs ++ [y]) :: r) := sep_snoc (f := rowO)
theorem RowsA.nil : Imp r (RowsA [] :: r) := Imp.sep_in (cs := [])
end
theorem aix_rer (rs : List (Vec × RowE)) (w : Vec) : aix (rer rs) w = aix rs w := by
  unfold aix rer; rw [List.map_map]; rfl
theorem rer_aput (rs : List (Vec × RowE)) (w : Vec) (x : RowE) : rer (aput rs w x) = aput (rer rs) w x.l := by
  unfold aput; rw [aix_rer]
  cases aix rs w with
  | none => simp [rer]
  | some i => simp [rer, List.map_set]
theorem alk_rer (rs : List (Vec × RowE)) (w : Vec) : alk (rer rs) w = (alk rs w).map (·.l) := by
  rw [alk_aix, alk_aix, aix_rer]
  cases aix rs w with
  | none => rfl
  | some i => simp only [Option.bind_some, rer, List.getElem?_map, Option.map_map]; rfl
def rz : RowE := ⟨none, 0, []⟩
/-- A list's members out of all, and put back. -/
theorem RowsA.split (rs : List (Vec × RowE)) (w : Vec) : ∃ Rest : Assn, (∀ r, Up (RowsA rs :: r) (rowO (w, (alk rs w).getD rz) :: Rest :: r)) ∧ ∀ (y : RowE) r, Imp (rowO (w, y) :: Rest :: r) (RowsA (aput rs w y) :: r) := by
  cases h : aix rs w with
  | none =>
    refine ⟨RowsA rs, fun r => ?_, fun y r => ?_⟩
    · rw [alk_aix, h]; exact Up.nilS true (by decide) (Up.refl _)
    · unfold aput; rw [h]; exact RowsA.snoc (w, y)
  | some i =>
    obtain ⟨hlt, hk⟩ := aix_some h
    have hi : rs[i]? = some (w, (rs[i]).2) := by rw [List.getElem?_eq_getElem hlt, ← hk]
    refine ⟨RowsA (rs.eraseIdx i), fun r => ?_, fun y r => ?_⟩
    · rw [alk_aix, h]; simp only [Option.bind_some, List.getElem?_eq_getElem hlt, Option.map_some, Option.getD_some]; exact Up.of (RowsA.take hi)
    · unfold aput; rw [h]; exact RowsA.put (w, y) hi
theorem MeetsY.mono {P : Program} {l : Nat} {args : List Value} {cs : List Assn} {R R' : Value → List Assn → Prop} (h : MeetsY P l args cs R) (k : ∀ v c, R v c → R' v c) : MeetsY P l args cs R' := fun w hw => YieldW.mono (fun v w' ⟨cs', h1, h2⟩ => ⟨cs', h1, k v cs' h2⟩) (h w hw)
theorem gputs_row {h : Int} {s : List Ref} (hs : ∀ r ∈ s, gMem h r ∧ 0 ≤ r.vec.bits) (r : Ref) (j : Nat) : (alk (gputs (gby s (h.toNat + 1)) r j) (vpre r.vec (j : Int))).getD [] = s.filter fun x => decide (vbegins x.vec (vpre r.vec (j : Int))) := by
  rw [alk_gputs, if_neg (by rw [vpre_len]; omega), gby_get hs]
def grC (h : Int) (mb : Nat) : List Value := [i64 h, i64 0, i64 1, u64 0, i64 h, u64 0, i64 1, i64 3, u64 0, i64 h, u64 0, .map (some mb)]
/-- A graph's lists, in memory. -/
def BysP (mb : Nat) (m : GB) : Assn := ex fun rs : List (Vec × RowE) => sep [Mt mb vv rowV rs, RowsA rs, pur (rer rs = m)]
def GP (b : Nat) (h : Int) (m : GB) : Assn := ex fun mb : Nat => sep [pc b 85 (grC h mb), BysP mb m]
section
variable {P : Program} {n : Nat} {ρ : Env} {cs r r1 ds : List Assn} {cc : CC} {t : Tr} {K : Env → List Assn → Prop} {Q : Exit → Env → List Assn → Prop} {mb b : Nat} {m : GB} {h : Int} {rs : List (Vec × RowE)}
theorem J.openBys (hh : Has cs (BysP mb m) r) (k : ∀ rs, rer rs = m → J P n cc ρ (Mt mb vv rowV rs :: RowsA rs :: r) Q) : J P n cc ρ cs Q :=
  J.has hh (J.ex fun rs => J.sep (J.has (Has.there (Has.there Has.here)) (J.pur fun e => k rs e)))
theorem JT.openBys (hh : Has cs (BysP mb m) r) (k : ∀ rs, rer rs = m → JT P t ρ (Mt mb vv rowV rs :: RowsA rs :: r) K) : JT P t ρ cs K :=
  JT.has hh (JT.ex fun rs => JT.sep (JT.has (Has.there (Has.there Has.here)) (JT.pur fun e => k rs e)))
theorem BysP.fold (h1 : Has cs (Mt mb vv rowV rs) r) (h2 : Has r (RowsA rs) r1) (e : rer rs = m) (h3 : Imp r1 ds) : Imp cs (BysP mb m :: ds) :=
  Imp.trans (Imp.take h1 (Imp.take h2 (Imp.trans (Imp.trans h3 (Imp.pur_in e)) (Imp.refl _)))) (Imp.trans (Imp.sep_in (cs := [_, _, _])) (Imp.ex_in (A := fun rs : List (Vec × RowE) => sep [Mt mb vv rowV rs, RowsA rs, pur (rer rs = m)]) rs))
theorem J.openGP (hh : Has cs (GP b h m) r) (k : ∀ mb, J P n cc ρ (pc b 85 (grC h mb) :: BysP mb m :: r) Q) : J P n cc ρ cs Q := J.has hh (J.ex fun mb => J.sep (k mb))
theorem JT.openGP (hh : Has cs (GP b h m) r) (k : ∀ mb, JT P t ρ (pc b 85 (grC h mb) :: BysP mb m :: r) K) : JT P t ρ cs K := JT.has hh (JT.ex fun mb => JT.sep (k mb))
theorem GP.fold (h1 : Has cs (pc b 85 (grC h mb)) r) (h2 : Has r (BysP mb m) r1) (h3 : Imp r1 ds) : Imp cs (GP b h m :: ds) :=
  Imp.trans (Imp.take h1 (Imp.take h2 (Imp.trans h3 (Imp.refl _)))) (Imp.trans (Imp.sep_in (cs := [_, _])) (Imp.ex_in (A := fun mb : Nat => sep [pc b 85 (grC h mb), BysP mb m]) mb))
end
end Go.SL
namespace Go.Proofs.Ytgcmglieciaifaa
open Go Go.SL
attribute [local irreducible] pc rc SlT Me Mt It pt ro pur ex sep old Meets
attribute [local irreducible] RowsA BysP GP
theorem gBuild_no (h : Int) {a1 : Option Addr} {c1 : Nat} {xs : List SL.Ref} {F : List Assn} [Hs : HS F (.slice a1 xs.length c1) SL.Ref refC 5 c1 xs] (hg : ¬ grOk h xs) : Meets Try.prog 29 [i64 h, .slice a1 xs.length c1] F (Det (.tuple #[.pointer none, i64 110]) F) := by
  refine Meets.intro b29 k29 (by simp) ?_
  have hc : ∀ {F : List Assn} [HS F (.slice a1 xs.length c1) SL.Ref refC 5 c1 xs], Meets Try.prog 25 [i64 h, .slice a1 xs.length c1] F (Det (i64 110) F) := by
    intro F _
    have := gCheck_fn h (a1 := a1) (c1 := c1) (xs := xs) (F := F)
    unfold gE at this; rw [if_neg hg] at this; exact this
  focus
   refine zs <| zc rfl <| zc rfl <| yD rfl rfl (.of .rf) hc <| zy (.cneT rfl rfl (by decide)) <| zd <| zq <| zt rfl <| zs <| zc rfl <| zc rfl <| zd ?_
   refine zr <| yR (.t rfl (.t rfl .nil)) rfl (.of .rf)
theorem gBuild_ok (h : Int) {a1 : Option Addr} {c1 : Nat} {xs : List SL.Ref} {F : List Assn} [Hs : HS F (.slice a1 xs.length c1) SL.Ref refC 5 c1 xs] (hg : grOk h xs) (hb : ∀ r ∈ xs, 0 ≤ r.vec.bits) : Meets Try.prog 29 [i64 h, .slice a1 xs.length c1] F
    (Some' (fun _ : Nat => True) (fun b => .tuple #[ptr b, i64 0]) (fun b => GP b h (gby (gsort xs) (h.toNat + 1)) :: F)) := by
  refine Meets.intro b29 k29 (by simp) ?_
  have hc : ∀ {F : List Assn} [HS F (.slice a1 xs.length c1) SL.Ref refC 5 c1 xs], Meets Try.prog 25 [i64 h, .slice a1 xs.length c1] F (Det (i64 0) F) := by
    intro F _
    have := gCheck_fn h (a1 := a1) (c1 := c1) (xs := xs) (F := F)
    unfold gE at this; rw [if_pos hg] at this; exact this
  have hk : ∀ {F : List Assn} [HS F (.slice a1 xs.length c1) SL.Ref refC 5 c1 xs], Meets Try.prog 61 [.slice a1 xs.length c1] F _ := fun {F} _ => gByKey_fn (F := F) (by have := hg.len; omega) hg.keys
  have e1 : ∀ F, Meets Try.prog 59 [i64 h] F _ := fun F => peHead_fn h F
  have e2 : ∀ F, Meets Try.prog 60 [i64 h] F _ := fun F => peTail_fn h F
  simp only [if_pos (show hOk h from ⟨hg.h0, hg.h32⟩)] at e1 e2
  focus
   refine zs <| zc rfl <| zc rfl <| yD rfl rfl (.of .rf) hc <| zy (.cneF rfl rfl (by decide)) <| zd <| zq <| zu rfl <| zk <| zs ?_
  refine JT.mkm vv rowV (fun b18 => ?_)
  focus
   refine zg rfl <| yB rfl fun b20 => yN fun b7 => yS (us := [_]) rfl rfl rfl rfl rfl (Nat.le_of_ble_eq_true rfl) (by simp only [lput]; rfl) <| zl rfl rfl <| yD rfl rfl (.of .rf) (e1 _) <| JT.yA rfl (Ev.L rfl rfl) <| zc rfl <| zc rfl <| zf 1 rfl rfl ?_
   refine yS (us := [_, _, _, _, _]) rfl rfl rfl rfl rfl (Nat.le_of_ble_eq_true rfl) (by simp only [lput]; rfl) <| zl rfl rfl <| yD rfl rfl (.of .rf) (e2 _) <| JT.yA rfl (Ev.L rfl rfl) <| zc rfl <| zc rfl <| zf 6 rfl rfl ?_
   refine yS (us := [_, _, _, _, _]) rfl rfl rfl rfl rfl (Nat.le_of_ble_eq_true rfl) (by simp only [lput]; rfl) <| yE rfl rfl (.of .rf) hk fun ⟨a38, c38⟩ _ => zc rfl <| zc rfl <| zd <| zq <| zb ?_
  have hS : ∀ r ∈ gsort xs, gMem h r ∧ 0 ≤ r.vec.bits := fun r hr => ⟨hg.mem r ((gsort_perm xs).mem_iff.1 hr), hb r ((gsort_perm xs).mem_iff.1 hr)⟩
  have hSl : (gsort xs).length ≤ 1022 := by rw [(gsort_perm xs).length_eq]; exact hg.len
  generalize gsort xs = S at hS hSl
  clear hc hk e1 e2
  have hm0 : rer [] = gby (S.take 0) (h.toNat + 1) := rfl
  have eC : ∀ mb, grC h mb = [i64 h, i64 (endR false h).id, i64 (endR false h).key.rank, u64 (endR false h).key.n, i64 (endR false h).vec.len, u64 (endR false h).vec.bits, i64 (endR true h).id, i64 (endR true h).key.rank, u64 (endR true h).key.n, i64 (endR true h).vec.len, u64 (endR true h).vec.bits, .map (some mb)] := fun _ => rfl
  rw [← eC b18]
  refine J.imp RowsA.nil ?_
  refine J.imp (BysP.fold (mb := b18) (rs := []) (by (repeat (first | exact Has.here | assumption | apply Has.there))) (by (repeat (first | exact Has.here | assumption | apply Has.there))) hm0 (Imp.refl _)) ?_
  refine J.lp (ι := Nat) (fun k => k ≤ S.length) (fun k => [(40, i64 (k : Int))]) (fun k => BysP b18 (gby (S.take k) (h.toNat + 1)) :: SlT true refC 5 (.slice a38 S.length c38) c38 S :: pc b20 85 (grC h b18) :: pc b7 71 [ptr b20] :: F) (fun k => S.length - k) 0 (by omega) (by exact subxR rfl) (.of (.t0 (.t0 (.t0 (.t0 .rf))))) (fun k hk => ?_)
  by_cases hlt : k < S.length
  · have hr : nth S k ∈ S := by rw [nth_eq hlt]; exact List.getElem_mem hlt
    have hT : S.take (k + 1) = S.take k ++ [nth S k] := by rw [List.take_succ_eq_append_getElem hlt, nth_eq hlt]
    have hS' : ∀ r ∈ S.take k, gMem h r ∧ 0 ≤ r.vec.bits := fun r hr => hS r (List.mem_of_mem_take hr)
    obtain ⟨hm, hmb⟩ := hS _ hr
    have hnext : gby (S.take (k + 1)) (h.toNat + 1) = gputs (gby (S.take k) (h.toNat + 1)) (nth S k) (h.toNat + 1) := by rw [hT, gby_snoc]
    have hrow := fun j => gputs_row hS' (nth S k) j
    have hrl : ∀ w, ((S.take k).filter fun x => decide (vbegins x.vec w)).length ≤ 1022 := fun w => Nat.le_trans (List.length_filter_le _ _) (by simp; omega)
    generalize gby (S.take k) (h.toNat + 1) = M at *
    focus
     refine zs <| zy (.cltT rfl rfl (by omega)) <| zd <| zq <| zt rfl <| zk <| zq <| zb <| zs <| zy (.iC rfl rfl (by omega)) <| zy (.LE rfl (by omega)) <| yN fun b9 => ?_
     refine yW rfl rfl rfl rfl rfl <| zfw [_, _] rfl rfl rfl rfl <| yE rfl rfl (.of .rf) (vPrefixes_fn _ _) fun x46 _ => zd <| zb ?_
    have hv : vecOk (nth S k).vec := hm.2.2.2.1
    have hvl : (nth S k).vec.len = h := hm.2.2.2.2
    have h0 := hg.h0
    generalize hR : nth S k = R at *
    refine J.rangeF (fid := 77) (lb := [ptr x46]) rfl (fun l Rd Dn hrounds => ?_)
    have hM0 : gputs M R 0 = M := rfl
    refine (Meets.up (cs0 := Rd :: pc x46 30 (vecC R.vec) :: BysP b18 (gputs M R 0) :: pc b9 32 (refC R) :: SlT true refC 5 (.slice a38 S.length c38) c38 S :: pc b20 85 (grC h b18) :: pc b7 71 [ptr b20] :: F) (by rw [hM0]; exact (.of (.t0 (.t0 (.t1 (.t0 (.t0 (.t0 (.t0 .rf)))))))))
      (vPrefixes1_fn R.vec hv Rd (fun j => BysP b18 (gputs M R j)) _ (fun j hj => ?_))).post ?_
    · refine (hrounds [vv (vpre R.vec (j : Int))] _ (fun cs2 => cs2 = pc x46 30 (vecC R.vec) :: BysP b18 (gputs M R (j + 1)) :: pc b9 32 (refC R) :: SlT true refC 5 (.slice a38 S.length c38) c38 S :: pc b20 85 (grC h b18) :: pc b7 71 [ptr b20] :: F) (fun _ _ => False) rfl ?_).mono ?_
      · intro X
        focus
         refine zo <| yN fun b10 => yW rfl rfl rfl rfl rfl <| zd ?_
        refine ⟨rfl, pc b10 30 (vecC (vpre R.vec (j : Int))) :: pc x46 30 (vecC R.vec) :: BysP b18 (gputs M R j) :: pc b9 32 (refC R) :: SlT true refC 5 (.slice a38 S.length c38) c38 S :: pc b20 85 (grC h b18) :: pc b7 71 [ptr b20] :: F, Up.of Imp.swap, fun X' => ?_⟩
        focus
         refine zb <| zo <| zl rfl rfl <| zfl rfl rfl rfl <| zw rfl rfl <| zw rfl rfl <| JT.bsl1 (by repeat (first | exact Cells.nil | apply Cells.z | (apply Cells.cl; rfl; rfl; rfl))) (by simp only [List.length_cons, List.length_nil, Nat.reduceAdd]; rfl) (by decide) (by rfl) fun a55 => ?_
        refine JT.openBys (by (repeat (first | exact Has.here | assumption | apply Has.there))) (fun rs hrs => ?_)
        obtain ⟨Rest, hsp1, hsp2⟩ := RowsA.split rs (vpre R.vec (j : Int))
        refine JT.has (c := RowsA rs) (by (repeat (first | exact Has.here | assumption | apply Has.there))) (JT.up (hsp1 _) ?_)
        have hl : (alk (rer rs) (vpre R.vec (j : Int))).getD [] = ((alk rs (vpre R.vec (j : Int))).getD rz).l := by
          rw [alk_rer]; cases alk rs (vpre R.vec (j : Int)) <;> rfl
        have hw := hrow j
        rw [← hrs, hl] at hw
        have hwl : ((alk rs (vpre R.vec (j : Int))).getD rz).l.length ≤ 1022 := by rw [hw]; exact hrl _
        have hput : ∀ y : RowE, y.l = ((alk rs (vpre R.vec (j : Int))).getD rz).l ++ [R] → rer (aput rs (vpre R.vec (j : Int)) y) = gputs M R (j + 1) := by
          intro y hy
          rw [rer_aput, hy, gputs_succ, ← hrs, ← hl]; rfl
        generalize hrow2 : (alk rs (vpre R.vec (j : Int))).getD rz = row at *
        obtain ⟨ra, rc, rl⟩ := row
        dsimp only at hwl hput
        refine JT.mpe (zero := .slice none 0 0) (ke := vv) (ve := rowV) (b := b18) (m := rs) (kk := vpre R.vec (j : Int)) rz rfl rfl rfl (by (repeat (first | exact Has.here | assumption | apply Has.there))) (inferInstance : KO Try.prog 30 vv).h (fun es c i born hi hbn => ?_)
        rw [hrow2]
        unfold rowO rowV
        dsimp only
        focus
         refine zc rfl <| zc rfl ?_
         (refine JT.A1 rfl rfl (by rfl) rfl (by decide) (by omega) (fun a57 c57 hc57 => ?_))
        refine JT.ens (ke := vv) (ve := rowV) (v := ⟨a57, c57, rl ++ [R]⟩) rfl rfl rfl (by (repeat (first | exact Has.here | assumption | apply Has.there))) hi hbn ?_
        rw [adef_aput]
        refine JT.imp (Imp.take (c := rowO (vpre R.vec (j : Int), ⟨a57, c57, rl ++ [R]⟩)) (by (repeat (first | exact Has.here | assumption | apply Has.there))) (Imp.take (c := Rest) (by (repeat (first | exact Has.here | assumption | apply Has.there))) (Imp.refl _))) ?_
        refine JT.imp (hsp2 _ _) ?_
        focus
         refine zd <| blockQ_n ?_
        refine ⟨_, Up.of (Imp.take (c := X') (by (repeat (first | exact Has.here | assumption | apply Has.there))) (Imp.take (c := pc x46 30 (vecC R.vec)) (by (repeat (first | exact Has.here | assumption | apply Has.there))) (BysP.fold (by (repeat (first | exact Has.here | assumption | apply Has.there))) (by (repeat (first | exact Has.here | assumption | apply Has.there))) (hput _ rfl) (by (repeat (first | exact Imp.refl _ | (apply Imp.take; (· (repeat (first | exact Has.here | assumption | apply Has.there)))) | fail | apply Imp.dropT | exact Imp.nil _)))))), rfl⟩
      · rintro v c (⟨rfl, cs2, rfl, rfl⟩ | ⟨_, _, _, _, hf⟩)
        · exact ⟨rfl, rfl⟩
        · exact hf.elim
    · rintro v c ⟨rfl, rfl⟩
      refine ⟨_, Up.refl _, .inl ⟨_, rfl, ?_⟩⟩
      have hn : R.vec.len.toNat + 1 = h.toNat + 1 := by rw [hvl]
      rw [hn, ← hnext]
      refine blockQ_n ?_
      refine blockQ_n ?_
      refine seqQ_n ?_
      focus
       refine zo <| zy (.addN rfl rfl (by omega)) <| zd <| ⟨_, ?_, (by omega), (subxR rfl), (.of (.t1 (.t2 (.t2 (.t2 (.d (.d .rf)))))))⟩
       omega
  · rw [List.take_of_length_le (by omega)]
    focus
     refine zs <| zy (.cltF rfl rfl (by omega)) <| zd <| zq <| zu rfl <| zx <| zs <| zl rfl rfl <| zc rfl <| zd <| zr <| yQ _ (.t rfl (.t rfl .nil)) trivial rfl (.of (GP.fold (.there (.there .here)) .here (.d (.d .rf))))
end Go.Proofs.Ytgcmglieciaifaa
