/- Layer 9: a peer: the small functions. Conditions: none. -/
import Derived.Test.YtmeajliiloaegaaGreatPa
import Derived.Test.YtmeajliiloaegaaGreatKc
import Derived.Test.YtmeajliiloaegaaGreatKg
import Derived.Test.YtmeajliiloaegaaGreatBcd
set_option linter.unusedSimpArgs false
set_option linter.unusedVariables false
set_option maxRecDepth 100000
set_option maxHeartbeats 4000000
namespace Go.Proofs.YtmeajliiloaegaaGreat
open Go Go.SL
attribute [local irreducible] pc rc SlT Me Mt It pt ro pur ex sep old Meets
attribute [local irreducible] LockP RecP RecsA LinksP LinksH RdA
instance : TE 105 WaitE waitC 6 := ⟨waitC_one, by decide⟩
instance : TE 67 RdyE rdyC 14 := ⟨rdyC_one, by decide⟩
theorem peMade_W (b : Nat) (P : Pe) (wa : Option Addr) (wc : Nat) (F : List Assn) : Meets Tryz.prog 24 [ptr b] (PeW b P wa wc :: F) (Det (.bool true) (PeW b P wa wc :: F)) := by
  refine Meets.intro b24 k24 (by simp) ?_
  obtain ⟨me, v, lk, j, m, ws, rd⟩ := P
  refine J.openPe Has.here (fun lb va vc ra rc rs hrs hw1 hw2 hr1 hr2 => ?_)
  focus
   refine zs <| zc rfl <| zc rfl <| zm rfl rfl (fun h1 => .fa' 6 rfl rfl) <| zm rfl rfl (fun h1 => by rw [h1]; exact .L rfl rfl) <| zm rfl rfl (fun h1 => by rw [h1]; exact .calc rfl) <| zy (.pickT rfl rfl) <| zd <| zr <| yR (.t rfl .nil) rfl (.of (PeW.fold .here .here .here .here .here .here (by first | assumption | omega | rfl | decide) .rf))
theorem peIsEnd_W (b : Nat) (P : Pe) (wa : Option Addr) (wc : Nat) (F : List Assn) : Meets Tryz.prog 71 [ptr b] (PeW b P wa wc :: F) (Det (.bool (decide P.isEnd)) (PeW b P wa wc :: F)) := by
  refine Meets.intro b71 k71 (by simp) ?_
  obtain ⟨me, v, lk, j, m, ws, rd⟩ := P
  refine J.openPe Has.here (fun lb va vc ra rc rs hrs hw1 hw2 hr1 hr2 => ?_)
  focus
   refine zs <| zc rfl <| zf 0 rfl rfl <| zf 1 rfl rfl <| zfl rfl rfl rfl <| zj rfl rfl rfl <| zd <| zr <| yR (.t rfl .nil) ?_ (.of (PeW.fold .here .here .here .here .here .here (by first | assumption | omega | rfl | decide) .rf))
  simp only [mkRet]; congr 1
  rw [Bool.eq_iff_iff, Bool.not_eq_true', decide_eq_false_iff_not, decide_eq_true_iff]; exact Iff.rfl
theorem peTell_W (b : Nat) (P : Pe) (wa : Option Addr) (wc : Nat) (t : Int) (y : AnsE) (F : List Assn) (hl : P.rd.length ≤ 100000) : Meets Tryz.prog 26 [ptr b, i64 t, anv y] (PeW b P wa wc :: byO y.a y.c y.x.value :: F) (Det (.tuple #[]) (PeW b (P.tell t y.x) wa wc :: F)) := by
  refine Meets.intro b26 k26 (by simp) ?_
  obtain ⟨me, v, lk, j, m, ws, rd⟩ := P
  refine J.openPe Has.here (fun lb va vc ra rc rs hrs hw1 hw2 hr1 hr2 => ?_)
  subst hrs
  dsimp only at hl
  rw [List.length_map] at hl
  unfold Pe.tell
  dsimp only
  have e1 : (rs ++ [(⟨t, y⟩ : RdyE)]).map RdyE.pl = rs.map RdyE.pl ++ [⟨t, y.x⟩] := by simp [RdyE.pl]
  refine J.imp (RdA.fold (xs := rs) (y := ⟨t, y⟩) (by (repeat (first | exact Has.here | assumption | apply Has.there))) (by (repeat (first | exact Has.here | assumption | apply Has.there))) (Imp.refl _)) ?_
  focus
   refine zo <| yB rfl fun b5 => zfl rfl rfl rfl <| zw rfl rfl <| zg rfl <| JT.bsl1 (by repeat (first | exact Cells.nil | apply Cells.z | (apply Cells.cl; rfl; rfl; rfl))) (by simp only [List.length_cons, List.length_nil, Nat.reduceAdd]; rfl) (by decide) (by rfl) fun a14 => ?_
  refine JT.A1 (enc := rdyC) (v := (⟨t, y⟩ : RdyE)) rfl rfl (by rfl) rfl (by decide) (by omega) (fun a15 c15 hc15 => ?_)
  focus
   refine zf 10 rfl rfl <| yS rfl rfl rfl rfl rfl (Nat.le_of_ble_eq_true rfl) rfl <| zd ?_
  exact retQD .nil rfl (.of (PeW.fold .here (.there (.there (.there (.there .here)))) (.there (.there (.there (.there .here)))) (.there (.there (.there (.there .here)))) .here (.there (.there .here)) (by first | assumption | omega | rfl | decide) (.d (.d .rf))))
theorem pePlain_W (b : Nat) (P : Pe) (wa : Option Addr) (wc : Nat) (t k : Int) (F : List Assn) (hl : P.rd.length ≤ 100000) : Meets Tryz.prog 51 [ptr b, i64 t, i64 k] (PeW b P wa wc :: F) (Det (.tuple #[]) (PeW b (P.plain t k) wa wc :: F)) := by
  refine Meets.intro b51 k51 (by simp) ?_
  have hP := fun F => peTell_W b P wa wc t ⟨plainA k, none, 0⟩ F hl
  refine J.nilS byteC 1 false (by decide) ?_
  unfold Pe.plain
  focus
   refine zo <| zg rfl <| yD rfl rfl (.of (.t1 (.t0 .rf))) (hP _) <| zd ?_
  exact retQD .nil rfl (.of (.t0 .rf))
theorem peRecord_W (b : Nat) (P : Pe) (wa : Option Addr) (wc : Nat) (w : Vec) (F : List Assn) (hI : P.lk.Inv) : Meets Tryz.prog 27 [ptr b, vv w] (PeW b P wa wc :: F) (Det (anv ⟨P.recd w, none, 0⟩) (PeW b (P.touch w) wa wc :: F)) := by
  refine Meets.intro b27 k27 (by simp) ?_
  obtain ⟨me, v, lk, j, m, ws, rd⟩ := P
  dsimp only at hI
  refine J.openPe Has.here (fun lb va vc ra rc rs hrs hw1 hw2 hr1 hr2 => ?_)
  unfold Pe.touch
  dsimp only
  have hG := fun F => lnGet_fn lb lk w F fun a h => Nat.le_trans (hI.at_ h).le (by decide)
  cases hg : lk.getB w with
  | true =>
    have e : Pe.recd ⟨me, v, lk, j, m, ws, rd⟩ w = ⟨1, m, (lk.getS w).left, (lk.getS w).right, []⟩ := by unfold Pe.recd; rw [if_pos hg]
    rw [e]
    rw [hg] at hG
    focus
     refine zs <| yB rfl fun b3 => yN fun b4 => zfl rfl rfl rfl <| zw rfl rfl <| JT.both ?_ ?_
     refine yE rfl rfl (.of (.t3 .rf)) (hG _) fun ⟨a13, c13⟩ _ => zc rfl <| zc rfl <| yN fun b5 => yW rfl rfl rfl rfl rfl <| zc rfl <| zd <| zs <| zc rfl <| zd <| zq <| zu rfl ?_
     refine zk <| zs <| zfl rfl rfl rfl <| zfw [_, _, _, _, _] rfl rfl rfl rfl <| zfw [_, _, _, _, _] rfl rfl rfl rfl <| zg rfl <| yW rfl rfl rfl rfl rfl <| zd <| zr <| yR (.w rfl rfl .nil) rfl (.of (PeW.fold (.there (.there (.there (.there (.there .here))))) (.there (.there (.there .here))) (.there (.there (.there (.there .here)))) (.there (.there (.there (.there .here)))) (.there (.there (.there (.there .here)))) (.there (.there (.there (.there .here)))) (by first | assumption | omega | rfl | decide) (.d (.d (.d (.d .rf))))))
     refine yN fun b5 => yE rfl rfl (.of (.t4 .rf)) (hG _) fun ⟨a13, c13⟩ _ => zc rfl <| zc rfl <| yW rfl rfl rfl rfl rfl <| zc rfl <| zd <| zs <| zc rfl <| zd <| zq <| zu rfl ?_
     refine zk <| zs <| zfl rfl rfl rfl <| zfw [_, _, _, _, _] rfl rfl rfl rfl <| zfw [_, _, _, _, _] rfl rfl rfl rfl <| zg rfl <| yW rfl rfl rfl rfl rfl <| zd <| zr <| yR (.w rfl rfl .nil) rfl (.of (PeW.fold (.there (.there (.there (.there (.there .here))))) (.there (.there (.there .here))) (.there (.there (.there (.there .here)))) (.there (.there (.there (.there .here)))) (.there (.there (.there (.there .here)))) (.there (.there (.there (.there .here)))) (by first | assumption | omega | rfl | decide) (.d (.d (.d (.d .rf))))))
  | false =>
    have e : Pe.recd ⟨me, v, lk, j, m, ws, rd⟩ w = plainA 2 := by unfold Pe.recd; rw [if_neg (by rw [hg]; decide)]
    rw [e]
    rw [hg] at hG
    focus
     refine zs <| yB rfl fun b3 => yN fun b4 => zfl rfl rfl rfl <| zw rfl rfl <| JT.both ?_ ?_
     refine yE rfl rfl (.of (.t3 .rf)) (hG _) fun ⟨a13, c13⟩ _ => zc rfl <| zc rfl <| yN fun b5 => yW rfl rfl rfl rfl rfl <| zc rfl <| zd <| zs <| zc rfl <| zd <| zq <| zt rfl ?_
     refine zs <| zg rfl <| yW rfl rfl rfl rfl rfl <| zd <| zr <| yR (.w rfl rfl .nil) rfl (.of (PeW.fold (.there (.there (.there (.there (.there .here))))) (.there (.there (.there .here))) (.there (.there (.there (.there .here)))) (.there (.there (.there (.there .here)))) (.there (.there (.there (.there .here)))) (.there (.there (.there (.there .here)))) (by first | assumption | omega | rfl | decide) (.d (.d (.d (.d .rf))))))
     refine yN fun b5 => yE rfl rfl (.of (.t4 .rf)) (hG _) fun ⟨a13, c13⟩ _ => zc rfl <| zc rfl <| yW rfl rfl rfl rfl rfl <| zc rfl <| zd <| zs <| zc rfl <| zd <| zq <| zt rfl ?_
     refine zs <| zg rfl <| yW rfl rfl rfl rfl rfl <| zd <| zr <| yR (.w rfl rfl .nil) rfl (.of (PeW.fold (.there (.there (.there (.there (.there .here))))) (.there (.there (.there .here))) (.there (.there (.there (.there .here)))) (.there (.there (.there (.there .here)))) (.there (.there (.there (.there .here)))) (.there (.there (.there (.there .here)))) (by first | assumption | omega | rfl | decide) (.d (.d (.d (.d .rf))))))
theorem peYes_W (b : Nat) (P : Pe) (wa : Option Addr) (wc : Nat) (t e : Int) (g : Bool) (F : List Assn) (hl : P.rd.length ≤ 100000) : Meets Tryz.prog 31 [ptr b, i64 t, i64 e, .bool g] (PeW b P wa wc :: F) (Det (.tuple #[]) (PeW b (P.plain t (yesK e g)) wa wc :: F)) := by
  refine Meets.intro b31 k31 (by simp) ?_
  have h1 := fun F => pePlain_W b P wa wc t 1 F hl
  have h2 := fun F => pePlain_W b P wa wc t 2 F hl
  have h4 := fun F => pePlain_W b P wa wc t 4 F hl
  unfold yesK
  by_cases e0 : e = 0
  · rw [if_pos e0]
    focus
     refine zb <| zs <| zy (.ceqT rfl rfl (by omega)) <| zd <| zt rfl <| zo <| yD rfl rfl (.of (.t0 .rf)) (h1 _) <| zd <| blockQ_n ?_
    exact retQD .nil rfl (.of (.t0 .rf))
  · rw [if_neg e0]
    cases g with
    | false =>
      rw [if_neg (by simp)]
      focus
       refine zb <| zs <| zy (.ceqF rfl rfl (by omega)) <| zd <| zu rfl <| zs <| zc rfl <| zv rfl rfl <| zy (.pickF rfl rfl) <| zd <| zu rfl <| zo ?_
       refine yD rfl rfl (.of (.t0 .rf)) (h4 _) <| zd <| blockQ_n ?_
      exact retQD .nil rfl (.of (.t0 .rf))
    | true =>
      by_cases e2 : e = 82
      · rw [if_pos ⟨rfl, e2⟩]
        focus
         refine zb <| zs <| zy (.ceqF rfl rfl (by omega)) <| zd <| zu rfl <| zs <| zc rfl <| yG rfl <| zy (.ceqT rfl rfl (by omega)) <| zy (.pickT rfl rfl) <| zd <| zt rfl ?_
         refine zo <| yD rfl rfl (.of (.t0 .rf)) (h2 _) <| zd <| blockQ_n ?_
        exact retQD .nil rfl (.of (.t0 .rf))
      · rw [if_neg (fun h => e2 h.2)]
        focus
         refine zb <| zs <| zy (.ceqF rfl rfl (by omega)) <| zd <| zu rfl <| zs <| zc rfl <| yG rfl <| zy (.ceqF rfl rfl (by omega)) <| zy (.pickT rfl rfl) <| zd <| zu rfl ?_
         refine zo <| yD rfl rfl (.of (.t0 .rf)) (h4 _) <| zd <| blockQ_n ?_
        exact retQD .nil rfl (.of (.t0 .rf))
theorem peMade_P (b : Nat) (P : Pe) (F : List Assn) : Meets Tryz.prog 24 [ptr b] (PeP b P :: F) (Det (.bool true) (PeP b P :: F)) := Meets.pe fun wa wc => peMade_W b P wa wc F
theorem peIsEnd_P (b : Nat) (P : Pe) (F : List Assn) : Meets Tryz.prog 71 [ptr b] (PeP b P :: F) (Det (.bool (decide P.isEnd)) (PeP b P :: F)) := Meets.pe fun wa wc => peIsEnd_W b P wa wc F
theorem peTell_P (b : Nat) (P : Pe) (t : Int) (y : AnsE) (F : List Assn) (hl : P.rd.length ≤ 100000) : Meets Tryz.prog 26 [ptr b, i64 t, anv y] (PeP b P :: byO y.a y.c y.x.value :: F) (Det (.tuple #[]) (PeP b (P.tell t y.x) :: F)) := Meets.pe fun wa wc => peTell_W b P wa wc t y F hl
theorem pePlain_P (b : Nat) (P : Pe) (t k : Int) (F : List Assn) (hl : P.rd.length ≤ 100000) : Meets Tryz.prog 51 [ptr b, i64 t, i64 k] (PeP b P :: F) (Det (.tuple #[]) (PeP b (P.plain t k) :: F)) := Meets.pe fun wa wc => pePlain_W b P wa wc t k F hl
theorem peRecord_P (b : Nat) (P : Pe) (w : Vec) (F : List Assn) (hI : P.lk.Inv) : Meets Tryz.prog 27 [ptr b, vv w] (PeP b P :: F) (Det (anv ⟨P.recd w, none, 0⟩) (PeP b (P.touch w) :: F)) := Meets.pe fun wa wc => peRecord_W b P wa wc w F hI
theorem peYes_P (b : Nat) (P : Pe) (t e : Int) (g : Bool) (F : List Assn) (hl : P.rd.length ≤ 100000) : Meets Tryz.prog 31 [ptr b, i64 t, i64 e, .bool g] (PeP b P :: F) (Det (.tuple #[]) (PeP b (P.plain t (yesK e g)) :: F)) := Meets.pe fun wa wc => peYes_W b P wa wc t e g F hl
end Go.Proofs.YtmeajliiloaegaaGreat

set_option linter.unusedSimpArgs false
set_option linter.unusedVariables false
set_option maxRecDepth 100000
set_option maxHeartbeats 4000000
namespace Go.SL
open Go
def Pe.serve (P : Pe) (is : WaitE → Bool) (act : Pe → WaitE → Pe) (l : List WaitE) : Pe := l.foldl (fun P x => if is x then act P x else P) P
theorem Pe.serve_snoc (P : Pe) (is : WaitE → Bool) (act : Pe → WaitE → Pe) {ws : List WaitE} {i : Nat} (h : i < ws.length) : P.serve is act (ws.take (i + 1)) = if is (nth ws i) then act (P.serve is act (ws.take i)) (nth ws i) else P.serve is act (ws.take i) := by
  unfold Pe.serve
  rw [List.take_add_one, List.getElem?_eq_getElem h, ← nth_eq h, List.foldl_append]; rfl
theorem filter_snoc {ws : List WaitE} {i : Nat} (h : i < ws.length) (f : WaitE → Bool) : (ws.take (i + 1)).filter f = (ws.take i).filter f ++ (if f (nth ws i) then [nth ws i] else []) := by
  rw [List.take_add_one, List.getElem?_eq_getElem h, ← nth_eq h, List.filter_append]
  congr 1
  simp only [Option.toList_some, List.filter_cons, List.filter_nil]
theorem JT.callvD {P : Program} {ρ : Env} {cs : List Assn} {t : Tr} {K : Env → List Assn → Prop} {d : Nat} {f : Operand} {args : List Operand} {fid : Nat} {vs cap : List Value} {cs0 cs1 : List Assn} {v0 : Value} (hf : ρ.ev f = some (.func (.func fid) #[] cap.toArray)) (ha : ρ.evs args = some vs)
    (hi : Up cs cs0) (hfn : Meets P fid (vs ++ cap) cs0 (Det v0 cs1)) (h : JT P t ((d, v0) :: ρ) cs1 K) : JT P (.st ⟨some d, .call f args, none⟩ t) ρ cs K :=
  JT.callv hf ha hfn hi fun v cs' ⟨e1, e2⟩ => by subst e1 e2; exact h
theorem JT.callvD0 {P : Program} {ρ : Env} {cs : List Assn} {t : Tr} {K : Env → List Assn → Prop} {f : Operand} {args : List Operand} {fid : Nat} {vs cap : List Value} {cs0 cs1 : List Assn} {v0 : Value} (hf : ρ.ev f = some (.func (.func fid) #[] cap.toArray)) (ha : ρ.evs args = some vs)
    (hi : Up cs cs0) (hfn : Meets P fid (vs ++ cap) cs0 (Det v0 cs1)) (h : JT P t ρ cs1 K) : JT P (.st ⟨none, .call f args, none⟩ t) ρ cs K :=
  JT.callv hf ha hfn hi fun v cs' ⟨e1, e2⟩ => by subst e1 e2; exact h
end Go.SL
namespace Go.Proofs.YtmeajliiloaegaaGreat
open Go Go.SL
attribute [local irreducible] pc rc SlT Me Mt It pt ro pur ex sep old Meets
attribute [local irreducible] LockP RecP RecsA LinksP LinksH RdA
theorem peServed_W (b : Nat) (P : Pe) (wa : Option Addr) (wc f1 f2 : Nat) (c1 c2 : List Value) (is : WaitE → Bool) (act : Pe → WaitE → Pe) (Ok : Nat → Pe → Prop) (I : Assn) (F : List Assn)
    (h1 : ∀ x F, Meets Tryz.prog f1 (wtv x :: c1) (I :: F) (Det (.bool (is x)) (I :: F)))
    (h2 : ∀ k Q x F, k < P.waits.length → Ok k Q → is x = true → Meets Tryz.prog f2 (wtv x :: c2) (PeW b Q wa wc :: I :: F) (Det (.tuple #[]) (PeW b (act Q x) wa wc :: I :: F)))
    (hok : ∀ k Q x, Ok k Q → is x = true → Ok (k + 1) (act Q x)) (hok1 : ∀ k Q, Ok k Q → Ok (k + 1) Q) (hw : ∀ k Q x, Ok k Q → is x = true → (act Q x).waits = Q.waits) (h0 : Ok 0 P) (hl : P.waits.length ≤ 100000) :
    Meets Tryz.prog 55 [ptr b, .func (.func f1) #[] c1.toArray, .func (.func f2) #[] c2.toArray] (PeW b P wa wc :: I :: F) (Det (.tuple #[]) (PeP b (P.served is act) :: I :: F)) := by
  refine Meets.intro b55 k55 (by simp) ?_
  have hws : ∃ ws, P.waits = ws := ⟨_, rfl⟩
  obtain ⟨ws, hws⟩ := hws
  rw [hws] at hl
  obtain ⟨me, v, lk, j, m, ws', rd⟩ := P
  dsimp only at hws
  subst hws
  refine J.openPe Has.here (fun lb va vc ra rc rs hrs hw1 hw2 hr1 hr2 => ?_)
  focus
   refine zs <| zc rfl <| zfl rfl rfl rfl <| zc rfl <| zc rfl <| zd <| zq <| zb ?_
  refine J.lp (ι := Nat × Pe × Option Addr × Nat × List WaitE) (fun i => i.1 ≤ ws'.length ∧ i.2.1 = Pe.serve ⟨me, v, lk, j, m, ws', rd⟩ is act (ws'.take i.1) ∧ i.2.1.waits = ws' ∧ i.2.2.2.2 = (ws'.take i.1).filter (fun x => !is x) ∧ Ok i.1 i.2.1) (fun i => [(6, .slice i.2.2.1 i.2.2.2.2.length i.2.2.2.1), (14, i64 (i.1 : Int))])
    (fun i => SlT true waitC 6 (.slice i.2.2.1 i.2.2.2.2.length i.2.2.2.1) i.2.2.2.1 i.2.2.2.2 :: PeW b i.2.1 wa wc :: I :: F) (fun i => ws'.length - i.1) (0, ⟨me, v, lk, j, m, ws', rd⟩, none, 0, []) ⟨by simp, rfl, rfl, by simp, h0⟩ (by exact subxR rfl) (Up.nilS (enc := waitC) (sz := 6) true (by decide) (.of (.t0 (PeW.fold .here .here .here .here .here .here (by first | assumption | omega | rfl | decide) (.t0 .rf))))) (fun i hi => ?_)
  obtain ⟨i, Q, a6, c6, rest⟩ := i
  obtain ⟨hi, hQ, hQw, hrest, hO⟩ := hi
  dsimp only at hi hQ hQw hrest hO ⊢
  obtain ⟨me2, v2, lk2, j2, m2, ws2, rd2⟩ := Q
  dsimp only at hQw
  subst hQw
  have hrl : rest.length ≤ i := by
    rw [hrest]; exact Nat.le_trans (List.length_filter_le _ _) (by rw [List.length_take]; omega)
  by_cases hlt : i < ws2.length
  · have hsn := Pe.serve_snoc ⟨me, v, lk, j, m, ws2, rd⟩ is act hlt
    have hfs := filter_snoc hlt (fun x => !is x)
    have h1x := h1 (nth ws2 i)
    refine J.openPe (by (repeat (first | exact Has.here | assumption | apply Has.there))) (fun lb2 va2 vc2 ra2 rc2 rs2 hrs2 hw12 hw22 hr12 hr22 => ?_)
    by_cases his : is (nth ws2 i) = true
    · have h2x := fun F => h2 i _ (nth ws2 i) F hlt hO his
      have hO2 := hok i _ (nth ws2 i) hO his
      have hw2 := hw i _ (nth ws2 i) hO his
      rw [his] at h1x
      rw [if_pos his, ← hQ] at hsn
      rw [if_neg (by simp [his]), List.append_nil, ← hrest] at hfs
      focus
       refine zs <| zy (.cltT rfl rfl (by omega)) <| zd <| zq <| zt rfl <| zk <| zq <| zb <| zs <| zy (.iC rfl rfl (by omega)) <| zy (.LE rfl (by omega)) <| yN fun b8 => ?_
       refine yW rfl rfl rfl rfl rfl <| zw rfl rfl ?_
      refine JT.imp (Imp.take (c := I) (by (repeat (first | exact Has.here | assumption | apply Has.there))) (Imp.refl _)) ?_
      refine JT.callvD (cap := c1) rfl rfl (Up.refl _) (h1x _) ?_
      focus
       refine zd <| zt rfl <| zo <| zw rfl rfl ?_
      refine JT.imp (PeW.fold (b := b) (me := me2) (v := v2) (lk := lk2) (j := j2) (m := m2) (ws := ws2) (rd := rd2) (lb := lb2) (va := va2) (vc := vc2) (wa := wa) (wc := wc) (ra := ra2) (rc := rc2) (rs := rs2) (by (repeat (first | exact Has.here | assumption | apply Has.there))) (by (repeat (first | exact Has.here | assumption | apply Has.there))) (by (repeat (first | exact Has.here | assumption | apply Has.there))) (by (repeat (first | exact Has.here | assumption | apply Has.there))) (by (repeat (first | exact Has.here | assumption | apply Has.there))) (by (repeat (first | exact Has.here | assumption | apply Has.there))) hrs2 (Imp.refl _)) ?_
      refine JT.imp (Imp.take (c := PeW b ⟨me2, v2, lk2, j2, m2, ws2, rd2⟩ wa wc) (by (repeat (first | exact Has.here | assumption | apply Has.there))) (Imp.take (c := I) (by (repeat (first | exact Has.here | assumption | apply Has.there))) (Imp.refl _))) ?_
      refine JT.callvD (cap := c2) rfl rfl (Up.refl _) (h2x _) ?_
      focus
       refine zd <| zo <| zy (.addN rfl rfl (by omega)) <| zd <| ⟨⟨_, ⟨_, ⟨_, ⟨_, _⟩⟩⟩⟩, ?_, (by omega), (subxR rfl), (.of (.t3 (.t0 (.t0 (.d .rf)))))⟩
      exact ⟨by dsimp only; omega, hsn.symm, hw2, hfs.symm, hO2⟩
    · have hif : is (nth ws2 i) = false := by simpa using his
      have hO2 := hok1 i _ hO
      rw [hif] at h1x
      rw [if_neg his, ← hQ] at hsn
      rw [if_pos (by simp [hif]), ← hrest] at hfs
      focus
       refine zs <| zy (.cltT rfl rfl (by omega)) <| zd <| zq <| zt rfl <| zk <| zq <| zb <| zs <| zy (.iC rfl rfl (by omega)) <| zy (.LE rfl (by omega)) <| yN fun b8 => ?_
       refine yW rfl rfl rfl rfl rfl <| zw rfl rfl ?_
      refine JT.imp (Imp.take (c := I) (by (repeat (first | exact Has.here | assumption | apply Has.there))) (Imp.refl _)) ?_
      refine JT.callvD (cap := c1) rfl rfl (Up.refl _) (h1x _) ?_
      focus
       refine zd <| zu rfl <| zo <| zw rfl rfl <| JT.bsl1 (by repeat (first | exact Cells.nil | apply Cells.z | (apply Cells.cl; rfl; rfl; rfl))) (by simp only [List.length_cons, List.length_nil, Nat.reduceAdd]; rfl) (by decide) (by rfl) fun a26 => ?_
       (refine JT.A1 rfl rfl (by rfl) rfl (by decide) (by omega) (fun a6_1 c6_1 hc6 => ?_))
       refine zd <| zo <| zy (.addN rfl rfl (by omega)) <| zd <| ⟨⟨_, ⟨⟨_, _, _, _, _, _, _⟩, ⟨_, ⟨_, _⟩⟩⟩⟩, ?_, (by omega), (subxR rfl), (.of (.t0 (PeW.fold (.there (.there (.there .here))) (.there (.there (.there .here))) (.there (.there (.there .here))) (.there (.there (.there .here))) (.there (.there (.there .here))) (.there (.there (.there .here))) (by first | assumption | omega | rfl | decide) (.t1 (.d (.d .rf))))))⟩
      exact ⟨by dsimp only; omega, hsn.symm, rfl, hfs.symm, hO2⟩
  · refine J.openPe (by (repeat (first | exact Has.here | assumption | apply Has.there))) (fun lb2 va2 vc2 ra2 rc2 rs2 hrs2 hw12 hw22 hr12 hr22 => ?_)
    have hi2 : i = ws2.length := by omega
    rw [hi2, List.take_length] at hQ hrest
    have e : Pe.served ⟨me, v, lk, j, m, ws2, rd⟩ is act = ⟨me2, v2, lk2, j2, m2, rest, rd2⟩ := by
      unfold Pe.served
      show ({ Pe.serve ⟨me, v, lk, j, m, ws2, rd⟩ is act ws2 with waits := _ } : Pe) = _
      rw [← hQ, ← hrest]
    rw [e]
    focus
     refine zs <| zy (.cltF rfl rfl (by omega)) <| zd <| zq <| zu rfl <| zx <| zo <| zf 9 rfl rfl <| yS rfl rfl rfl rfl rfl (Nat.le_of_ble_eq_true rfl) rfl <| zd ?_
    refine retQ_up (Up.of (PeW.fold (b := b) (me := me2) (lk := lk2) (j := j2) (m := m2) (rd := rd2) (lb := lb2) (va := va2) (vc := vc2) (ra := ra2) (rc := rc2) (rs := rs2) (v := v2) (ws := rest) (wa := a6) (wc := c6) (by (repeat (first | exact Has.here | assumption | apply Has.there))) (by (repeat (first | exact Has.here | assumption | apply Has.there))) (by (repeat (first | exact Has.here | assumption | apply Has.there))) (by (repeat (first | exact Has.here | assumption | apply Has.there))) (by (repeat (first | exact Has.here | assumption | apply Has.there))) (by (repeat (first | exact Has.here | assumption | apply Has.there))) hrs2 (Imp.refl _))) ?_
    exact retQD .nil rfl (.of (PeP.fold .here (.t1 (.d .rf))))
end Go.Proofs.YtmeajliiloaegaaGreat

set_option linter.unusedSimpArgs false
set_option linter.unusedVariables false
set_option maxRecDepth 100000
set_option maxHeartbeats 4000000
namespace Go.Proofs.YtmeajliiloaegaaGreat
open Go Go.SL
attribute [local irreducible] pc rc SlT Me Mt It pt ro pur ex sep old Meets
attribute [local irreducible] LockP RecP RecsA LinksP LinksH RdA
instance : TE 5 UInt8 byteC 1 := ⟨byteC_one, by decide⟩
theorem byClone_fn {a : Option Addr} {c : Nat} {xs : List UInt8} {F : List Assn} [Hs : HS F (.slice a xs.length c) UInt8 byteC 1 c xs] (hl : xs.length ≤ 1048576) : Meets Tryz.prog 38 [.slice a xs.length c] F
    (Some' (fun _ : Option Addr × Nat => True) (fun z => .slice z.1 xs.length z.2) (fun z => byO z.1 z.2 xs :: F)) := by
  refine Meets.intro b38 k38 (by simp) ?_
  refine J.sl Hs (fun hC hL hN => ?_)
  cases a with
  | none =>
    obtain rfl : xs = [] := hN rfl
    refine J.nilS byteC 1 false (by decide) ?_
    focus
     refine zs <| zc rfl <| zc rfl <| zd <| zq <| zt rfl <| zs <| zc rfl <| zd <| zr <| yQ ⟨_, _⟩ (.t rfl .nil) trivial rfl (.of (.t0 .rf))
  | some a =>
    focus
     refine zs <| zc rfl <| zc rfl <| zd <| zq <| zu rfl <| zk <| zs <| JT.b0 fun a5 => ?_
     (refine JT.A3 rfl rfl rfl (by decide) (by simp; omega) (fun a2 c2 hc2 => ?_))
     refine zd <| zr <| yQ ⟨_, _⟩ (.t rfl .nil) trivial rfl (.frz .here (.of (.t0 .rf)))
theorem peMark_no (b : Nat) (P : Pe) (wa : Option Addr) (wc : Nat) (t : Int) (F : List Assn) (hl : P.rd.length ≤ 100000) (h : P.isEnd ∨ P.marked = true) : Meets Tryz.prog 36 [ptr b, i64 t] (PeW b P wa wc :: F) (Det (.tuple #[]) (PeW b (P.mark t) wa wc :: F)) := by
  refine Meets.intro b36 k36 (by simp) ?_
  unfold Pe.mark
  rw [if_pos h]
  have h1 := fun F => pePlain_W b P wa wc t 4 F hl
  have h2 := fun F => peIsEnd_W b P wa wc F
  obtain ⟨me, v, lk, j, m, ws, rd⟩ := P
  generalize Pe.plain ⟨me, v, lk, j, m, ws, rd⟩ t 4 = P2 at h1
  by_cases he : Pe.isEnd ⟨me, v, lk, j, m, ws, rd⟩
  · rw [decide_eq_true he] at h2
    focus
     refine zb <| zs <| yD rfl rfl (.of (.t0 .rf)) (h2 _) <| zv rfl rfl <| zv rfl rfl <| zy (.pickT rfl rfl) <| zd <| zt rfl <| zo <| yD rfl rfl (.of (.t0 .rf)) (h1 _) <| zd <| blockQ_n ?_
    exact retQD .nil rfl (.of (.t0 .rf))
  · rw [decide_eq_false he] at h2
    have hm : m = true := by rcases h with h | h; exact absurd h he; exact h
    subst hm
    focus
     refine zb <| zs <| yD rfl rfl (.of (.t0 .rf)) (h2 _) <| yG rfl <| zf 8 rfl rfl <| yG rfl ?_
    refine JT.openPe (by (repeat (first | exact Has.here | assumption | apply Has.there))) (fun lb va vc ra rc rs hrs => ?_)
    focus
     refine zl rfl rfl <| zy (.pickF rfl rfl) <| zd <| zt rfl <| zo <| yD rfl rfl (.of (PeW.fold .here .here .here .here .here .here (by first | assumption | omega | rfl | decide) .rf)) (h1 _) ?_
     refine zd <| blockQ_n ?_
    exact retQD .nil rfl (.of (.t0 .rf))
theorem peMark_now (b : Nat) (P : Pe) (wa : Option Addr) (wc : Nat) (t : Int) (F : List Assn) (hl : P.rd.length ≤ 100000) (he : ¬ P.isEnd) (hm : P.marked = false) (hj : P.joined = true) (hv : P.value.length ≤ 1048576) : Meets Tryz.prog 36 [ptr b, i64 t] (PeW b P wa wc :: F) (Det (.tuple #[]) (PeW b (P.mark t) wa wc :: F)) := by
  refine Meets.intro b36 k36 (by simp) ?_
  unfold Pe.mark
  rw [if_neg (by simp [he, hm]), if_neg (by simp [hj])]
  have h2 := fun F => peIsEnd_W b P wa wc F
  rw [decide_eq_false he] at h2
  obtain ⟨me, v, lk, j, m, ws, rd⟩ := P
  dsimp only at hl hm hj hv
  subst hm hj
  have h1 := fun z1 z2 F => peTell_W b ⟨me, v, lk, true, true, ws, rd⟩ wa wc t ⟨⟨1, false, ⟨0, ⟨0, 0⟩, ⟨0, 0⟩⟩, ⟨0, ⟨0, 0⟩, ⟨0, 0⟩⟩, v⟩, z1, z2⟩ F hl
  focus
   refine zb <| zs <| yD rfl rfl (.of (.t0 .rf)) (h2 _) <| yG rfl <| zf 8 rfl rfl <| yG rfl ?_
  refine JT.openPe (by (repeat (first | exact Has.here | assumption | apply Has.there))) (fun lb va vc ra rc rs hrs => ?_)
  focus
   refine zl rfl rfl <| zy (.pickF rfl rfl) <| zd <| zu rfl <| zs <| zfl rfl rfl rfl <| zc rfl <| zd <| zi rfl (fun h3 => ?_) (fun h3 => ?_)
   contradiction
   refine zo <| zf 8 rfl rfl <| yS rfl rfl rfl rfl rfl (Nat.le_of_ble_eq_true rfl) rfl <| zfl rfl rfl rfl <| yE rfl rfl (.of .rf) (byClone_fn (by assumption)) fun ⟨a13, c13⟩ _ => zg rfl <| yD rfl rfl (.of (PeW.fold (.there .here) (.there .here) (.there .here) (.there .here) (.there .here) (.there .here) (by first | assumption | omega | rfl | decide) (.t0 .rf))) (h1 _ _ _) ?_
   refine zd <| blockQ_n ?_
  exact retQD .nil rfl (.of (.t0 .rf))
end Go.Proofs.YtmeajliiloaegaaGreat

set_option linter.unusedSimpArgs false
set_option linter.unusedVariables false
set_option maxRecDepth 100000
set_option maxHeartbeats 4000000
namespace Go.Proofs.YtmeajliiloaegaaGreat
open Go Go.SL
attribute [local irreducible] pc rc SlT Me Mt It pt ro pur ex sep old Meets
attribute [local irreducible] LockP RecP RecsA LinksP LinksH RdA
theorem peMark_wait (b : Nat) (P : Pe) (t : Int) (F : List Assn) (he : ¬ P.isEnd) (hm : P.marked = false) (hj : P.joined = false) (hw : P.waits.length ≤ 100000) : Meets Tryz.prog 36 [ptr b, i64 t] (PeP b P :: F) (Det (.tuple #[]) (PeP b (P.mark t) :: F)) := by
  refine Meets.intro b36 k36 (by simp) ?_
  unfold Pe.mark
  rw [if_neg (by simp [he, hm]), if_pos (by simp [hj])]
  have h2 := fun F => peIsEnd_P b P F
  rw [decide_eq_false he] at h2
  obtain ⟨me, v, lk, j, m, ws, rd⟩ := P
  dsimp only at hm hj hw ⊢
  subst hm hj
  focus
   refine zb <| zs <| yD rfl rfl (.of (.t0 .rf)) (h2 _) <| yG rfl <| zf 8 rfl rfl <| yG rfl ?_
  refine JT.openPeP (by (repeat (first | exact Has.here | assumption | apply Has.there))) (fun wa wc => ?_)
  refine JT.openPe (by (repeat (first | exact Has.here | assumption | apply Has.there))) (fun lb va vc ra rc rs hrs => ?_)
  focus
   refine zl rfl rfl <| zy (.pickF rfl rfl) <| zd <| zu rfl <| zs <| zfl rfl rfl rfl <| zc rfl <| zd <| zi rfl (fun h1 => ?_) (fun h1 => ?_)
   refine zo <| zfl rfl rfl rfl <| zg rfl <| JT.bsl1 (by repeat (first | exact Cells.nil | apply Cells.z | (apply Cells.cl; rfl; rfl; rfl))) (by simp only [List.length_cons, List.length_nil, Nat.reduceAdd]; rfl) (by decide) (by rfl) fun a41 => ?_
   rotate_left
   contradiction
  refine JT.A1 (enc := waitC) (v := (⟨t, true, zV, zO⟩ : WaitE)) rfl rfl (by rfl) rfl (by decide) (by omega) (fun a42 c42 hc42 => ?_)
  focus
   refine zf 9 rfl rfl <| yS rfl rfl rfl rfl rfl (Nat.le_of_ble_eq_true rfl) rfl <| zd <| blockQ_n ?_
  refine retQ_up (Up.of (PeW.fold (b := b) (me := me) (v := v) (lk := lk) (j := false) (m := false) (ws := ws ++ [⟨t, true, zV, zO⟩]) (rd := rd) (lb := lb) (va := va) (vc := vc) (wa := a42) (wc := c42) (ra := ra) (rc := rc) (rs := rs) (by (repeat (first | exact Has.here | assumption | apply Has.there))) (by (repeat (first | exact Has.here | assumption | apply Has.there))) (by (repeat (first | exact Has.here | assumption | apply Has.there))) (by (repeat (first | exact Has.here | assumption | apply Has.there))) (by (repeat (first | exact Has.here | assumption | apply Has.there))) (by (repeat (first | exact Has.here | assumption | apply Has.there))) hrs (Imp.refl _))) ?_
  exact retQD .nil rfl (.of (PeP.fold .here (.d .rf)))
theorem peMark_P (b : Nat) (P : Pe) (t : Int) (F : List Assn) (hl : P.rd.length ≤ 100000) (hv : P.value.length ≤ 1048576) (hw : P.waits.length ≤ 100000) : Meets Tryz.prog 36 [ptr b, i64 t] (PeP b P :: F) (Det (.tuple #[]) (PeP b (P.mark t) :: F)) := by
  by_cases h : P.isEnd ∨ P.marked = true
  · exact Meets.pe fun wa wc => peMark_no b P wa wc t F hl h
  · have he : ¬ P.isEnd := fun h' => h (.inl h')
    have hm : P.marked = false := by simpa using fun h' => h (.inr h')
    cases hj : P.joined with
    | true => exact Meets.pe fun wa wc => peMark_now b P wa wc t F hl he hm hj hv
    | false => exact peMark_wait b P t F he hm hj hw
end Go.Proofs.YtmeajliiloaegaaGreat

set_option linter.unusedSimpArgs false
set_option linter.unusedVariables false
set_option maxRecDepth 100000
set_option maxHeartbeats 4000000
namespace Go.Proofs.YtmeajliiloaegaaGreat
open Go Go.SL
attribute [local irreducible] pc rc SlT Me Mt It pt ro pur ex sep old Meets
attribute [local irreducible] LockP RecP RecsA LinksP LinksH RdA
theorem peGet_W (b : Nat) (P : Pe) (wa : Option Addr) (wc : Nat) (t : Int) (F : List Assn) (hI : P.lk.Inv) (hl : P.rd.length ≤ 100000) (hv : P.value.length ≤ 1048576) : Meets Tryz.prog 28 [ptr b, i64 t] (PeW b P wa wc :: F) (Det (.tuple #[]) (PeW b (P.get t) wa wc :: F)) := by
  refine Meets.intro b28 k28 (by simp) ?_
  have h1 : ∀ F, Meets Tryz.prog 27 [ptr b, vv ⟨0, 0⟩] (PeW b P wa wc :: F) (Det (anv ⟨P.recd zV, none, 0⟩) (PeW b (P.touch zV) wa wc :: F)) := fun F => peRecord_W b P wa wc zV F hI
  unfold Pe.get
  obtain ⟨me, v, lk, j, m, ws, rd⟩ := P
  dsimp only at hI hl hv
  refine J.nilS byteC 1 false (by decide) ?_
  cases hg : lk.getB zV with
  | true =>
    have e : Pe.recd ⟨me, v, lk, j, m, ws, rd⟩ zV = ⟨1, m, (lk.getS zV).left, (lk.getS zV).right, []⟩ := by unfold Pe.recd; rw [if_pos hg]
    rw [e] at h1 ⊢
    rw [if_pos rfl]
    unfold Pe.touch at h1 ⊢
    dsimp only at h1 ⊢
    have h3 := fun z1 z2 F => peTell_W b ⟨me, v, lk.touch zV, j, m, ws, rd⟩ wa wc t ⟨⟨1, m, (lk.getS zV).left, (lk.getS zV).right, v⟩, z1, z2⟩ F hl
    focus
     refine zs <| zg rfl <| yD rfl rfl (.of (.t1 .rf)) (h1 _) <| yN fun b4 => yW rfl rfl rfl rfl rfl <| zfl rfl rfl rfl <| zj rfl rfl rfl <| zd <| zq <| zi rfl (fun h2 => ?_) (fun h2 => ?_)
     refine zo <| zf 5 rfl rfl ?_
     rotate_left
     contradiction
    refine JT.openPe (by (repeat (first | exact Has.here | assumption | apply Has.there))) (fun lb va vc ra rc rs hrs => ?_)
    focus
     refine zl rfl rfl <| yE rfl rfl (.of .rf) (byClone_fn (by assumption)) fun ⟨a15, c15⟩ _ => zf 12 rfl rfl <| yS (us := [_]) rfl rfl rfl rfl rfl (Nat.le_of_ble_eq_true rfl) (by simp only [lput]; rfl) <| zd <| zo <| zw rfl rfl <| yD rfl rfl (.of (PeW.fold (.there (.there .here)) (.there (.there .here)) (.there (.there .here)) (.there (.there .here)) (.there (.there .here)) (.there (.there .here)) (by first | assumption | omega | rfl | decide) (.t1 .rf))) (h3 _ _ _) ?_
     refine zd ?_
    exact retQD .nil rfl (.of (.t0 (.d (.d .rf))))
  | false =>
    have e : Pe.recd ⟨me, v, lk, j, m, ws, rd⟩ zV = plainA 2 := by unfold Pe.recd; rw [if_neg (by rw [hg]; decide)]
    rw [e] at h1 ⊢
    rw [if_neg (by decide)]
    unfold Pe.touch at h1 ⊢
    dsimp only at h1 ⊢
    have h3 := fun F => peTell_W b ⟨me, v, lk.touch zV, j, m, ws, rd⟩ wa wc t ⟨plainA 2, none, 0⟩ F hl
    focus
     refine zs <| zg rfl <| yD rfl rfl (.of (.t1 .rf)) (h1 _) <| yN fun b4 => yW rfl rfl rfl rfl rfl <| zfl rfl rfl rfl <| zy (.ceqF rfl rfl (by decide)) <| zd <| zq <| zu rfl <| zk <| zo ?_
     refine zw rfl rfl <| yD rfl rfl (.of (.t1 (.t1 .rf))) (h3 _) <| zd ?_
    exact retQD .nil rfl (.of (.t0 (.d .rf)))
theorem peGet_P (b : Nat) (P : Pe) (t : Int) (F : List Assn) (hI : P.lk.Inv) (hl : P.rd.length ≤ 100000) (hv : P.value.length ≤ 1048576) : Meets Tryz.prog 28 [ptr b, i64 t] (PeP b P :: F) (Det (.tuple #[]) (PeP b (P.get t) :: F)) := Meets.pe fun wa wc => peGet_W b P wa wc t F hI hl hv
end Go.Proofs.YtmeajliiloaegaaGreat
