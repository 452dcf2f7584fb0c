/- The laws RpcAnswers and RpcNobody: what their functions do. Conditions: none. -/
import Derived.Test.YtienlpaehgdpaaaTt
import Derived.Test.YtienlpaehgdpaaaTn
set_option linter.unusedSimpArgs false
set_option linter.unusedVariables false
set_option maxRecDepth 100000
set_option maxHeartbeats 4000000
namespace Go.SL
open Go
theorem JT.openRAnr {P : Program} {ρ : Env} {cs r : List Assn} {t : Tr} {K : Env → List Assn → Prop} {b : Nat} {A : Anr} (hh : Has cs (RAnswererP b A) r) (h : ∀ a c (xs : List KnE), xs.map KnE.pl = A.L → JT P t ρ (pc b 94 (ranrC A xs.length a c) :: SlT false knC 69 (.slice a xs.length c) c xs :: KbA xs :: r) K) : JT P t ρ cs K :=
  JT.has hh (JT.ex fun x => JT.sep (JT.has (Has.there (Has.there (Has.there Has.here))) (JT.pur fun e => h x.1 x.2.1 x.2.2 e)))
def Anr.act (A : Anr) (x : OpE) : Anr := if x.kind = 1 then (A.take x.p.p).1 else (A.reply x.p.p.src x.p.p.id x.x.x).1
theorem Anr.Ok.act {A : Anr} (h : A.Ok) (x : OpE) : (A.act x).Ok := by
  unfold Anr.act
  split
  · exact h.take _
  · exact h.reply _ _ _
end Go.SL
namespace Go.Proofs.Ytienlpaehgdpaaa
open Go Go.SL
attribute [local irreducible] pc rc SlT Me Mt It pt ro pur ex sep old Meets
attribute [local irreducible] CallsA CallerP KnP KnsA AnswererP RCallerP KbA RAnswererP
theorem RpcAnswers_fn {a1 : Option Addr} {c1 : Nat} {xs : List OpE} (me : Ad) {F : List Assn} [Hs : HS F (.slice a1 xs.length c1) OpE opEC 66 c1 xs] :
    Meets Try.prog 8 [adv me, .slice a1 xs.length c1] (PksA (xs.map (·.p)) :: AnsA (xs.map (·.x)) :: F) (Det (.bool true) (PksA (xs.map (·.p)) :: AnsA (xs.map (·.x)) :: F)) := by
  refine Meets.intro b8 k8 (by simp) ?_
  refine J.sl (inferInstance : HS (PksA (xs.map (·.p)) :: AnsA (xs.map (·.x)) :: F) (.slice a1 xs.length c1) OpE opEC 66 c1 xs) (fun hC hL _ => ?_)
  refine J.imp KbA.nil ?_
  refine J.nilS knC 69 false (by decide) ?_
  have hx0 : ([] : List KnE).map KnE.pl = (⟨me, []⟩ : Anr).L := rfl
  focus
   refine zs <| yB rfl fun b2 => zc rfl <| yD rfl rfl (.of .rf) (l06awake_fn _) <| zc rfl <| zd <| zq <| zu rfl <| zk <| zs <| zw rfl rfl <| yE rfl rfl (.of .rf) (raNew_fn _ _) fun x5 _ => ?_
   refine zw rfl rfl <| zg rfl <| yB rfl fun b6 => zc rfl <| zd <| zq <| zb ?_
  refine J.lp (ι := Nat × Anr) (fun i => i.1 ≤ xs.length ∧ i.2.Ok) (fun i => [(7, i64 (i.1 : Int))]) (fun i => AnswererP x5 i.2 :: RAnswererP b6 i.2 :: PksA (xs.map (·.p)) :: AnsA (xs.map (·.x)) :: pc b2 45 (adC me) :: F) (fun i => xs.length - i.1) (0, ⟨me, []⟩) ⟨by simp, .new me⟩ (by exact subxR rfl)
    (Up.of (Imp.trans (Imp.take (c := AnswererP x5 ⟨me, []⟩) (by (repeat (first | exact Has.here | assumption | apply Has.there))) (Imp.refl _)) (Imp.cons (RAnswererP.fold (A := ⟨me, []⟩) (xs := []) (a := none) (c := 0) (by (repeat (first | exact Has.here | assumption | apply Has.there))) (by (repeat (first | exact Has.here | assumption | apply Has.there))) (by (repeat (first | exact Has.here | assumption | apply Has.there))) hx0 (by (repeat (first | exact Imp.refl _ | (apply Imp.take; (· (repeat (first | exact Has.here | assumption | apply Has.there)))) | fail | apply Imp.dropT | exact Imp.nil _))))))) (fun i hi => ?_)
  obtain ⟨k, A⟩ := i
  obtain ⟨hk, hO⟩ := hi
  dsimp only at hk hO ⊢
  by_cases hlt : k < xs.length ∧ k < 60
  · obtain ⟨hlt, hk60⟩ := hlt
    have hn : nth (xs.map (·.p)) k = (nth xs k).p := by rw [nth_eq (by simpa using hlt), nth_eq hlt, List.getElem_map]
    have hn2 : nth (xs.map (·.x)) k = (nth xs k).x := by rw [nth_eq (by simpa using hlt), nth_eq hlt, List.getElem_map]
    by_cases hl1 : (nth xs k).p.p.ans.value.length ≤ 3000
    · by_cases hl2 : (nth xs k).x.x.value.length ≤ 3000
      · refine J.imp (Imp.trans (Imp.take (c := PksA (xs.map (·.p))) (by (repeat (first | exact Has.here | assumption | apply Has.there))) (Imp.refl _)) (PksA.get (i := k) (by simpa using hlt))) ?_
        refine J.imp (Imp.trans (Imp.take (c := AnsA (xs.map (·.x))) (by (repeat (first | exact Has.here | assumption | apply Has.there))) (Imp.refl _)) (AnsA.get (i := k) (by simpa using hlt))) ?_
        rw [hn, hn2]
        by_cases hk1 : (nth xs k).kind = 1
        · have hO2 := hO.take (nth xs k).p.p
          have hP := fun b F => raTake_P b A (nth xs k).p F hO
          have hR := fun b F => r6aTake_P b A (nth xs k).p F hO
          generalize A.take (nth xs k).p.p = R at hO2 hP hR
          obtain ⟨A2, Q, e⟩ := R
          dsimp only at hO2 hP hR
          have hW := fun b F => raWaits_P b A2 F hO2
          have hV := fun b F => r6aWaits_P b A2 F hO2
          focus
           refine zs <| zc rfl <| zy (.cltT rfl rfl (by omega)) <| yG rfl <| zy (.cltT rfl rfl (by omega)) <| zy (.pickT rfl rfl) <| zd <| zq <| zt rfl <| zk <| zq <| zb ?_
           refine zs <| zy (.iC rfl rfl (by omega)) <| zy (.LE rfl (by omega)) <| yN fun b8 => yW rfl rfl rfl rfl rfl <| zfw [_, _, _, _, _, _, _, _, _, _, _, _, _, _, _, _, _, _, _, _, _, _, _, _, _, _, _, _, _, _, _, _, _, _] rfl rfl rfl rfl <| yD rfl rfl (.of .rf) (l06light_fn _ _) <| zc rfl <| yF rfl (by assumption) <| zf 53 rfl rfl <| yF rfl (by assumption) <| zf 65 rfl rfl ?_
           refine yF rfl (by assumption) <| zl rfl rfl <| yF rfl (by assumption) <| zc rfl <| yF rfl (by assumption) <| zy (.cgtF rfl rfl (by omega)) <| zy (.pickFp rfl (by assumption) rfl) <| zd <| zq <| zu rfl <| zk <| zs ?_
           refine zfl rfl rfl rfl <| zy (.ceqT rfl rfl (by omega)) <| zd <| zq <| zt rfl <| zs <| zfw [_, _, _, _, _, _, _, _, _, _, _, _, _, _, _, _, _, _, _, _, _, _, _, _, _, _, _, _, _, _, _, _, _, _] rfl rfl rfl rfl <| yE rfl rfl (.of (.t5 (.t3 .rf))) (hP _ _) fun ⟨a56, c56⟩ _ => zc rfl <| zc rfl <| yN fun b9 => yW rfl rfl rfl rfl rfl ?_
           refine zfw [_, _, _, _, _, _, _, _, _, _, _, _, _, _, _, _, _, _, _, _, _, _, _, _, _, _, _, _, _, _, _, _, _, _] rfl rfl rfl rfl <| yE rfl rfl (.of (.tk (.there (.there (.there (.there (.there (.there (.there (.there .here)))))))) (.t3 .rf))) (hR _ _) fun ⟨a63, c63⟩ _ => zc rfl <| zc rfl <| yN fun b11 => yW rfl rfl rfl rfl rfl <| zw rfl rfl <| zw rfl rfl <| yD rfl rfl (.of .rf) (r4Same_fn ⟨_, _, _⟩ ⟨_, _, _⟩) <| zc rfl <| zh rfl rfl (fun h1 => .cneF rfl rfl (by omega)) <| zy (.pickO rfl rfl rfl) ?_
           refine zd <| zi rfl (fun h1 => ?_) (fun h1 => ?_)
           contradiction
           refine zk <| zs <| yE rfl rfl (.of (.t6 .rf)) (hW _ _) fun ⟨a111, c111⟩ hx111 => yE rfl rfl (.of (.t5 .rf)) (hV _ _) fun ⟨a113, c113⟩ hx113 => yD rfl rfl (.of (.t4 (.t1 .rf))) r6Same_fn <| zc rfl <| zn rfl (fun h2 => ?_) (fun h2 => ?_)
           refine zf 2 rfl rfl <| yF rfl (by assumption) ?_
           rotate_left
           refine yFs rfl (by assumption) <| yFs rfl (by assumption) <| yFs rfl (by assumption) <| JT.gaFs rfl (by assumption) rfl ?_
           refine yFs rfl (by assumption) <| zy (.pickTp rfl (by assumption) rfl) <| zd <| zt rfl <| zs <| zc rfl <| zd <| zr <| yR (.t rfl .nil) ?_ (.of (.tk (.there (.there (.there (.there (.there (.there (.there (.there (.there (.there (.there (.there .here)))))))))))) (.tk (.there (.there (.there (.there (.there (.there (.there (.there (.there (.there (.there .here))))))))))) (.d (.d (.d (.d (.d (.d (.d (.d (.d (.d (.d (.d .rf)))))))))))))))
           rotate_left
          · refine JT.openRAnr (b := b6) (A := A2) (by (repeat (first | exact Has.here | assumption | apply Has.there))) (fun aa ca ks hks => ?_)
            have hkl : ks.length = A2.L.length := by rw [← hks, List.length_map]
            focus
             refine zl rfl rfl <| yF rfl (by assumption) <| zc rfl <| yF rfl (by assumption) <| yD rfl rfl (.of (.t5 .rf)) (raHeard_P _ _ _) <| JT.gaF rfl (by assumption) rfl (Ev.L rfl rfl) ?_
             refine yF rfl (by assumption) <| zy (.cneF rfl rfl (by omega)) <| zy (.pickFp rfl (by assumption) rfl) <| zd <| zu rfl <| zk <| zo <| zy (.addN rfl rfl (by omega)) <| zd <| ⟨⟨_, _⟩, ?_, (by omega), (subxR rfl), (.of (.t0 (RAnswererP.fold .here .here .here (by first | assumption | omega | rfl | decide) (.tk (.there (.there (.there (.there (.there (.there (.there (.there (.there (.there .here)))))))))) (.tk (.there (.there (.there (.there (.there (.there (.there (.there (.there .here))))))))) (.tk (.there (.there (.there (.there (.there (.there (.there (.there (.there .here))))))))) (.d (.d (.d (.d (.d (.d (.d (.d (.d .rf)))))))))))))))⟩
             exact ⟨by omega, by assumption⟩
          · exact absurd (hx111.trans hx113.symm) h2
        · have hO2 := hO.reply (nth xs k).p.p.src (nth xs k).p.p.id (nth xs k).x.x
          have hP := fun b F => raReply_P b A (nth xs k).p.p.src (nth xs k).p.p.id (nth xs k).x F
          have hR := fun b F => r6aReply_P b A (nth xs k).p.p.src (nth xs k).p.p.id (nth xs k).x F hO
          generalize A.reply (nth xs k).p.p.src (nth xs k).p.p.id (nth xs k).x.x = R at hO2 hP hR
          obtain ⟨A2, Q, e⟩ := R
          dsimp only at hO2 hP hR
          have hW := fun b F => raWaits_P b A2 F hO2
          have hV := fun b F => r6aWaits_P b A2 F hO2
          focus
           refine zs <| zc rfl <| zy (.cltT rfl rfl (by omega)) <| yG rfl <| zy (.cltT rfl rfl (by omega)) <| zy (.pickT rfl rfl) <| zd <| zq <| zt rfl <| zk <| zq <| zb ?_
           refine zs <| zy (.iC rfl rfl (by omega)) <| zy (.LE rfl (by omega)) <| yN fun b8 => yW rfl rfl rfl rfl rfl <| zfw [_, _, _, _, _, _, _, _, _, _, _, _, _, _, _, _, _, _, _, _, _, _, _, _, _, _, _, _, _, _, _, _, _, _] rfl rfl rfl rfl <| yD rfl rfl (.of .rf) (l06light_fn _ _) <| zc rfl <| yF rfl (by assumption) <| zf 53 rfl rfl <| yF rfl (by assumption) <| zf 65 rfl rfl ?_
           refine yF rfl (by assumption) <| zl rfl rfl <| yF rfl (by assumption) <| zc rfl <| yF rfl (by assumption) <| zy (.cgtF rfl rfl (by omega)) <| zy (.pickFp rfl (by assumption) rfl) <| zd <| zq <| zu rfl <| zk <| zs ?_
           refine zfl rfl rfl rfl <| zy (.ceqF rfl rfl (by omega)) <| zd <| zq <| zu rfl <| zs <| zf 18 rfl rfl <| zfw [_, _] rfl rfl rfl rfl <| zf 18 rfl rfl <| zfl rfl rfl rfl <| zfw [_, _, _, _, _, _, _, _, _, _, _, _, _] rfl rfl rfl rfl <| yE rfl rfl (.of (.t5 (.t1 .rf))) (hP _ _) fun ⟨a85, c85⟩ _ => ?_
           refine zc rfl <| zc rfl <| yN fun b13 => yW rfl rfl rfl rfl rfl <| zf 18 rfl rfl <| zfw [_, _] rfl rfl rfl rfl <| zf 18 rfl rfl <| zfl rfl rfl rfl <| zfw [_, _, _, _, _, _, _, _, _, _, _, _, _] rfl rfl rfl rfl <| yE rfl rfl (.of (.tk (.there (.there (.there (.there (.there (.there (.there (.there .here)))))))) (.t3 .rf))) (hR _ _) fun ⟨a98, c98⟩ _ => zc rfl <| zc rfl ?_
           refine yN fun b15 => yW rfl rfl rfl rfl rfl <| zw rfl rfl <| zw rfl rfl <| yD rfl rfl (.of .rf) (r4Same_fn ⟨_, _, _⟩ ⟨_, _, _⟩) <| zc rfl <| zh rfl rfl (fun h1 => .cneF rfl rfl (by omega)) <| zy (.pickO rfl rfl rfl) <| zd <| zi rfl (fun h1 => ?_) (fun h1 => ?_)
           contradiction
           refine zk <| zs <| yE rfl rfl (.of (.t6 .rf)) (hW _ _) fun ⟨a111, c111⟩ hx111 => yE rfl rfl (.of (.t5 .rf)) (hV _ _) fun ⟨a113, c113⟩ hx113 => yD rfl rfl (.of (.t4 (.t1 .rf))) r6Same_fn <| zc rfl <| zn rfl (fun h2 => ?_) (fun h2 => ?_)
           refine zf 2 rfl rfl <| yF rfl (by assumption) ?_
           rotate_left
           refine yFs rfl (by assumption) <| yFs rfl (by assumption) <| yFs rfl (by assumption) <| JT.gaFs rfl (by assumption) rfl ?_
           refine yFs rfl (by assumption) <| zy (.pickTp rfl (by assumption) rfl) <| zd <| zt rfl <| zs <| zc rfl <| zd <| zr <| yR (.t rfl .nil) ?_ (.of (.tk (.there (.there (.there (.there (.there (.there (.there (.there (.there (.there (.there (.there .here)))))))))))) (.tk (.there (.there (.there (.there (.there (.there (.there (.there (.there (.there .here)))))))))) (.d (.d (.d (.d (.d (.d (.d (.d (.d (.d (.d (.d .rf)))))))))))))))
           rotate_left
          · refine JT.openRAnr (b := b6) (A := A2) (by (repeat (first | exact Has.here | assumption | apply Has.there))) (fun aa ca ks hks => ?_)
            have hkl : ks.length = A2.L.length := by rw [← hks, List.length_map]
            focus
             refine zl rfl rfl <| yF rfl (by assumption) <| zc rfl <| yF rfl (by assumption) <| yD rfl rfl (.of (.t5 .rf)) (raHeard_P _ _ _) <| JT.gaF rfl (by assumption) rfl (Ev.L rfl rfl) ?_
             refine yF rfl (by assumption) <| zy (.cneF rfl rfl (by omega)) <| zy (.pickFp rfl (by assumption) rfl) <| zd <| zu rfl <| zk <| zo <| zy (.addN rfl rfl (by omega)) <| zd <| ⟨⟨_, _⟩, ?_, (by omega), (subxR rfl), (.of (.t0 (RAnswererP.fold .here .here .here (by first | assumption | omega | rfl | decide) (.tk (.there (.there (.there (.there (.there (.there (.there (.there (.there (.there .here)))))))))) (.tk (.there (.there (.there (.there (.there (.there (.there (.there .here)))))))) (.tk (.there (.there (.there (.there (.there (.there (.there (.there (.there .here))))))))) (.d (.d (.d (.d (.d (.d (.d (.d (.d .rf)))))))))))))))⟩
             exact ⟨by omega, by assumption⟩
          · exact absurd (hx111.trans hx113.symm) h2
      · focus
         refine zs <| zc rfl <| zy (.cltT rfl rfl (by omega)) <| yG rfl <| zy (.cltT rfl rfl (by omega)) <| zy (.pickT rfl rfl) <| zd <| zq <| zt rfl <| zk <| zq <| zb ?_
         refine zs <| zy (.iC rfl rfl (by omega)) <| zy (.LE rfl (by omega)) <| yN fun b8 => yW rfl rfl rfl rfl rfl <| zfw [_, _, _, _, _, _, _, _, _, _, _, _, _, _, _, _, _, _, _, _, _, _, _, _, _, _, _, _, _, _, _, _, _, _] rfl rfl rfl rfl <| yD rfl rfl (.of .rf) (l06light_fn _ _) <| zc rfl <| yF rfl (by assumption) <| zf 53 rfl rfl <| yF rfl (by assumption) <| zf 65 rfl rfl ?_
         refine yF rfl (by assumption) <| zl rfl rfl <| yF rfl (by assumption) <| zc rfl <| yF rfl (by assumption) <| zy (.cgtT rfl rfl (by omega)) <| zy (.pickFp rfl (by assumption) rfl) <| zd <| zq <| zt rfl <| zx <| zo ?_
         refine zy (.addN rfl rfl (by omega)) <| zd <| ⟨⟨_, _⟩, ?_, (by omega), (subxR rfl), (.of (.t1 (.t1 (.t1 (.t1 (.t1 (.d .rf)))))))⟩
         exact ⟨by omega, by assumption⟩
    · focus
       refine zs <| zc rfl <| zy (.cltT rfl rfl (by omega)) <| yG rfl <| zy (.cltT rfl rfl (by omega)) <| zy (.pickT rfl rfl) <| zd <| zq <| zt rfl <| zk <| zq <| zb ?_
       refine zs <| zy (.iC rfl rfl (by omega)) <| zy (.LE rfl (by omega)) <| yN fun b8 => yW rfl rfl rfl rfl rfl <| zfw [_, _, _, _, _, _, _, _, _, _, _, _, _, _, _, _, _, _, _, _, _, _, _, _, _, _, _, _, _, _, _, _, _, _] rfl rfl rfl rfl <| yD rfl rfl (.of .rf) (l06light_fn _ _) <| zc rfl <| yFs rfl (by assumption) <| yFs rfl (by assumption) <| yFs rfl (by assumption) <| yFs rfl (by assumption) ?_
       refine yFs rfl (by assumption) <| zy (.pickTp rfl (by assumption) rfl) <| zd <| zq <| zt rfl <| zx <| zo <| zy (.addN rfl rfl (by omega)) <| zd <| ⟨⟨_, _⟩, ?_, (by omega), (subxR rfl), (.of (.t1 (.t1 (.t1 (.t1 (.t1 (.d .rf)))))))⟩
       exact ⟨by omega, by assumption⟩
  · focus
     refine zs <| zc rfl <| zj rfl rfl rfl <| zm rfl rfl (fun h1 => .int rfl rfl rfl) <| zy (.pickA rfl rfl rfl) <| zd <| zq <| zi rfl (fun h1 => ?_) (fun h1 => ?_)
     (exfalso; omega)
     refine zx <| zs <| zc rfl <| zd <| zr <| yR (.t rfl .nil) rfl (.of (.t2 (.t2 (.d (.d (.d .rf))))))
end Go.Proofs.Ytienlpaehgdpaaa
