/- Layer 6: a caller: the functions. Conditions: none. -/
import Derived.Test.YtienlpaehgdpaaaTh
import Derived.Test.YtienlpaehgdpaaaTe
import Derived.Test.YtienlpaehgdpaaaBx
import Derived.Test.YtienlpaehgdpaaaSlU
import Derived.Test.YtienlpaehgdpaaaSlS
import Derived.Test.YtienlpaehgdpaaaMa
set_option linter.unusedSimpArgs false
set_option linter.unusedVariables false
set_option maxRecDepth 100000
set_option maxHeartbeats 2000000
namespace Go.SL
open Go
theorem CM.keys {g : CM} {L : List CallE} (h : CM.of g L) : g.map (·.1) = L.map (·.p.id) := by
  rw [← h.1, List.map_map]; exact List.map_congr_left fun y hy => h.2 y hy
theorem CM.aix {g : CM} {C : Clr} (h : CM.of g C.L) (id : Int) : Go.SL.aix g id = C.ix id := by
  unfold Go.SL.aix Clr.ix
  rw [CM.keys h, List.findIdx?_map]; rfl
theorem CM.len {g : CM} {L : List CallE} (h : CM.of g L) : g.length = L.length := by rw [← h.1]; simp
theorem CM.at {g : CM} {C : Clr} (h : CM.of g C.L) {id : Int} {i : Nat} (hi : C.ix id = some i) : ∃ q, g[i]? = some (id, (q, nth C.L i)) ∧ alk g id = some (q, nth C.L i) := by
  obtain ⟨hlt, hid⟩ := Clr.ix_some hi
  have hg : i < g.length := by rw [CM.len h]; exact hlt
  rcases e : g[i] with ⟨k, q, x⟩
  have hx : x = nth C.L i := by
    rw [nth_eq hlt]
    have : (g.map (fun y => y.2.2))[i]'(by simpa using hg) = x := by simp [e]
    rw [← this]; simp only [h.1]
  have hk : k = id := by
    have := h.2 _ (List.getElem_mem hg); rw [e] at this; simp only at this; rw [this, hx, hid]
  subst hx hk
  refine ⟨q, by rw [List.getElem?_eq_getElem hg, e], ?_⟩
  rw [alk_aix, CM.aix h, hi]; simp [List.getElem?_eq_getElem hg, e]
theorem CM.no {g : CM} {C : Clr} (h : CM.of g C.L) {id : Int} (hi : C.ix id = none) : alk g id = none := by rw [alk_aix, CM.aix h, hi]; rfl
theorem CM.erase {g : CM} {L : List CallE} (h : CM.of g L) (i : Nat) : CM.of (g.eraseIdx i) (L.eraseIdx i) :=
  ⟨by rw [map_eraseIdx, h.1], fun y hy => h.2 y (List.mem_of_mem_eraseIdx hy)⟩
theorem CM.snoc {g : CM} {L : List CallE} (h : CM.of g L) (q : Nat) (x : CallE) : CM.of (g ++ [(x.p.id, (q, x))]) (L ++ [x]) :=
  ⟨by simp [h.1], fun y hy => by
    rcases List.mem_append.1 hy with h1 | h1
    · exact h.2 y h1
    · simp only [List.mem_singleton] at h1; subst h1; rfl⟩
theorem CallsA.back {g : CM} {i : Nat} {x : Int × (Nat × CallE)} {r : List Assn} (h : g[i]? = some x) : Imp (pc x.2.1 132 (callC x.2.2) :: CallsA (g.eraseIdx i) :: r) (CallsA g :: r) := by
  have := CallsA.put (g := g) (r := r) x h
  rwa [set_same h] at this
end Go.SL
namespace Go.Proofs.Ytienlpaehgdpaaa
open Go Go.SL
attribute [local irreducible] pc rc SlT Me Mt It pt ro pur ex sep old Meets
attribute [local irreducible] CallsA CallerP
instance : KO Try.prog 3 i64 := ⟨KeyOk.int (k' := .i64) .i64 (by kernel_rfl)⟩
theorem rcIs_fn {b mb : Nat} {C : Clr} {F r : List Assn} [Hs : HP F b 104 (clrC C mb) r] : Meets Try.prog 52 [ptr b] F (Det (.bool true) F) := by
  refine Meets.intro b52 k52 (by simp) ?_
  focus
   refine zs <| zc rfl <| zc rfl <| zm rfl rfl (fun h1 => .fa' 4 rfl rfl) <| zm rfl rfl (fun h1 => by rw [h1]; exact .L rfl rfl) <| zm rfl rfl (fun h1 => by rw [h1]; exact .calc rfl) <| zy (.pickT rfl rfl) <| zd <| zr <| yR (.t rfl .nil) rfl (.of .rf)
theorem rcNew_ok (me : Ad) (n : Int) (F : List Assn) (h : 1 ≤ n ∧ n ≤ 1048576) : Meets Try.prog 17 [adv me, i64 n] F (Some' (fun _ : Nat => True) (fun b => .tuple #[ptr b, i64 0]) (fun b => CallerP b (Clr.new me n) :: F)) := by
  refine Meets.intro b17 k17 (by simp) ?_
  have hg : CM.of [] (Clr.new me n).L := ⟨rfl, fun y hy => by cases hy⟩
  refine J.imp CallsA.nil ?_
  focus
   refine zs <| yB rfl fun b2 => zc rfl <| zc rfl <| zy (.cltF rfl rfl (by omega)) <| yG rfl <| zy (.cgtF rfl rfl (by omega)) <| zy (.pickF rfl rfl) <| zd <| zq <| zu rfl <| zk ?_
   refine zs <| zw rfl rfl ?_
  refine JT.mkm i64 (fun x : Nat × CallE => ptr x.1) (fun b14 => ?_)
  focus
   refine zg rfl <| yB rfl fun b4 => zc rfl <| zd <| zr <| yQ _ (.t rfl (.t rfl .nil)) trivial rfl (.of (CallerP.fold .here .here (.there .here) (by first | assumption | omega | rfl | decide) (.d .rf)))
theorem rcNew_no (me : Ad) (n : Int) (F : List Assn) (h : ¬ (1 ≤ n ∧ n ≤ 1048576)) : Meets Try.prog 17 [adv me, i64 n] F (Det (.tuple #[.pointer none, i64 60]) F) := by
  refine Meets.intro b17 k17 (by simp) ?_
  focus
   refine zs <| yB rfl fun b2 => zc rfl <| zc rfl <| zj rfl rfl rfl <| zh rfl rfl (fun h1 => .int rfl rfl rfl) <| zy (.pickO rfl rfl rfl) <| zd <| zq <| zi rfl (fun h1 => ?_) (fun h1 => ?_)
   refine zs <| zc rfl <| zc rfl <| zd <| zr <| yR (.t rfl (.t rfl .nil)) rfl (.of (.d .rf))
   (exfalso; omega)
theorem rcAsk_P (b : Nat) (C : Clr) (to : Ad) (a : SL.Ask) (F : List Assn) (hC : C.Ok) : Meets Try.prog 25 [ptr b, adv to, askv a] (CallerP b C :: F) (Det (.tuple #[pkv (p0 (C.ask to a).2.1), i64 (C.ask to a).2.2]) (CallerP b (C.ask to a).1 :: F)) := by
  refine Meets.intro b25 k25 (by simp) ?_
  refine J.openClr Has.here (fun mb g hg => ?_)
  have hlen := CM.len hg
  have hlst := hC.lst
  by_cases h1 : a.ok
  · by_cases h2 : 256 ≤ C.L.length
    · have e : C.ask to a = (C, zPkt, 3) := by unfold Clr.ask; rw [if_neg (not_not_intro h1), if_pos h2]
      rw [e]
      focus
       refine zs <| yB rfl fun b4 => yB rfl fun b5 => yN fun b6 => zc rfl <| zd <| zq <| zb <| zs <| yD rfl rfl (.of .rf) rcIs_fn <| zc rfl <| zd ?_
       refine zu rfl <| zs <| zw rfl rfl <| yD rfl rfl (.of .rf) (mgCheckAsk_fn _ _) <| zj rfl rfl rfl <| zd <| zi rfl (fun h3 => ?_) (fun h3 => ?_)
       contradiction
       refine zs <| zfl rfl rfl rfl <| zy (.lM rfl) <| zy (.cgeT rfl rfl (by omega)) <| zd <| zt rfl <| zs <| zg rfl <| yW rfl rfl rfl rfl rfl <| zc rfl <| zd <| zr ?_
       refine yR (.w rfl rfl (.t rfl .nil)) rfl (.of (CallerP.fold (.there (.there (.there .here))) (.there (.there (.there .here))) (.there (.there (.there .here))) (by first | assumption | omega | rfl | decide) (.d (.d (.d .rf)))))
    · by_cases h3 : 4611686018427387904 ≤ C.last
      · have e : C.ask to a = (C, zPkt, 60) := by unfold Clr.ask; rw [if_neg (not_not_intro h1), if_neg h2, if_pos h3]
        rw [e]
        focus
         refine zs <| yB rfl fun b4 => yB rfl fun b5 => yN fun b6 => zc rfl <| zd <| zq <| zb <| zs <| yD rfl rfl (.of .rf) rcIs_fn <| zc rfl <| zd ?_
         refine zu rfl <| zs <| zw rfl rfl <| yD rfl rfl (.of .rf) (mgCheckAsk_fn _ _) <| zj rfl rfl rfl <| zd <| zi rfl (fun h4 => ?_) (fun h4 => ?_)
         contradiction
         refine zs <| zfl rfl rfl rfl <| zy (.lM rfl) <| zy (.cgeF rfl rfl (by omega)) <| zd <| zu rfl <| zs <| zfl rfl rfl rfl <| zy (.cgeT rfl rfl (by omega)) <| zd <| zt rfl <| zs ?_
         refine zg rfl <| yW rfl rfl rfl rfl rfl <| zc rfl <| zd <| zr <| yR (.w rfl rfl (.t rfl .nil)) rfl (.of (CallerP.fold (.there (.there (.there .here))) (.there (.there (.there .here))) (.there (.there (.there .here))) (by first | assumption | omega | rfl | decide) (.d (.d (.d .rf)))))
      · have e : C.ask to a = ({ C with last := C.last + 1, L := C.L ++ [⟨mkReq C to a, 0⟩] }, mkReq C to a, 0) := by unfold Clr.ask; rw [if_neg (not_not_intro h1), if_neg h2, if_neg h3]
        rw [e]
        have hn : aix g (C.last + 1) = none := by
          rw [CM.aix hg]
          cases hi : C.ix (C.last + 1) with
          | none => rfl
          | some i =>
            obtain ⟨q1, q2⟩ := Clr.ix_some hi
            have := (hC.rng _ (nth_mem q1)).2
            omega
        focus
         refine zs <| yB rfl fun b4 => yB rfl fun b5 => yN fun b6 => zc rfl <| zd <| zq <| zb <| zs <| yD rfl rfl (.of .rf) rcIs_fn <| zc rfl <| zd ?_
         refine zu rfl <| zs <| zw rfl rfl <| yD rfl rfl (.of .rf) (mgCheckAsk_fn _ _) <| zj rfl rfl rfl <| zd <| zi rfl (fun h4 => ?_) (fun h4 => ?_)
         contradiction
         refine zs <| zfl rfl rfl rfl <| zy (.lM rfl) <| zy (.cgeF rfl rfl (by omega)) <| zd <| zu rfl <| zs <| zfl rfl rfl rfl <| zy (.cgeF rfl rfl (by omega)) <| zd <| zu rfl <| zk ?_
         refine zs <| zfl rfl rfl rfl <| zy (.add rfl rfl (Wr.i64 (by omega) (by omega))) <| zf 3 rfl rfl <| yS rfl rfl rfl rfl rfl (Nat.le_of_ble_eq_true rfl) rfl <| zfw [_, _] rfl rfl rfl rfl <| zw rfl rfl <| zfl rfl rfl rfl <| zw rfl rfl <| zg rfl <| yN fun b8 => yW rfl rfl rfl rfl rfl ?_
         refine zfl rfl rfl rfl <| zfl rfl rfl rfl <| zw rfl rfl <| zg rfl <| yB rfl fun b60 => ?_
        refine JT.mu (v := (b60, (⟨mkReq C to a, 0⟩ : CallE))) rfl (by rfl) rfl ?_
        have ep : aput g (C.last + 1) (b60, (⟨mkReq C to a, 0⟩ : CallE)) = g ++ [(C.last + 1, (b60, ⟨mkReq C to a, 0⟩))] := by unfold aput; rw [hn]
        have hg2 : CM.of (g ++ [(C.last + 1, (b60, (⟨mkReq C to a, 0⟩ : CallE)))]) (C.L ++ [⟨mkReq C to a, 0⟩]) := CM.snoc hg b60 ⟨mkReq C to a, 0⟩
        rw [ep]
        refine JT.imp (Imp.trans (Imp.take (c := pc b60 132 (callC ⟨mkReq C to a, 0⟩)) (by (repeat (first | exact Has.here | assumption | apply Has.there))) (Imp.take (c := CallsA g) (by (repeat (first | exact Has.here | assumption | apply Has.there))) (Imp.refl _))) (CallsA.snoc (C.last + 1, (b60, (⟨mkReq C to a, 0⟩ : CallE))))) ?_
        focus
         refine zw rfl rfl <| yW rfl rfl rfl rfl rfl <| zc rfl <| zd <| zr <| yR (.w rfl rfl (.t rfl .nil)) rfl (.of (CallerP.fold (.there (.there (.there (.there .here)))) (.there (.there .here)) (.there .here) (by first | assumption | omega | rfl | decide) (.d (.d (.d (.d .rf))))))
  · have e : C.ask to a = (C, zPkt, 40) := by unfold Clr.ask; rw [if_pos h1]
    rw [e]
    focus
     refine zs <| yB rfl fun b4 => yB rfl fun b5 => yN fun b6 => zc rfl <| zd <| zq <| zb <| zs <| yD rfl rfl (.of .rf) rcIs_fn <| zc rfl <| zd ?_
     refine zu rfl <| zs <| zw rfl rfl <| yD rfl rfl (.of .rf) (mgCheckAsk_fn _ _) <| zj rfl rfl rfl <| zd <| zi rfl (fun h2 => ?_) (fun h2 => ?_)
     refine zs <| zg rfl <| yW rfl rfl rfl rfl rfl <| zc rfl <| zd <| zr <| yR (.w rfl rfl (.t rfl .nil)) rfl (.of (CallerP.fold (.there (.there (.there .here))) (.there (.there (.there .here))) (.there (.there (.there .here))) (by first | assumption | omega | rfl | decide) (.d (.d (.d .rf)))))
     contradiction
theorem rcEnd_P (b : Nat) (C : Clr) (id : Int) (F : List Assn) : Meets Try.prog 27 [ptr b, i64 id] (CallerP b C :: F) (Det (.tuple #[pkv (p0 (C.fin id).2.1), .bool (C.fin id).2.2]) (CallerP b (C.fin id).1 :: F)) := by
  refine Meets.intro b27 k27 (by simp) ?_
  refine J.openClr Has.here (fun mb g hg => ?_)
  cases hi : C.ix id with
  | none =>
    have e : C.fin id = (C, zPkt, false) := by unfold Clr.fin; rw [hi]
    have hk := CM.no hg hi
    rw [e]
    focus
     refine zs <| yN fun b4 => zc rfl <| yD rfl rfl (.of .rf) rcIs_fn <| zc rfl <| zd <| zq <| zu rfl <| zk <| zs <| zfl rfl rfl rfl <| JT.lk2n rfl (by rfl) (by assumption) ?_
     refine zc rfl <| zc rfl <| zc rfl <| zc rfl <| zd <| zq <| zt rfl <| zs <| zg rfl <| yW rfl rfl rfl rfl rfl <| zc rfl <| zd ?_
     refine zr <| yR (.w rfl rfl (.t rfl .nil)) rfl (.of (CallerP.fold (.there .here) (.there .here) (.there .here) (by first | assumption | omega | rfl | decide) (.d .rf)))
  | some i =>
    have e : C.fin id = ({ C with L := C.L.eraseIdx i }, (nth C.L i).p, true) := by unfold Clr.fin; rw [hi]
    obtain ⟨q, hget, hk⟩ := CM.at hg hi
    have hd : adel g id = g.eraseIdx i := by unfold adel; rw [CM.aix hg, hi]
    have hg2 := CM.erase hg i
    rw [e]
    refine J.imp (Imp.trans (Imp.take (c := CallsA g) (by (repeat (first | exact Has.here | assumption | apply Has.there))) (Imp.refl _)) (CallsA.take hget)) ?_
    focus
     refine zs <| yN fun b4 => zc rfl <| yD rfl rfl (.of .rf) rcIs_fn <| zc rfl <| zd <| zq <| zu rfl <| zk <| zs <| zfl rfl rfl rfl <| JT.lk2s rfl (by rfl) (by assumption) ?_
     refine zc rfl <| zc rfl <| zc rfl <| zc rfl <| zd <| zq <| zu rfl <| zk <| zs <| zfl rfl rfl rfl <| JT.dl rfl (by rfl) ?_
     refine zfw [_, _, _, _, _, _, _, _, _, _, _, _, _, _, _, _, _, _, _, _, _, _, _, _, _, _, _, _, _, _, _, _, _, _] rfl rfl rfl rfl <| yW rfl rfl rfl rfl rfl <| zc rfl <| zd <| zr ?_
    rw [hd]
    focus
     refine yR (.w rfl rfl (.t rfl .nil)) rfl (.of (CallerP.fold (.there (.there (.there (.there .here)))) (.there .here) (.there (.there .here)) (by first | assumption | omega | rfl | decide) (.d (.d .rf))))
theorem rcTake_P (b : Nat) (C : Clr) (x : PktE) (F : List Assn) [H1 : HS F (.slice x.a x.p.ans.value.length x.c) UInt8 byteC 1 x.c x.p.ans.value] : Meets Try.prog 41 [ptr b, pkv x] (CallerP b C :: F) (Det (.tuple #[pkv (p0 (C.take x.p).2.1), .bool (C.take x.p).2.2]) (CallerP b (C.take x.p).1 :: F)) := by
  refine Meets.intro b41 k41 (by simp) ?_
  refine J.openClr Has.here (fun mb g hg => ?_)
  by_cases hc : x.p.ok ∧ x.p.reply = true ∧ x.p.dst = C.me
  · obtain ⟨h1, h2, h3⟩ := hc
    cases hi : C.ix x.p.id with
    | none =>
      have e : C.take x.p = (C, zPkt, false) := by unfold Clr.take; rw [if_pos ⟨h1, h2, h3⟩, hi]
      have hk := CM.no hg hi
      rw [e]
      focus
       refine zs <| yB rfl fun b3 => yN fun b4 => zc rfl <| yD rfl rfl (.of .rf) rcIs_fn <| zc rfl <| yG rfl <| zw rfl rfl <| yG rfl <| yD rfl rfl (.of .rf) (mgCheck_fn _) <| yG rfl <| zj rfl rfl rfl ?_
       refine zy (.pickF rfl rfl) <| yF rfl (by assumption) <| zf 0 rfl rfl <| yF rfl (by assumption) <| zl rfl rfl <| yF rfl (by assumption) <| zc rfl <| zy (.pickFp rfl (by assumption) rfl) <| yF rfl (by assumption) <| zf 3 rfl rfl <| yF rfl (by assumption) <| zy (.Lf rfl (Nat.le_of_ble_eq_true rfl)) ?_
       refine yF rfl (by assumption) <| zf 0 rfl rfl <| yF rfl (by assumption) <| zy (.Lp (us := [_, _]) rfl (Nat.le_of_ble_eq_true rfl) rfl) <| yF rfl (by assumption) <| zy (.neTf rfl rfl (by assumption)) <| zy (.pickFp rfl (by assumption) rfl) <| zd <| zq <| zu rfl <| zk <| zs ?_
       refine zfl rfl rfl rfl <| zfl rfl rfl rfl <| JT.lk2n rfl (by rfl) (by assumption) ?_
       refine zc rfl <| zc rfl <| zc rfl <| zv rfl rfl <| zv rfl rfl <| zv rfl rfl <| zv rfl rfl <| zv rfl rfl <| zv rfl rfl <| zy (.pickT rfl rfl) <| zd <| zq ?_
       refine zt rfl <| zs <| zg rfl <| yW rfl rfl rfl rfl rfl <| zc rfl <| zd <| zr <| yR (.w rfl rfl (.t rfl .nil)) rfl (.of (CallerP.fold (.there (.there .here)) (.there (.there .here)) (.there (.there .here)) (by first | assumption | omega | rfl | decide) (.d (.d .rf))))
    | some i =>
      obtain ⟨q, hget, hk⟩ := CM.at hg hi
      refine J.imp (Imp.trans (Imp.take (c := CallsA g) (by (repeat (first | exact Has.here | assumption | apply Has.there))) (Imp.refl _)) (CallsA.take hget)) ?_
      by_cases h4 : (nth C.L i).p.dst = x.p.src
      · have e : C.take x.p = C.fin x.p.id := by unfold Clr.take; rw [if_pos ⟨h1, h2, h3⟩, hi]; simp only; rw [if_pos h4]
        rw [e]
        focus
         refine zs <| yB rfl fun b3 => yN fun b4 => zc rfl <| yD rfl rfl (.of .rf) rcIs_fn <| zc rfl <| yG rfl <| zw rfl rfl <| yG rfl <| yD rfl rfl (.of .rf) (mgCheck_fn _) <| yG rfl <| zj rfl rfl rfl ?_
         refine zy (.pickF rfl rfl) <| yF rfl (by assumption) <| zf 0 rfl rfl <| yF rfl (by assumption) <| zl rfl rfl <| yF rfl (by assumption) <| zc rfl <| zy (.pickFp rfl (by assumption) rfl) <| yF rfl (by assumption) <| zf 3 rfl rfl <| yF rfl (by assumption) <| zy (.Lf rfl (Nat.le_of_ble_eq_true rfl)) ?_
         refine yF rfl (by assumption) <| zf 0 rfl rfl <| yF rfl (by assumption) <| zy (.Lp (us := [_, _]) rfl (Nat.le_of_ble_eq_true rfl) rfl) <| yF rfl (by assumption) <| zy (.neTf rfl rfl (by assumption)) <| zy (.pickFp rfl (by assumption) rfl) <| zd <| zq <| zu rfl <| zk <| zs ?_
         refine zfl rfl rfl rfl <| zfl rfl rfl rfl <| JT.lk2s rfl (by rfl) (by assumption) ?_
         refine zc rfl <| zc rfl <| zc rfl <| yG rfl <| zf 0 rfl rfl <| yG rfl <| zf 3 rfl rfl <| yG rfl <| zy (.Lf rfl (Nat.le_of_ble_eq_true rfl)) <| yG rfl <| zf 1 rfl rfl <| yG rfl ?_
         refine zy (.Lf rfl (Nat.le_of_ble_eq_true rfl)) <| yG rfl ?_
         refine zy (.neTf rfl rfl (by assumption)) <| zy (.pickF rfl rfl) <| zd <| zq <| zu rfl <| zk <| zs <| zfl rfl rfl rfl ?_
        refine JT.imp (Imp.trans (Imp.take (c := pc q 132 (callC (nth C.L i))) (by (repeat (first | exact Has.here | assumption | apply Has.there))) (Imp.take (c := CallsA (g.eraseIdx i)) (by (repeat (first | exact Has.here | assumption | apply Has.there))) (Imp.refl _))) (CallsA.back hget)) ?_
        focus
         refine yD rfl rfl (.of (CallerP.fold (.there (.there (.there .here))) (.there (.there (.there .here))) .here (by first | assumption | omega | rfl | decide) .rf)) (rcEnd_P _ _ _ _) ?_
         refine zc rfl <| zc rfl <| yW rfl rfl rfl rfl rfl <| zc rfl <| zd <| zr <| yR (.w rfl rfl (.t rfl .nil)) rfl (.of (.t1 (.d (.d .rf))))
      · have e : C.take x.p = (C, zPkt, false) := by unfold Clr.take; rw [if_pos ⟨h1, h2, h3⟩, hi]; simp only; rw [if_neg h4]
        rw [e]
        focus
         refine zs <| yB rfl fun b3 => yN fun b4 => zc rfl <| yD rfl rfl (.of .rf) rcIs_fn <| zc rfl <| yG rfl <| zw rfl rfl <| yG rfl <| yD rfl rfl (.of .rf) (mgCheck_fn _) <| yG rfl <| zj rfl rfl rfl ?_
         refine zy (.pickF rfl rfl) <| yF rfl (by assumption) <| zf 0 rfl rfl <| yF rfl (by assumption) <| zl rfl rfl <| yF rfl (by assumption) <| zc rfl <| zy (.pickFp rfl (by assumption) rfl) <| yF rfl (by assumption) <| zf 3 rfl rfl <| yF rfl (by assumption) <| zy (.Lf rfl (Nat.le_of_ble_eq_true rfl)) ?_
         refine yF rfl (by assumption) <| zf 0 rfl rfl <| yF rfl (by assumption) <| zy (.Lp (us := [_, _]) rfl (Nat.le_of_ble_eq_true rfl) rfl) <| yF rfl (by assumption) <| zy (.neTf rfl rfl (by assumption)) <| zy (.pickFp rfl (by assumption) rfl) <| zd <| zq <| zu rfl <| zk <| zs ?_
         refine zfl rfl rfl rfl <| zfl rfl rfl rfl <| JT.lk2s rfl (by rfl) (by assumption) ?_
         refine zc rfl <| zc rfl <| zc rfl <| yG rfl <| zf 0 rfl rfl <| yG rfl <| zf 3 rfl rfl <| yG rfl <| zy (.Lf rfl (Nat.le_of_ble_eq_true rfl)) <| yG rfl <| zf 1 rfl rfl <| yG rfl ?_
         refine zy (.Lf rfl (Nat.le_of_ble_eq_true rfl)) <| yG rfl ?_
         refine zy (.neTt rfl rfl (by assumption)) <| zy (.pickF rfl rfl) <| zd <| zq <| zt rfl <| zs <| zg rfl <| yW rfl rfl rfl rfl rfl <| zc rfl <| zd <| zr <| seqQ_r ?_
        refine retQ_up (Up.of (Imp.trans (Imp.take (c := pc q 132 (callC (nth C.L i))) (by (repeat (first | exact Has.here | assumption | apply Has.there))) (Imp.take (c := CallsA (g.eraseIdx i)) (by (repeat (first | exact Has.here | assumption | apply Has.there))) (Imp.refl _))) (CallsA.back hget))) ?_
        focus
         refine yR (.w rfl rfl (.t rfl .nil)) rfl (.of (CallerP.fold (.there (.there (.there .here))) (.there (.there (.there .here))) .here (by first | assumption | omega | rfl | decide) (.d (.d .rf))))
  · have e : C.take x.p = (C, zPkt, false) := by unfold Clr.take; rw [if_neg hc]
    rw [e]
    focus
     refine zs <| yB rfl fun b3 => yN fun b4 => zc rfl <| yD rfl rfl (.of .rf) rcIs_fn <| zc rfl <| yG rfl <| zw rfl rfl <| yG rfl <| yD rfl rfl (.of .rf) (mgCheck_fn _) <| yG rfl <| zj rfl rfl rfl ?_
     refine zy (.pickF rfl rfl) <| zh rfl rfl (fun h1 => .fa' 0 rfl rfl) <| zh rfl rfl (fun h1 => by rw [h1]; exact .L rfl rfl) <| zh rfl rfl (fun h1 => by rw [h1]; exact .calc rfl) <| zy (.pickO rfl rfl rfl) <| zh rfl rfl (fun h1 => .fa' 3 rfl rfl) <| zh rfl rfl (fun h1 => by rw [h1]; exact .Lf rfl (Nat.le_of_ble_eq_true rfl)) <| zh rfl rfl (fun h1 => .fa' 0 rfl rfl) <| zh rfl rfl (fun h1 => by rw [h1]; exact .Lp (us := [_, _]) rfl (Nat.le_of_ble_eq_true rfl) rfl) <| zh rfl rfl (fun h1 => by rw [h1]; exact .neT rfl rfl) <| zy (.pickO rfl rfl rfl) <| zd ?_
     refine zq <| zi rfl (fun h1 => ?_) (fun h1 => ?_)
     refine zs <| zg rfl <| yW rfl rfl rfl rfl rfl <| zc rfl <| zd <| zr <| yR (.w rfl rfl (.t rfl .nil)) rfl (.of (CallerP.fold (.there (.there .here)) (.there (.there .here)) (.there (.there .here)) (by first | assumption | omega | rfl | decide) (.d (.d .rf))))
     refine zk <| zs <| zfl rfl rfl rfl <| zfl rfl rfl rfl <| JT.lk2 rfl (by rfl) (fun v38 h2 => ?_) (fun h2 => ?_)
     refine zc rfl <| zc rfl <| zc rfl <| yG rfl <| zf 0 rfl rfl <| yG rfl <| zf 3 rfl rfl <| yG rfl ?_
     rotate_left
     refine zc rfl <| zc rfl <| zc rfl <| zv rfl rfl <| zv rfl rfl <| zv rfl rfl <| zv rfl rfl <| zv rfl rfl <| zv rfl rfl <| zy (.pickT rfl rfl) <| zd <| zq ?_
     refine zt rfl <| zs <| zg rfl <| yW rfl rfl rfl rfl rfl <| zc rfl <| zd <| zr <| yR (.w rfl rfl (.t rfl .nil)) rfl (.of (CallerP.fold (.there (.there .here)) (.there (.there .here)) (.there (.there .here)) (by first | assumption | omega | rfl | decide) (.d (.d .rf))))
    exact absurd ⟨h1.1.1, h1.1.2, h1.2⟩ hc
theorem rcSorted1_fn {p q : Nat} {x y : CallE} {F r r2 : List Assn} (H1 : Has F (rc p 132 (callC x)) r) (H2 : Has F (rc q 132 (callC y)) r2) (hx : 0 ≤ x.p.id) (hy : 0 ≤ y.p.id) (hx2 : x.p.id ≤ 4611686018427387904) (hy2 : y.p.id ≤ 4611686018427387904) :
    Meets Try.prog 83 [ptr p, ptr q] F (Det (i64 (x.p.id - y.p.id)) F) := by
  refine Meets.intro b83 k83 (by simp) ?_
  focus
   refine zs <| zc rfl <| zf 0 rfl rfl <| zf 5 rfl rfl ?_
  refine JT.q (Ev.ldR (l := callC x) rfl H1 rfl) ?_
  focus
   refine zf 0 rfl rfl <| zf 5 rfl rfl ?_
  refine JT.q (Ev.ldR (l := callC y) rfl H2 rfl) ?_
  focus
   refine zy (.sub rfl rfl (Wr.i64 (by omega) (by omega))) <| zd <| zr <| yR (.t rfl .nil) rfl (.of .rf)
end Go.Proofs.Ytienlpaehgdpaaa

set_option linter.unusedSimpArgs false
set_option linter.unusedVariables false
set_option maxRecDepth 100000
set_option maxHeartbeats 4000000
namespace Go.SL
open Go
def ptrC (p : Nat) : List Value := [ptr p]
theorem ptrC_one : ∀ o : Nat, (ptrC o).length = 1 ∧ ∀ v ∈ ptrC o, isOne v = true := by intro o; simp [ptrC, isOne]
/-- A call's pointer, told by its place. -/
def CM.pt (g : CM) (j : Nat) : Nat := (nth g (j % g.length)).2.1
def CM.id (g : CM) (j : Nat) : Int := (nth g (j % g.length)).2.2.p.id
def CM.enc (g : CM) (j : Nat) : List Value := [ptr (g.pt j)]
theorem CM.enc_one (g : CM) : ∀ j : Nat, (g.enc j).length = 1 ∧ ∀ v ∈ g.enc j, isOne v = true := by intro o; simp [CM.enc, isOne]
theorem CM.pt_lt {g : CM} {j : Nat} (h : j < g.length) : g.pt j = (g.map (·.2.1))[j]'(by simpa using h) := by
  unfold CM.pt; rw [Nat.mod_eq_of_lt h, nth_eq h]; simp
theorem range_pts (g : CM) : (List.range g.length).map g.enc = (g.map (·.2.1)).map ptrC := by
  apply List.ext_getElem
  · simp
  · intro i h1 h2
    have hi : i < g.length := by simpa using h1
    simp only [List.getElem_map, List.getElem_range, CM.enc, ptrC, CM.pt_lt hi]
/-- A row of other things with the same cells. -/
theorem SlT.re {α β : Type} {m : Bool} {enc : α → List Value} {enc' : β → List Value} {sz c : Nat} {sv : Value} {xs : List α} (ys : List β) (e : ys.map enc' = xs.map enc) {r : List Assn} : Imp (SlT m enc sz sv c xs :: r) (SlT m enc' sz sv c ys :: r) := by
  have : SlT m enc sz sv c xs = SlT m enc' sz sv c ys := by unfold SlT; simp only [e]
  rw [this]; exact Imp.refl _
theorem sorted_range {g : CM} {L : List CallE} (h : CM.of g L) (hs : L.Pairwise (fun x y => x.p.id < y.p.id)) {d ys : List Nat} (hd1 : d.Nodup) (hd2 : ∀ j ∈ d, j < g.length) (ha : ∀ j, j < g.length → j ∈ d) (hp : ys.Perm d) (hq : ys.Pairwise (fun x y => ¬ g.id y - g.id x < 0)) : ys = List.range g.length := by
  have hr : d.Perm (List.range g.length) := by
    rw [List.perm_ext_iff_of_nodup hd1 List.nodup_range]
    intro i; rw [List.mem_range]; exact ⟨hd2 i, ha i⟩
  have hid : ∀ i j, i < j → j < g.length → g.id i < g.id j := by
    intro i j hij hj
    have hi : i < g.length := by omega
    unfold CM.id
    rw [Nat.mod_eq_of_lt hi, Nat.mod_eq_of_lt hj, nth_eq hi, nth_eq hj]
    rw [← h.1, List.pairwise_map, List.pairwise_iff_getElem] at hs
    exact hs i j hi hj hij
  refine List.Perm.eq_of_pairwise (le := fun x y => ¬ g.id y - g.id x < 0) (fun x y hx hy h1 h2 => ?_) hq ?_ (hp.trans hr)
  · have hx' : x < g.length := hd2 x (hp.mem_iff.1 hx)
    have hy' : y < g.length := List.mem_range.1 hy
    rcases Nat.lt_trichotomy x y with h3 | h3 | h3
    · have := hid x y h3 hy'; omega
    · exact h3
    · have := hid y x h3 hx'; omega
  · refine List.Pairwise.imp_of_mem ?_ List.pairwise_lt_range
    intro a b ha hb hab
    have := hid a b hab (List.mem_range.1 hb)
    omega
theorem Ev.rem {P : Program} {ρ : Env} {cs : List Assn} {x y : Operand} {k : IntKind} {n m : Int} (hx : ρ.ev x = some (.int k n)) (hy : ρ.ev y = some (.int k m)) (h : m ≠ 0) : Ev P (.bini .rem x y) ρ cs (.int k (n.tmod m)) := Ev.int hx hy (by simp [intBin, h])
theorem Mt.re {κ β γ : Type} {b : Nat} {ke : κ → Value} {ve : β → Value} {ve' : γ → Value} {m : List (κ × β)} (m' : List (κ × γ)) (e : m'.map (fun x => (ke x.1, ve' x.2)) = m.map (fun x => (ke x.1, ve x.2))) {r : List Assn} : Imp (Mt b ke ve m :: r) (Mt b ke ve' m' :: r) := by
  have : Mt b ke ve m = Mt b ke ve' m' := by unfold Mt Me; simp only [e]
  rw [this]; exact Imp.refl _
theorem CM.setAt {g : CM} {A B : List CallE} {x x' : CallE} {y : Int × (Nat × CallE)} {i : Nat} (h : CM.of g (A ++ x :: B)) (hi : A.length = i) (hy : g[i]? = some y) (e : x'.p.id = x.p.id) : CM.of (g.set i (y.1, (y.2.1, x'))) (A ++ x' :: B) := by
  have hm : y ∈ g := List.mem_of_getElem? hy
  have hx : y.2.2 = x := by
    have h1 : (g.map (fun z => z.2.2))[i]? = some y.2.2 := by rw [List.getElem?_map, hy]; rfl
    rw [h.1, List.getElem?_append_right (by omega), hi, Nat.sub_self] at h1
    simpa using h1.symm
  refine ⟨?_, fun z hz => ?_⟩
  · rw [List.map_set, h.1, ← hi]; simp
  · rcases List.mem_or_eq_of_mem_set hz with h1 | rfl
    · exact h.2 z h1
    · simp only; rw [e, ← hx]; exact h.2 y hm
end Go.SL
namespace Go.Proofs.Ytienlpaehgdpaaa
open Go Go.SL Go.Sort Go.Lib Go.Shelf
attribute [local irreducible] pc rc SlT Me Mt It pt ro pur ex sep old Meets
attribute [local irreducible] CallsA CallerP
instance : TE 130 Nat ptrC 1 := ⟨ptrC_one, by decide⟩
theorem idcmp_swo (g : CM) : SWO (ltOf fun (x y : Nat) => g.id x - g.id y) where
  irrefl x := by simp only [ltOf, decide_eq_false_iff_not]; omega
  trans x y z h1 h2 := by simp only [ltOf, decide_eq_true_eq] at *; omega
  ntrans x y z h1 h2 := by simp only [ltOf, decide_eq_true_eq, decide_eq_false_iff_not] at *; omega
theorem rcSorted1_cmp {g : CM} {C : Clr} {F : List Assn} (hg : CM.of g C.L) (hC : C.Ok) (hn : 0 < g.length) : CmpFn1 Try.prog 83 [] (fun j => ptr (g.pt j)) (fun x y => g.id x - g.id y) (CallsA g :: F) := by
  intro h x y hs
  have hget : ∀ j : Nat, h[g.pt j]? = some (.cells (callC (nth g (j % g.length)).2.2).toArray 132 (0, 0)) ∧ 0 ≤ g.id j ∧ g.id j ≤ 4611686018427387904 := by
    intro j
    have hj : j % g.length < g.length := Nat.mod_lt _ hn
    have h1 : g[j % g.length]? = some (nth g (j % g.length)) := by rw [nth_eq hj]; exact List.getElem?_eq_getElem hj
    have h2 := (hs.imp (CallsA.take h1))
    have h3 := Sat.pc h2 Has.here
    have hm : (nth g (j % g.length)).2.2 ∈ C.L := by rw [← hg.1]; exact List.mem_map.2 ⟨_, nth_mem hj, rfl⟩
    have := hC.rng _ hm
    have := hC.lst
    exact ⟨h3, by unfold CM.id; omega, by unfold CM.id; omega⟩
  obtain ⟨x1, x2, x3⟩ := hget x
  obtain ⟨y1, y2, y3⟩ := hget y
  have hM := rcSorted1_fn (F := [rc (g.pt x) 132 (callC (nth g (x % g.length)).2.2), rc (g.pt y) 132 (callC (nth g (y % g.length)).2.2), old h]) Has.here (Has.there Has.here) x2 y2 x3 y3
  refine Meets.post (Meets.up (Up.of (Imp.trans (old_rc y1) (Imp.trans (Imp.cons (old_rc x1)) Imp.swap))) hM) ?_
  rintro v c ⟨rfl, rfl⟩
  exact ⟨_, Up.of (Imp.trans Imp.drop Imp.drop), rfl, rfl⟩
shelf_lay_g SlLaysF.n6 Slsf 6 at Try 82 as sortK
theorem slSortK_fn {g : CM} {C : Clr} (hg : CM.of g C.L) (hC : C.Ok) (hn : 0 < g.length) (xs : List Nat) (a : Option Addr) (c : Nat) (F : List Assn) : Meets Try.prog 82 [.slice a xs.length c, .func (.func 83) #[] #[]] (SlT true g.enc 1 (.slice a xs.length c) c xs :: CallsA g :: F)
    (Some' (fun ys : List Nat => ys.Perm xs ∧ ys.Pairwise (fun x y => ¬ g.id y - g.id x < 0)) (fun _ => .tuple #[]) (fun ys => SlT true g.enc 1 (.slice a ys.length c) c ys :: CallsA g :: F)) :=
  sort_meets1 sortK (e1 := fun j => ptr (g.pt j)) (fun _ => rfl) (idcmp_swo g) (g := 83) k83 (cb := []) (rcSorted1_cmp hg hC hn) (by kernel_rfl)
theorem rcSorted_fn {b mb : Nat} {g : CM} {C : Clr} (F : List Assn) (hg : CM.of g C.L) (hC : C.Ok) : Meets Try.prog 53 [ptr b] (pc b 104 (clrC C mb) :: MtC mb g :: CallsA g :: F)
    (Some' (fun _ : Option Addr × Nat => True) (fun x => .slice x.1 (g.map (·.2.1)).length x.2) (fun x => SlT true ptrC 1 (.slice x.1 (g.map (·.2.1)).length x.2) x.2 (g.map (·.2.1)) :: pc b 104 (clrC C mb) :: MtC mb g :: CallsA g :: F)) := by
  refine Meets.intro b53 k53 (by simp) ?_
  have hlen := CM.len hg
  have hl256 := hC.len
  focus
   refine zs <| zc rfl <| zc rfl <| zfl rfl rfl rfl ?_
  refine JT.openM (by (repeat (first | exact Has.here | assumption | apply Has.there))) (fun es c => ?_)
  refine JT.rng rfl Has.here (fun it => ?_)
  focus
   refine zd <| zq <| zb ?_
  refine J.lp (ι := List Nat × Option Addr × Nat) (fun i => i.1.Nodup ∧ (∀ j ∈ i.1, j < g.length)) (fun i => [(3, .slice i.2.1 i.1.length i.2.2)])
    (fun i => It it mb c es i.1 :: Me mb es c i64 (fun x : Nat × CallE => ptr x.1) g :: pc b 104 (clrC C mb) :: CallsA g :: SlT true g.enc 1 (.slice i.2.1 i.1.length i.2.2) i.2.2 i.1 :: F)
    (fun i => g.length - i.1.length) ([], none, 0) ⟨by simp, by simp⟩ (by exact subxR rfl) (Up.nilS (enc := g.enc) (sz := 1) true (by decide) (.of (.t1 (.t1 (.t1 (.t1 (.t0 .rf))))))) (fun i hi => ?_)
  obtain ⟨d, a3, c3⟩ := i
  obtain ⟨hd1, hd2⟩ := hi
  simp only at hd1 hd2 ⊢
  have hdl := nodup_lt2 hd1 hd2
  refine zs ?_
  refine JT.nxt rfl Has.here Has.here (fun i hi hni => ?_) (fun hall => ?_)
  · have hpt : ptr (g[i]).2.1 = ptr (g.pt i) := by unfold CM.pt; rw [Nat.mod_eq_of_lt hi, nth_eq hi]
    have hd3 : (d ++ [i]).Nodup := by
      rw [List.nodup_append]; exact ⟨hd1, by simp, fun a ha b hb => by simp at hb; subst hb; rintro rfl; exact hni ha⟩
    have hd4 : ∀ j ∈ d ++ [i], j < g.length := by
      intro j hj
      rcases List.mem_append.1 hj with hj | hj
      · exact hd2 j hj
      · simp at hj; omega
    have hdl2 := nodup_lt2 hd3 hd4
    simp only [List.length_append, List.length_cons, List.length_nil] at hdl2
    focus
     refine zc rfl <| zd <| zq <| zt rfl <| zk <| zb <| zo ?_
    refine JT.ent rfl Has.here Has.here hi ?_
    focus
     refine zc rfl <| JT.bsl1 (by repeat (first | exact Cells.nil | apply Cells.z | (apply Cells.cl; rfl; rfl; rfl))) (by simp only [List.length_cons, List.length_nil, Nat.reduceAdd]; rfl) (by decide) (by rfl) fun a17 => ?_
    refine JT.A1 (v := i) rfl rfl (congrArg (fun z => [z]) hpt) rfl (by decide) (by omega) (fun a3' c3' hc3 => ?_)
    focus
     refine zd <| ⟨⟨_, ⟨_, _⟩⟩, ?_, ?_, (subxR rfl), (.of (.t2 (.t2 (.t2 (.t2 (.t0 (.d .rf)))))))⟩
     exact ⟨by omega, by assumption⟩
    simp only [List.length_append, List.length_cons, List.length_nil]; omega
  · by_cases hn : 0 < g.length
    · have hS := fun (a : Option Addr) (c : Nat) (F : List Assn) => slSortK_fn hg hC hn d a c F
      focus
       refine zc rfl <| zd <| zq <| zu rfl <| zx <| zs <| yE rfl rfl (.of (.t4 (.t3 .rf))) (hS _ _ _) fun x20 hx20 => zc rfl <| zd <| zr ?_
      have e := sorted_range hg hC.srt hd1 hd2 hall hx20.1 hx20.2
      subst e
      have hl : d.length = (g.map (·.2.1)).length := by rw [← hx20.1.length_eq]; simp
      have hl2 : (List.range g.length).length = (g.map (·.2.1)).length := by simp
      rw [hl, hl2]
      refine retQ_up (Up.of (Imp.trans (Imp.take (c := SlT true g.enc 1 (.slice a3 (g.map (·.2.1)).length c3) c3 (List.range g.length)) (by (repeat (first | exact Has.here | assumption | apply Has.there))) (Imp.refl _)) (SlT.re (g.map (·.2.1)) (range_pts g).symm))) ?_
      refine retQ_up (Up.of (Imp.me (by (repeat (first | exact Has.here | assumption | apply Has.there)) : Has _ (Me mb es c i64 (fun x : Nat × CallE => ptr x.1) g) _) (Imp.refl _))) ?_
      exact retQS (a3, c3) (.t rfl .nil) trivial rfl (.of (.t1 (.t3 (.t0 (.t0 (.d .rf))))))
    · obtain rfl : g = [] := List.eq_nil_of_length_eq_zero (by omega)
      obtain rfl : d = [] := by
        cases d with
        | nil => rfl
        | cons x r => have := hd2 x (by simp); simp at this
      have hS : ∀ F : List Assn, Meets Try.prog 82 [.slice a3 ([] : List Nat).length c3, .func (.func 83) #[] #[]] F (Det (.tuple #[]) F) := fun F => sort_meets0 (F := F) (P := Try.prog) { sortK with } (by kernel_rfl) (.func (.func 83) #[] #[]) a3 c3
      focus
       refine zc rfl <| zd <| zq <| zu rfl <| zx <| zs <| yD rfl rfl (.of .rf) (hS _) <| zc rfl <| zd <| zr ?_
      refine retQ_up (Up.of (Imp.trans (Imp.take (c := SlT true (CM.enc []) 1 (.slice a3 ([] : List Nat).length c3) c3 []) (by (repeat (first | exact Has.here | assumption | apply Has.there))) (Imp.refl _)) (SlT.re (enc := CM.enc []) (enc' := ptrC) (xs := []) ([] : List Nat) rfl))) ?_
      refine retQ_up (Up.of (Imp.me (by (repeat (first | exact Has.here | assumption | apply Has.there)) : Has _ (Me mb es c i64 (fun x : Nat × CallE => ptr x.1) []) _) (Imp.refl _))) ?_
      exact retQS (a3, c3) (.t rfl .nil) trivial rfl (.of (.t1 (.t2 (.t0 (.t1 (.d .rf))))))
theorem rcOpen_P (b : Nat) (C : Clr) (F : List Assn) (hC : C.Ok) : Meets Try.prog 22 [ptr b] (CallerP b C :: F)
    (Some' (fun _ : Option Addr × Nat => True) (fun x => .slice x.1 (C.opn.map p0).length x.2) (fun x => SlT true pktEC 34 (.slice x.1 (C.opn.map p0).length x.2) x.2 (C.opn.map p0) :: CallerP b C :: F)) := by
  refine Meets.intro b22 k22 (by simp) ?_
  refine J.openClr Has.here (fun mb g hg => ?_)
  have hlen := CM.len hg
  have hl256 := hC.len
  have hS := fun F => rcSorted_fn (b := b) (mb := mb) F hg hC
  focus
   refine zs <| zc rfl <| yD rfl rfl (.of .rf) rcIs_fn <| zc rfl <| zd <| zq <| zu rfl <| zk <| zs <| zc rfl <| yE rfl rfl (.of (.t0 (.t0 (.t0 .rf)))) (hS _) fun ⟨a10, c10⟩ _ => zc rfl ?_
   refine zc rfl <| zd <| zq <| zb ?_
  refine J.lp (ι := Nat × Option Addr × Nat × List PktE) (fun i => i.1 ≤ C.L.length ∧ i.2.2.2 = (C.L.take i.1).map (fun x => p0 x.p)) (fun i => [(3, .slice i.2.1 i.2.2.2.length i.2.2.1), (12, i64 (i.1 : Int))])
    (fun i => SlT true pktEC 34 (.slice i.2.1 i.2.2.2.length i.2.2.1) i.2.2.1 i.2.2.2 :: SlT true ptrC 1 (.slice a10 (g.map (·.2.1)).length c10) c10 (g.map (·.2.1)) :: pc b 104 (clrC C mb) :: MtC mb g :: CallsA g :: F)
    (fun i => C.L.length - i.1) (0, none, 0, []) ⟨by simp, by simp⟩ (by exact subxR rfl) (Up.nilS (enc := pktEC) (sz := 34) true (by decide) (.of (.t0 (.t0 (.t0 (.t0 (.t0 .rf))))))) (fun i hi => ?_)
  obtain ⟨i, a3, c3, xs⟩ := i
  obtain ⟨hi, hxs⟩ := hi
  dsimp only at hi hxs ⊢
  have hml : (g.map (fun x => x.2.1)).length = C.L.length := by simp [hlen]
  have hxl : xs.length = i := by rw [hxs]; simp; omega
  by_cases hlt : i < C.L.length
  · have hgi : i < g.length := by omega
    have hget : g[i]? = some g[i] := List.getElem?_eq_getElem hgi
    have hq : nth (g.map (fun x => x.2.1)) i = (g[i]).2.1 := by rw [nth_eq (by simpa using hgi)]; simp
    have hx : (g[i]).2.2 = nth C.L i := by
      rw [nth_eq hlt]
      have : (g.map (fun y => y.2.2))[i]'(by simpa using hgi) = (g[i]).2.2 := by simp
      rw [← this]; simp only [hg.1]
    have hsn : (C.L.take (i + 1)).map (fun x => p0 x.p) = xs ++ [p0 (nth C.L i).p] := by
      rw [List.take_add_one, List.getElem?_eq_getElem hlt, ← nth_eq hlt, hxs]; simp
    refine J.imp (Imp.trans (Imp.take (c := CallsA g) (by (repeat (first | exact Has.here | assumption | apply Has.there))) (Imp.refl _)) (CallsA.take hget)) ?_
    have hbk : ∀ r, Imp (pc (nth (g.map (fun x => x.2.1)) i) 132 (callC (nth C.L i)) :: CallsA (g.eraseIdx i) :: r) (CallsA g :: r) := fun r => by
      have := CallsA.back (r := r) hget
      rwa [← hq, hx] at this
    rw [← hq, hx]
    focus
     refine zs <| zy (.cltT rfl rfl (by omega)) <| zd <| zq <| zt rfl <| zk <| zq <| zb <| zo <| zy (.iC rfl rfl (by omega)) <| zy (.LE0 rfl (by omega) rfl) <| zfw [_, _, _, _, _, _, _, _, _, _, _, _, _, _, _, _, _, _, _, _, _, _, _, _, _, _, _, _, _, _, _, _, _, _] rfl rfl rfl rfl ?_
     refine JT.bsl1 (by repeat (first | exact Cells.nil | apply Cells.z | (apply Cells.cl; rfl; rfl; rfl))) (by simp only [List.length_cons, List.length_nil, Nat.reduceAdd]; rfl) (by decide) (by rfl) fun a21 => ?_
    refine JT.A1 (v := p0 (nth C.L i).p) rfl rfl (by rfl) rfl (by decide) (by omega) (fun a3' c3' hc3 => ?_)
    refine JT.imp (Imp.trans (Imp.take (c := pc (nth (g.map (fun x => x.2.1)) i) 132 (callC (nth C.L i))) (by (repeat (first | exact Has.here | assumption | apply Has.there))) (Imp.take (c := CallsA (g.eraseIdx i)) (by (repeat (first | exact Has.here | assumption | apply Has.there))) (Imp.refl _))) (hbk _)) ?_
    focus
     refine zd <| zo <| zy (.addN rfl rfl (by omega)) <| zd <| ⟨⟨_, ⟨_, ⟨_, _⟩⟩⟩, ?_, (by omega), (subxR rfl), (.of (.t1 (.t2 (.t2 (.t2 (.t0 (.d .rf)))))))⟩
    exact ⟨by dsimp only; omega, by dsimp only; rw [hsn]⟩
  · focus
     refine zs <| zy (.cltF rfl rfl (by omega)) <| zd <| zq <| zu rfl <| zx <| zs <| zc rfl <| zd <| zr ?_
    have hx : xs = C.opn.map p0 := by rw [hxs, show i = C.L.length by omega, List.take_length]; simp [Clr.opn]
    subst hx
    exact retQS (a3, c3) (.t rfl .nil) trivial rfl (.of (.t0 (CallerP.fold (.there .here) (.there .here) (.there .here) (by first | assumption | omega | rfl | decide) (.d .rf))))
theorem rcTick_P (b : Nat) (C : Clr) (F : List Assn) (hC : C.Ok) (hA : ∀ x ∈ C.L, x.age < 4611686018427387904) : Meets Try.prog 30 [ptr b] (CallerP b C :: F)
    (Some' (fun _ : Option Addr × Nat => True) (fun x => .slice x.1 (C.tick.2.map p0).length x.2) (fun x => SlT true pktEC 34 (.slice x.1 (C.tick.2.map p0).length x.2) x.2 (C.tick.2.map p0) :: CallerP b C.tick.1 :: F)) := by
  refine Meets.intro b30 k30 (by simp) ?_
  refine J.openClr Has.here (fun mb g hg => ?_)
  have hlen := CM.len hg
  have hl256 := hC.len
  have hagn := hC.agn
  have hS := fun F => rcSorted_fn (b := b) (mb := mb) F hg hC
  focus
   refine zs <| zc rfl <| yD rfl rfl (.of .rf) rcIs_fn <| zc rfl <| zd <| zq <| zu rfl <| zk <| zs <| zc rfl <| yE rfl rfl (.of (.t0 (.t0 (.t0 .rf)))) (hS _) fun ⟨a10, c10⟩ _ => zc rfl ?_
   refine zc rfl <| zd <| zq <| zb ?_
  refine J.lp (ι := Nat × Option Addr × Nat × List PktE × CM) (fun i => i.1 ≤ C.L.length ∧ i.2.2.2.1 = ((C.L.take i.1).filter C.due).map (fun x => p0 x.p) ∧ CM.of i.2.2.2.2 ((C.L.take i.1).map CallE.up ++ C.L.drop i.1) ∧ i.2.2.2.2.map (·.2.1) = g.map (·.2.1) ∧ i.2.2.2.2.map (·.1) = g.map (·.1)) (fun i => [(3, .slice i.2.1 i.2.2.2.1.length i.2.2.1), (12, i64 (i.1 : Int))])
    (fun i => SlT true pktEC 34 (.slice i.2.1 i.2.2.2.1.length i.2.2.1) i.2.2.1 i.2.2.2.1 :: SlT true ptrC 1 (.slice a10 (g.map (·.2.1)).length c10) c10 (g.map (·.2.1)) :: pc b 104 (clrC C mb) :: MtC mb g :: CallsA i.2.2.2.2 :: F)
    (fun i => C.L.length - i.1) (0, none, 0, [], g) ⟨by simp, by simp, by simpa using hg, rfl, rfl⟩ (by exact subxR rfl) (Up.nilS (enc := pktEC) (sz := 34) true (by decide) (.of (.t0 (.t0 (.t0 (.t0 (.t0 .rf))))))) (fun i hi => ?_)
  obtain ⟨i, a3, c3, xs, g2⟩ := i
  obtain ⟨hi, hxs, hg2, hgp, hgk⟩ := hi
  dsimp only at hi hxs hg2 hgp hgk ⊢
  have hml : (g.map (fun x => x.2.1)).length = C.L.length := by simp [hlen]
  have hxl : xs.length ≤ i := by rw [hxs]; simp only [List.length_map]; exact Nat.le_trans (List.length_filter_le _ _) (by rw [List.length_take]; omega)
  have hl2 : g2.length = g.length := by have := congrArg List.length hgp; simpa using this
  by_cases hlt : i < C.L.length
  · have hgi : i < g2.length := by omega
    have hget : g2[i]? = some g2[i] := List.getElem?_eq_getElem hgi
    have hq : nth (g.map (fun x => x.2.1)) i = (g2[i]).2.1 := by rw [← hgp, nth_eq (by simpa using hgi)]; simp
    have hL : (C.L.take i).length = i := by simp; omega
    have hx : (g2[i]).2.2 = nth C.L i := by
      have h1 : (g2.map (fun y => y.2.2))[i]? = some (g2[i]).2.2 := by rw [List.getElem?_map, hget]; rfl
      rw [hg2.1, List.getElem?_append_right (by rw [List.length_map, List.length_take]; omega), List.getElem?_drop] at h1
      simp only [List.length_map, hL] at h1
      rw [Nat.sub_self, Nat.add_zero, List.getElem?_eq_getElem hlt] at h1
      rw [nth_eq hlt]; exact (Option.some.inj h1).symm
    have hage0 := hC.age _ (nth_mem hlt)
    have hage1 := hA _ (nth_mem hlt)
    have hsn : ((C.L.take (i + 1)).filter C.due).map (fun x => p0 x.p) = xs ++ (if C.due (nth C.L i) then [p0 (nth C.L i).p] else []) := by
      rw [List.take_add_one, List.getElem?_eq_getElem hlt, ← nth_eq hlt, hxs, List.filter_append, List.map_append]
      congr 1
      simp only [Option.toList_some, List.filter_cons, List.filter_nil]
      split <;> rfl
    refine J.imp (Imp.trans (Imp.take (c := CallsA g2) (by (repeat (first | exact Has.here | assumption | apply Has.there))) (Imp.refl _)) (CallsA.take hget)) ?_
    have hbk : ∀ r, Imp (pc (nth (g.map (fun x => x.2.1)) i) 132 (callC (nth C.L i).up) :: CallsA (g2.eraseIdx i) :: r) (CallsA (g2.set i ((g2[i]).1, ((g2[i]).2.1, (nth C.L i).up))) :: r) := fun r => by
      have := CallsA.put (r := r) ((g2[i]).1, ((g2[i]).2.1, (nth C.L i).up)) hget
      rwa [← hq] at this ⊢
    have hg3 : CM.of (g2.set i ((g2[i]).1, ((g2[i]).2.1, (nth C.L i).up))) ((C.L.take (i + 1)).map CallE.up ++ C.L.drop (i + 1)) := by
      have e1 : C.L.drop i = nth C.L i :: C.L.drop (i + 1) := by rw [List.drop_eq_getElem_cons hlt, nth_eq hlt]
      rw [e1] at hg2
      have := CM.setAt (x' := (nth C.L i).up) hg2 (by simp; omega) hget rfl
      rw [List.take_add_one, List.getElem?_eq_getElem hlt, ← nth_eq hlt, List.map_append]
      simpa using this
    have hgp3 : (g2.set i ((g2[i]).1, ((g2[i]).2.1, (nth C.L i).up))).map (·.2.1) = g.map (·.2.1) := by rw [List.map_set, ← hgp]; exact set_same (by rw [List.getElem?_map, hget]; rfl)
    have hgk3 : (g2.set i ((g2[i]).1, ((g2[i]).2.1, (nth C.L i).up))).map (·.1) = g.map (·.1) := by rw [List.map_set, ← hgk]; exact set_same (by rw [List.getElem?_map, hget]; rfl)
    rw [← hq, hx]
    focus
     refine zs <| zy (.cltT rfl rfl (by omega)) <| zd <| zq <| zt rfl <| zk <| zq <| zb <| zs <| zy (.iC rfl rfl (by omega)) <| zy (.LE0 rfl (by omega) rfl) <| zfl rfl rfl rfl ?_
     refine zy (.add rfl rfl (Wr.i64 (by omega) (by omega))) <| zf 34 rfl rfl <| yS rfl rfl rfl rfl rfl (Nat.le_of_ble_eq_true rfl) rfl <| zfl rfl rfl rfl <| zfl rfl rfl rfl ?_
    refine JT.q (Ev.rem rfl rfl (by omega)) ?_
    by_cases hdue : Int.tmod ((nth C.L i).age + 1) C.again = 0
    · have hd : C.due (nth C.L i) = true := decide_eq_true hdue
      rw [if_pos hd] at hsn
      focus
       refine zy (.ceqT rfl rfl (by omega)) <| zd <| zt rfl <| zo <| zfw [_, _, _, _, _, _, _, _, _, _, _, _, _, _, _, _, _, _, _, _, _, _, _, _, _, _, _, _, _, _, _, _, _, _] rfl rfl rfl rfl <| JT.bsl1 (by repeat (first | exact Cells.nil | apply Cells.z | (apply Cells.cl; rfl; rfl; rfl))) (by simp only [List.length_cons, List.length_nil, Nat.reduceAdd]; rfl) (by decide) (by rfl) fun a38 => ?_
      refine JT.A1 (v := p0 (nth C.L i).p) rfl rfl (by rfl) rfl (by decide) (by omega) (fun a3' c3' hc3 => ?_)
      refine JT.imp (Imp.trans (Imp.take (c := pc (nth (g.map (fun x => x.2.1)) i) 132 (callC (nth C.L i).up)) (by (repeat (first | exact Has.here | assumption | apply Has.there))) (Imp.take (c := CallsA (g2.eraseIdx i)) (by (repeat (first | exact Has.here | assumption | apply Has.there))) (Imp.refl _))) (hbk _)) ?_
      focus
       refine zd <| zo <| zy (.addN rfl rfl (by omega)) <| zd <| ⟨⟨_, ⟨_, ⟨_, ⟨_, _⟩⟩⟩⟩, ?_, (by omega), (subxR rfl), (.of (.t1 (.t2 (.t2 (.t2 (.t0 (.d .rf)))))))⟩
      exact ⟨by dsimp only; omega, by dsimp only; rw [hsn], hg3, hgp3, hgk3⟩
    · have hd : C.due (nth C.L i) = false := decide_eq_false hdue
      rw [if_neg (by rw [hd]; decide), List.append_nil] at hsn
      refine JT.imp (Imp.trans (Imp.take (c := pc (nth (g.map (fun x => x.2.1)) i) 132 (callC (nth C.L i).up)) (by (repeat (first | exact Has.here | assumption | apply Has.there))) (Imp.take (c := CallsA (g2.eraseIdx i)) (by (repeat (first | exact Has.here | assumption | apply Has.there))) (Imp.refl _))) (hbk _)) ?_
      focus
       refine zy (.ceqF rfl rfl (by omega)) <| zd <| zu rfl <| zk <| zo <| zy (.addN rfl rfl (by omega)) <| zd <| ⟨⟨_, ⟨_, ⟨_, ⟨_, _⟩⟩⟩⟩, ?_, (by omega), (subxR rfl), (.of (.t1 (.t1 (.t1 (.t1 (.t0 .rf))))))⟩
      exact ⟨by dsimp only; omega, by dsimp only; rw [hsn], hg3, hgp3, hgk3⟩
  · have hi' : i = C.L.length := by omega
    subst hi'
    rw [List.take_length, List.drop_length, List.append_nil] at hg2
    rw [List.take_length] at hxs
    have hx : xs = C.tick.2.map p0 := by rw [hxs]; simp [Clr.tick]
    subst hx
    have hm : g2.map (fun x => (i64 x.1, ptr x.2.1)) = g.map (fun x => (i64 x.1, ptr x.2.1)) := by
      have e : ∀ l : CM, l.map (fun x => (i64 x.1, ptr x.2.1)) = (l.map (·.1)).zipWith (fun a b => (i64 a, ptr b)) (l.map (·.2.1)) := by
        intro l; induction l with
        | nil => rfl
        | cons x r ih => simp only [List.map_cons, List.zipWith_cons_cons, ih]
      rw [e, e, hgp, hgk]
    focus
     refine zs <| zy (.cltF rfl rfl (by omega)) <| zd <| zq <| zu rfl <| zx <| zs <| zc rfl <| zd <| zr ?_
    refine retQ_up (Up.of (Imp.trans (Imp.take (c := MtC mb g) (by (repeat (first | exact Has.here | assumption | apply Has.there))) (Imp.refl _)) (Mt.re (ve := fun x : Nat × CallE => ptr x.1) (ve' := fun x : Nat × CallE => ptr x.1) g2 hm))) ?_
    exact retQS (a3, c3) (.t rfl .nil) trivial rfl (Up.of (Imp.trans (Imp.take (c := SlT true pktEC 34 (.slice a3 (C.tick.2.map p0).length c3) c3 (C.tick.2.map p0)) (by (repeat (first | exact Has.here | assumption | apply Has.there))) (Imp.refl _)) (Imp.cons (CallerP.fold (C := C.tick.1) (mb := mb) (g := g2) (by (repeat (first | exact Has.here | assumption | apply Has.there))) (by (repeat (first | exact Has.here | assumption | apply Has.there))) (by (repeat (first | exact Has.here | assumption | apply Has.there))) hg2 (by (repeat (first | exact Imp.refl _ | (apply Imp.take; (· (repeat (first | exact Has.here | assumption | apply Has.there)))) | fail | apply Imp.dropT | exact Imp.nil _)))))))
end Go.Proofs.Ytienlpaehgdpaaa
