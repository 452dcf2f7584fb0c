/- Layer 6: an answerer: the functions. Conditions: none. -/
import Derived.Test.YtienlpaehgdpaaaTj
set_option linter.unusedSimpArgs false
set_option linter.unusedVariables false
set_option maxRecDepth 100000
set_option maxHeartbeats 4000000
namespace Go.SL
open Go
def kF (x : Pkt × Option Pkt) : Frm := ⟨x.1.src, x.1.id⟩
structure Anr.Ok (A : Anr) : Prop where
  nd : (A.L.map kF).Nodup
  len : A.L.length ≤ 65536
theorem AM.keys {g : AM} {L : List (Pkt × Option Pkt)} (h : AM.of g L) : g.map (·.1) = L.map kF := by
  rw [← h.1, List.map_map]; exact List.map_congr_left fun y hy => h.2 y hy
theorem AM.aix {g : AM} {A : Anr} (h : AM.of g A.L) (src : Ad) (id : Int) : Go.SL.aix g (⟨src, id⟩ : Frm) = A.ix src id := by
  unfold Go.SL.aix Anr.ix
  rw [AM.keys h, List.findIdx?_map]; rfl
theorem AM.len {g : AM} {L : List (Pkt × Option Pkt)} (h : AM.of g L) : g.length = L.length := by rw [← h.1]; simp
theorem AM.nth {g : AM} {A : Anr} (h : AM.of g A.L) {i : Nat} (hlt : i < A.L.length) : ∃ q k, g[i]? = some (kF (nth A.L i), (q, k)) ∧ k.pl = nth A.L i := by
  have hg : i < g.length := by rw [AM.len h]; exact hlt
  rcases e : g[i] with ⟨f, q, x⟩
  have hx : x.pl = Go.SL.nth A.L i := by
    rw [nth_eq hlt]
    have : (g.map (fun y => y.2.2.pl))[i]'(by simpa using hg) = x.pl := by simp [e]
    rw [← this]; simp only [h.1]
  have hk : f = kF (Go.SL.nth A.L i) := by
    have := h.2 _ (List.getElem_mem hg); rw [e] at this; simp only at this; rw [this, ← hx]; rfl
  exact ⟨q, x, by rw [List.getElem?_eq_getElem hg, e, hk], hx⟩
theorem AM.at {g : AM} {A : Anr} (h : AM.of g A.L) {src : Ad} {id : Int} {i : Nat} (hi : A.ix src id = some i) : ∃ q k, g[i]? = some ((⟨src, id⟩ : Frm), (q, k)) ∧ k.pl = Go.SL.nth A.L i ∧ alk g (⟨src, id⟩ : Frm) = some (q, k) := by
  obtain ⟨hlt, h1, h2⟩ := Anr.ix_some hi
  obtain ⟨q, k, hg, hp⟩ := AM.nth h hlt
  have hk : kF (Go.SL.nth A.L i) = ⟨src, id⟩ := by unfold kF; rw [h1, h2]
  rw [hk] at hg
  refine ⟨q, k, hg, hp, ?_⟩
  rw [alk_aix, AM.aix h, hi]; simp [hg]
theorem AM.no {g : AM} {A : Anr} (h : AM.of g A.L) {src : Ad} {id : Int} (hi : A.ix src id = none) : alk g (⟨src, id⟩ : Frm) = none := by rw [alk_aix, AM.aix h, hi]; rfl
theorem AM.snoc {g : AM} {L : List (Pkt × Option Pkt)} (h : AM.of g L) (q : Nat) (x : KnE) : AM.of (g ++ [((⟨x.p.p.src, x.p.p.id⟩ : Frm), (q, x))]) (L ++ [x.pl]) :=
  ⟨by simp [h.1], fun y hy => by
    rcases List.mem_append.1 hy with h1 | h1
    · exact h.2 y h1
    · simp only [List.mem_singleton] at h1; subst h1; rfl⟩
theorem AM.putAt {g : AM} {L : List (Pkt × Option Pkt)} (h : AM.of g L) {i : Nat} {f : Frm} {q : Nat} {k k' : KnE} (hi : g[i]? = some (f, (q, k))) (hp : k'.p = k.p) : AM.of (g.set i (f, (q, k'))) (L.set i k'.pl) := by
  refine ⟨by rw [List.map_set, h.1], fun z hz => ?_⟩
  rcases List.mem_or_eq_of_mem_set hz with h1 | rfl
  · exact h.2 z h1
  · simp only; rw [hp]; exact h.2 _ (List.mem_of_getElem? hi)
theorem KnsA.back {g : AM} {i : Nat} {x : Frm × (Nat × KnE)} {r : List Assn} (h : g[i]? = some x) : Imp (KnP x.2.1 x.2.2 :: KnsA (g.eraseIdx i) :: r) (KnsA g :: r) := by
  have := KnsA.put (h := g) (r := r) x h
  rwa [set_same h] at this
theorem Anr.Ok.take {A : Anr} (h : A.Ok) (p : Pkt) : (A.take p).1.Ok := by
  unfold Anr.take
  split
  · cases hi : A.ix p.src p.id with
    | some i =>
      simp only
      split <;> exact h
    | none =>
      simp only
      split
      · exact h
      · rename_i h1 h2
        refine ⟨?_, by simp only [List.length_append, List.length_cons, List.length_nil]; omega⟩
        simp only [List.map_append, List.map_cons, List.map_nil]
        rw [List.nodup_append]
        refine ⟨h.nd, by simp, fun a ha b hb => ?_⟩
        simp only [List.mem_singleton] at hb
        subst hb
        rintro rfl
        obtain ⟨k, hk, e⟩ := List.mem_map.1 ha
        simp only [kF, Frm.mk.injEq] at e
        exact Anr.ix_none hi k hk e
  · exact h
theorem Anr.Ok.reply {A : Anr} (h : A.Ok) (src : Ad) (id : Int) (x : Ans) : (A.reply src id x).1.Ok := by
  rcases Anr.reply_cases A src id x with ⟨e, _⟩ | ⟨i, hi, hn, hx, e⟩
  · rw [e]; exact h
  · rw [e]
    obtain ⟨hlt, _⟩ := Anr.ix_some hi
    refine ⟨?_, by simpa using h.len⟩
    simp only
    rw [map_set_same kF hlt (x := ((nth A.L i).1, some (mkRep (nth A.L i).1 x))) rfl]
    exact h.nd
theorem Anr.Ok.new (me : Ad) : (⟨me, []⟩ : Anr).Ok := ⟨by simp, by simp⟩
theorem Anr.reply_none {A : Anr} {src : Ad} {id : Int} {x : Ans} (h : A.ix src id = none) : A.reply src id x = (A, zPkt, 61) := by unfold Anr.reply; rw [h]
theorem Anr.reply_done {A : Anr} {src : Ad} {id : Int} {x : Ans} {i : Nat} {k : KnE} (h : A.ix src id = some i) (hp : k.pl = nth A.L i) (hd : k.done = true) : A.reply src id x = (A, zPkt, 61) := by
  unfold Anr.reply; rw [h]; simp only; rw [← hp]; unfold KnE.pl; simp [hd]
theorem Anr.reply_no {A : Anr} {src : Ad} {id : Int} {x : Ans} {i : Nat} {k : KnE} (h : A.ix src id = some i) (hp : k.pl = nth A.L i) (hd : k.done = false) (ho : ¬ (k.p.p.ok ∧ k.p.p.reply = false ∧ x.ok)) : A.reply src id x = (A, zPkt, 40) := by
  unfold Anr.reply; rw [h]; simp only; rw [← hp]; unfold KnE.pl; simp only [hd]; exact if_neg ho
theorem Anr.reply_ok {A : Anr} {src : Ad} {id : Int} {x : Ans} {i : Nat} {k : KnE} (h : A.ix src id = some i) (hp : k.pl = nth A.L i) (hd : k.done = false) (ho : k.p.p.ok ∧ k.p.p.reply = false ∧ x.ok) : A.reply src id x = ({ A with L := A.L.set i (k.p.p, some (mkRep k.p.p x)) }, mkRep k.p.p x, 0) := by
  unfold Anr.reply; rw [h]; simp only; rw [← hp]; unfold KnE.pl; simp only [hd]; exact if_pos ho
end Go.SL
namespace Go.Proofs.Ytienlpaehgdpaaa
open Go Go.SL
attribute [local irreducible] pc rc SlT Me Mt It pt ro pur ex sep old Meets
attribute [local irreducible] CallsA CallerP KnP KnsA AnswererP
instance : KO Try.prog 140 frv := ⟨KeyOk.flat (by kernel_rfl) (by kernel_rfl)⟩
instance : TE 140 Frm frmC 3 := ⟨frmC_one, by decide⟩
theorem raIs_fn {b mb n c : Nat} {a : Option Addr} {A : Anr} {F r : List Assn} [Hs : HP F b 110 (anrC A mb n a c) r] : Meets Try.prog 56 [ptr b] F (Det (.bool true) F) := by
  refine Meets.intro b56 k56 (by simp) ?_
  focus
   refine zs <| zc rfl <| zc rfl <| zm rfl rfl (fun h1 => .fa' 2 rfl rfl) <| zm rfl rfl (fun h1 => by rw [h1]; exact .L rfl rfl) <| zm rfl rfl (fun h1 => by rw [h1]; exact .calc rfl) <| zy (.pickT rfl rfl) <| zd <| zr <| yR (.t rfl .nil) rfl (.of .rf)
theorem raNew_fn (me : Ad) (F : List Assn) : Meets Try.prog 32 [adv me] F (Some' (fun _ : Nat => True) (fun b => ptr b) (fun b => AnswererP b ⟨me, []⟩ :: F)) := by
  refine Meets.intro b32 k32 (by simp) ?_
  have hg : AM.of [] (⟨me, []⟩ : Anr).L := ⟨rfl, fun y hy => by cases hy⟩
  refine J.imp KnsA.nil ?_
  refine J.nilS frmC 3 true (by decide) ?_
  focus
   refine zs <| yB rfl fun b1 => zc rfl <| zw rfl rfl ?_
  refine JT.mkm frv (fun x : Nat × KnE => ptr x.1) (fun b4 => ?_)
  focus
   refine zg rfl <| yB rfl fun b2 => zd <| zr ?_
  exact retQS _ (.t rfl .nil) trivial rfl (Up.of (AnswererP.fold (A := ⟨me, []⟩) (h := []) (a := none) (c := 0) (by (repeat (first | exact Has.here | assumption | apply Has.there))) (by (repeat (first | exact Has.here | assumption | apply Has.there))) (by (repeat (first | exact Has.here | assumption | apply Has.there))) (by (repeat (first | exact Has.here | assumption | apply Has.there))) hg (by (repeat (first | exact Imp.refl _ | (apply Imp.take; (· (repeat (first | exact Has.here | assumption | apply Has.there)))) | fail | apply Imp.dropT | exact Imp.nil _)))))
theorem raCopied_fn (x : PktE) {F : List Assn} [H1 : HS F (.slice x.a x.p.ans.value.length x.c) UInt8 byteC 1 x.c x.p.ans.value] : Meets Try.prog 58 [pkv x] F
    (Some' (fun _ : Option Addr × Nat => True) (fun z => pkv ⟨x.p, z.1, z.2⟩) (fun z => byO z.1 z.2 x.p.ans.value :: F)) := by
  refine Meets.intro b58 k58 (by simp) ?_
  focus
   refine zs <| yB rfl fun b1 => yN fun b2 => zf 21 rfl rfl <| zfl rfl rfl rfl <| yE rfl rfl (.of .rf) slCloneB_fn fun ⟨a6, c6⟩ _ => zf 21 rfl rfl <| zf 33 rfl rfl <| yS (us := [_]) rfl rfl rfl rfl rfl (Nat.le_of_ble_eq_true rfl) (by simp only [lput]; rfl) <| zw rfl rfl <| yW rfl rfl rfl rfl rfl <| zd ?_
   refine zr ?_
  exact retQS (a6, c6) (.w rfl rfl .nil) trivial rfl (Up.frz (by (repeat (first | exact Has.here | assumption | apply Has.there)) : Has _ (SlT true byteC 1 (.slice a6 x.p.ans.value.length c6) c6 x.p.ans.value) _) (.of (.t0 (.d (.d .rf)))))
theorem raHeard_P (b : Nat) (A : Anr) (F : List Assn) : Meets Try.prog 40 [ptr b] (AnswererP b A :: F) (Det (i64 (A.L.length : Int)) (AnswererP b A :: F)) := by
  refine Meets.intro b40 k40 (by simp) ?_
  refine J.openAnr Has.here (fun mb g a c hg hc => ?_)
  have hl := AM.len hg
  focus
   refine zs <| zc rfl <| yD rfl rfl (.of .rf) raIs_fn <| zc rfl <| zd <| zq <| zu rfl <| zk <| zs <| zfl rfl rfl rfl <| zy (.lM rfl) <| zd ?_
   refine zr <| yR (.t rfl .nil) ?_ (.of (AnswererP.fold .here .here .here .here (by first | assumption | omega | rfl | decide) .rf))
  simp only [mkRet]; rw [hl]
theorem raTake_P (b : Nat) (A : Anr) (x : PktE) (F : List Assn) (hA : A.Ok) : Meets Try.prog 33 [ptr b, pkv x] (AnswererP b A :: pkO x :: F)
    (Some' (fun _ : Option Addr × Nat => True) (fun z => .tuple #[pkv ⟨(A.take x.p).2.1, z.1, z.2⟩, i64 (A.take x.p).2.2]) (fun z => byO z.1 z.2 (A.take x.p).2.1.ans.value :: AnswererP b (A.take x.p).1 :: pkO x :: F)) := by
  refine Meets.intro b33 k33 (by simp) ?_
  refine J.openAnr Has.here (fun mb g oa oc hg hoc => ?_)
  have hlen := AM.len hg
  have hl := hA.len
  have hgl : (g.map (·.1)).length = g.length := by simp
  refine J.nilS byteC 1 false (by decide) ?_
  by_cases hc : x.p.ok ∧ x.p.reply = false ∧ x.p.dst = A.me
  · obtain ⟨h1, h2, h3⟩ := hc
    cases hi : A.ix x.p.src x.p.id with
    | some i =>
      obtain ⟨q, k, hget, hpl, hk⟩ := AM.at hg hi
      refine J.imp (Imp.trans (Imp.take (c := KnsA g) (by (repeat (first | exact Has.here | assumption | apply Has.there))) (Imp.refl _)) (KnsA.take hget)) ?_
      refine J.openKn (p := q) (k := k) Has.here ?_
      by_cases hd : k.done = true
      · have e : A.take x.p = (A, k.reply.p, 3) := by
          unfold Anr.take; rw [if_pos ⟨h1, h2, h3⟩, hi]; simp only; rw [← hpl]; unfold KnE.pl; simp [hd]
        rw [e]
        focus
         refine zs <| yB rfl fun b3 => yN fun b4 => zc rfl <| yD rfl rfl (.of .rf) raIs_fn <| zc rfl <| yG rfl <| zw rfl rfl <| yG rfl <| yD rfl rfl (.of .rf) (mgCheck_fn _) <| yG rfl <| zj rfl rfl rfl ?_
         refine zy (.pickF rfl rfl) <| yF rfl (by assumption) <| zf 0 rfl rfl <| yF rfl (by assumption) <| zl rfl rfl <| zy (.pickFp rfl (by assumption) rfl) <| yF rfl (by assumption) <| zf 3 rfl rfl <| yF rfl (by assumption) <| zy (.Lf rfl (Nat.le_of_ble_eq_true rfl)) <| yF rfl (by assumption) <| zf 0 rfl rfl ?_
         refine yF rfl (by assumption) <| zy (.Lp (us := [_, _]) rfl (Nat.le_of_ble_eq_true rfl) rfl) <| yF rfl (by assumption) <| zy (.neTf rfl rfl (by assumption)) <| zy (.pickFp rfl (by assumption) rfl) <| zd <| zq <| zu rfl <| zk <| zs <| zfw [_, _] rfl rfl rfl rfl <| zfl rfl rfl rfl ?_
         refine zg rfl <| yN fun b6 => yW rfl rfl rfl rfl rfl <| zfl rfl rfl rfl <| zw rfl rfl ?_
         (refine JT.lk2s rfl ?_ (by assumption) ?_; (· rfl))
         refine zc rfl <| zc rfl <| zc rfl <| zc rfl <| zd <| zq <| zb <| zs <| zc rfl <| yG rfl <| zf 34 rfl rfl <| yG rfl ?_
         refine zl rfl rfl <| zy (.pickT rfl rfl) <| zd <| zi rfl (fun h4 => ?_) (fun h4 => ?_)
         refine zs <| zfw [_, _, _, _, _, _, _, _, _, _, _, _, _, _, _, _, _, _, _, _, _, _, _, _, _, _, _, _, _, _, _, _, _, _] rfl rfl rfl rfl <| yE rfl rfl (.of .rf) (raCopied_fn _) fun ⟨a57, c57⟩ _ => yW rfl rfl rfl rfl rfl <| zc rfl <| zd <| zr <| blockQ_r <| seqQ_r ?_
         rotate_left
         exact Bool.noConfusion (h4.symm.trans hd)
        refine retQ_up (Up.of (Imp.trans (KnP.fold (p := q) (k := k) (by (repeat (first | exact Has.here | assumption | apply Has.there))) (by (repeat (first | exact Has.here | assumption | apply Has.there))) (by (repeat (first | exact Has.here | assumption | apply Has.there))) (Imp.refl _)) (Imp.trans (Imp.take (c := KnP q k) (by (repeat (first | exact Has.here | assumption | apply Has.there))) (Imp.take (c := KnsA (g.eraseIdx i)) (by (repeat (first | exact Has.here | assumption | apply Has.there))) (Imp.refl _))) (KnsA.back hget)))) ?_
        exact retQS (a57, c57) (.w rfl rfl (.t rfl .nil)) trivial rfl (.of (.t2 (AnswererP.fold (.there (.there (.there (.there (.there .here))))) (.there (.there (.there (.there (.there .here))))) .here (.there (.there (.there (.there .here)))) (by first | assumption | omega | rfl | decide) (.t4 (.d (.d (.d (.d .rf))))))))
      · have hd' : k.done = false := by simpa using hd
        have e : A.take x.p = (A, zPkt, 2) := by
          unfold Anr.take; rw [if_pos ⟨h1, h2, h3⟩, hi]; simp only; rw [← hpl]; unfold KnE.pl; simp [hd']
        rw [e]
        focus
         refine zs <| yB rfl fun b3 => yN fun b4 => zc rfl <| yD rfl rfl (.of .rf) raIs_fn <| zc rfl <| yG rfl <| zw rfl rfl <| yG rfl <| yD rfl rfl (.of .rf) (mgCheck_fn _) <| yG rfl <| zj rfl rfl rfl ?_
         refine zy (.pickF rfl rfl) <| yF rfl (by assumption) <| zf 0 rfl rfl <| yF rfl (by assumption) <| zl rfl rfl <| zy (.pickFp rfl (by assumption) rfl) <| yF rfl (by assumption) <| zf 3 rfl rfl <| yF rfl (by assumption) <| zy (.Lf rfl (Nat.le_of_ble_eq_true rfl)) <| yF rfl (by assumption) <| zf 0 rfl rfl ?_
         refine yF rfl (by assumption) <| zy (.Lp (us := [_, _]) rfl (Nat.le_of_ble_eq_true rfl) rfl) <| yF rfl (by assumption) <| zy (.neTf rfl rfl (by assumption)) <| zy (.pickFp rfl (by assumption) rfl) <| zd <| zq <| zu rfl <| zk <| zs <| zfw [_, _] rfl rfl rfl rfl <| zfl rfl rfl rfl ?_
         refine zg rfl <| yN fun b6 => yW rfl rfl rfl rfl rfl <| zfl rfl rfl rfl <| zw rfl rfl ?_
         (refine JT.lk2s rfl ?_ (by assumption) ?_; (· rfl))
         refine zc rfl <| zc rfl <| zc rfl <| zc rfl <| zd <| zq <| zb <| zs <| zc rfl <| yG rfl <| zf 34 rfl rfl <| yG rfl ?_
         refine zl rfl rfl <| zy (.pickT rfl rfl) <| zd <| zi rfl (fun h4 => ?_) (fun h4 => ?_)
         contradiction
         refine zs <| zc rfl <| zd <| zt rfl <| zs <| zg rfl <| yW rfl rfl rfl rfl rfl <| zc rfl <| zd <| zr <| blockQ_r <| seqQ_r ?_
        refine retQ_up (Up.of (Imp.trans (KnP.fold (p := q) (k := k) (by (repeat (first | exact Has.here | assumption | apply Has.there))) (by (repeat (first | exact Has.here | assumption | apply Has.there))) (by (repeat (first | exact Has.here | assumption | apply Has.there))) (Imp.refl _)) (Imp.trans (Imp.take (c := KnP q k) (by (repeat (first | exact Has.here | assumption | apply Has.there))) (Imp.take (c := KnsA (g.eraseIdx i)) (by (repeat (first | exact Has.here | assumption | apply Has.there))) (Imp.refl _))) (KnsA.back hget)))) ?_
        exact retQS (none, 0) (.w rfl rfl (.t rfl .nil)) trivial rfl (.of (.t4 (AnswererP.fold (.there (.there (.there (.there .here)))) (.there (.there (.there (.there .here)))) .here (.there (.there (.there .here))) (by first | assumption | omega | rfl | decide) (.t3 (.d (.d (.d .rf)))))))
    | none =>
      have hk := AM.no hg hi
      by_cases hL : 65536 ≤ A.L.length
      · have e : A.take x.p = (A, zPkt, 0) := by unfold Anr.take; rw [if_pos ⟨h1, h2, h3⟩, hi]; simp only; rw [if_pos hL]
        rw [e]
        focus
         refine zs <| yB rfl fun b3 => yN fun b4 => zc rfl <| yD rfl rfl (.of .rf) raIs_fn <| zc rfl <| yG rfl <| zw rfl rfl <| yG rfl <| yD rfl rfl (.of .rf) (mgCheck_fn _) <| yG rfl <| zj rfl rfl rfl ?_
         refine zy (.pickF rfl rfl) <| yF rfl (by assumption) <| zf 0 rfl rfl <| yF rfl (by assumption) <| zl rfl rfl <| zy (.pickFp rfl (by assumption) rfl) <| yF rfl (by assumption) <| zf 3 rfl rfl <| yF rfl (by assumption) <| zy (.Lf rfl (Nat.le_of_ble_eq_true rfl)) <| yF rfl (by assumption) <| zf 0 rfl rfl ?_
         refine yF rfl (by assumption) <| zy (.Lp (us := [_, _]) rfl (Nat.le_of_ble_eq_true rfl) rfl) <| yF rfl (by assumption) <| zy (.neTf rfl rfl (by assumption)) <| zy (.pickFp rfl (by assumption) rfl) <| zd <| zq <| zu rfl <| zk <| zs <| zfw [_, _] rfl rfl rfl rfl <| zfl rfl rfl rfl ?_
         refine zg rfl <| yN fun b6 => yW rfl rfl rfl rfl rfl <| zfl rfl rfl rfl <| zw rfl rfl ?_
         (refine JT.lk2n rfl ?_ (by assumption) ?_; (· rfl))
         refine zc rfl <| zc rfl <| zc rfl <| zc rfl <| zd <| zq <| zb <| zs <| zc rfl <| zv rfl rfl <| zv rfl rfl <| zy (.pickF rfl rfl) ?_
         refine zd <| zu rfl <| zs <| zc rfl <| zd <| zu rfl <| zs <| zfl rfl rfl rfl <| zy (.lM rfl) <| zy (.cgeT rfl rfl (by omega)) <| zd <| zt rfl ?_
         refine zs <| zg rfl <| yW rfl rfl rfl rfl rfl <| zc rfl <| zd <| zr <| yQ ⟨_, _⟩ (.w rfl rfl (.t rfl .nil)) trivial rfl (.of (.t3 (AnswererP.fold (.there (.there (.there .here))) (.there (.there (.there .here))) (.there (.there (.there .here))) (.there (.there (.there .here))) (by first | assumption | omega | rfl | decide) (.t3 (.d (.d (.d .rf)))))))
      · have e : A.take x.p = ({ A with L := A.L ++ [(x.p, none)] }, zPkt, 1) := by unfold Anr.take; rw [if_pos ⟨h1, h2, h3⟩, hi]; simp only; rw [if_neg hL]
        rw [e]
        have hn : aix g (⟨x.p.src, x.p.id⟩ : Frm) = none := by rw [AM.aix hg, hi]
        focus
         refine zs <| yB rfl fun b3 => yN fun b4 => zc rfl <| yD rfl rfl (.of .rf) raIs_fn <| zc rfl <| yG rfl <| zw rfl rfl <| yG rfl <| yD rfl rfl (.of .rf) (mgCheck_fn _) <| yG rfl <| zj rfl rfl rfl ?_
         refine zy (.pickF rfl rfl) <| yF rfl (by assumption) <| zf 0 rfl rfl <| yF rfl (by assumption) <| zl rfl rfl <| zy (.pickFp rfl (by assumption) rfl) <| yF rfl (by assumption) <| zf 3 rfl rfl <| yF rfl (by assumption) <| zy (.Lf rfl (Nat.le_of_ble_eq_true rfl)) <| yF rfl (by assumption) <| zf 0 rfl rfl ?_
         refine yF rfl (by assumption) <| zy (.Lp (us := [_, _]) rfl (Nat.le_of_ble_eq_true rfl) rfl) <| yF rfl (by assumption) <| zy (.neTf rfl rfl (by assumption)) <| zy (.pickFp rfl (by assumption) rfl) <| zd <| zq <| zu rfl <| zk <| zs <| zfw [_, _] rfl rfl rfl rfl <| zfl rfl rfl rfl ?_
         refine zg rfl <| yN fun b6 => yW rfl rfl rfl rfl rfl <| zfl rfl rfl rfl <| zw rfl rfl ?_
         (refine JT.lk2n rfl ?_ (by assumption) ?_; (· rfl))
         refine zc rfl <| zc rfl <| zc rfl <| zc rfl <| zd <| zq <| zb <| zs <| zc rfl <| zv rfl rfl <| zv rfl rfl <| zy (.pickF rfl rfl) ?_
         refine zd <| zu rfl <| zs <| zc rfl <| zd <| zu rfl <| zs <| zfl rfl rfl rfl <| zy (.lM rfl) <| zy (.cgeF rfl rfl (by omega)) <| zd <| zu rfl ?_
         refine zk <| zs <| zfl rfl rfl rfl <| zw rfl rfl <| zw rfl rfl <| zg rfl <| yB rfl fun b76 => ?_
        refine JT.mu (k := (⟨x.p.src, x.p.id⟩ : Frm)) (v := (b76, (⟨x, false, p0 zPkt⟩ : KnE))) rfl (by rfl) rfl ?_
        have ep : aput g (⟨x.p.src, x.p.id⟩ : Frm) (b76, (⟨x, false, p0 zPkt⟩ : KnE)) = g ++ [((⟨x.p.src, x.p.id⟩ : Frm), (b76, (⟨x, false, p0 zPkt⟩ : KnE)))] := by unfold aput; rw [hn]
        have hg2 := AM.snoc hg b76 (⟨x, false, p0 zPkt⟩ : KnE)
        have eL : A.L ++ [(x.p, none)] = A.L ++ [(⟨x, false, p0 zPkt⟩ : KnE).pl] := rfl
        rw [ep]
        refine JT.imp (Has.dup (c := pkO x) (SlT_pers _ _ _ _ _) (by (repeat (first | exact Has.here | assumption | apply Has.there)))) ?_
        refine JT.imp (KnP.fold (p := b76) (k := (⟨x, false, p0 zPkt⟩ : KnE)) (by (repeat (first | exact Has.here | assumption | apply Has.there))) (by (repeat (first | exact Has.here | assumption | apply Has.there))) (by (repeat (first | exact Has.here | assumption | apply Has.there))) (Imp.refl _)) ?_
        refine JT.imp (Imp.trans (Imp.take (c := KnP b76 (⟨x, false, p0 zPkt⟩ : KnE)) (by (repeat (first | exact Has.here | assumption | apply Has.there))) (Imp.take (c := KnsA g) (by (repeat (first | exact Has.here | assumption | apply Has.there))) (Imp.refl _))) (KnsA.snoc ((⟨x.p.src, x.p.id⟩ : Frm), (b76, (⟨x, false, p0 zPkt⟩ : KnE))))) ?_
        focus
         refine zfl rfl rfl rfl <| zw rfl rfl <| JT.bsl1 (by repeat (first | exact Cells.nil | apply Cells.z | (apply Cells.cl; rfl; rfl; rfl))) (by simp only [List.length_cons, List.length_nil, Nat.reduceAdd]; rfl) (by decide) (by rfl) fun a83 => ?_
        refine JT.A1 (v := (⟨x.p.src, x.p.id⟩ : Frm)) rfl rfl (by rfl) rfl (by decide) (by omega) (fun a84 c84 hc84 => ?_)
        have em : (g ++ [((⟨x.p.src, x.p.id⟩ : Frm), (b76, (⟨x, false, p0 zPkt⟩ : KnE)))]).map (·.1) = g.map (·.1) ++ [(⟨x.p.src, x.p.id⟩ : Frm)] := by simp
        rw [← em]
        refine JT.nilS byteC 1 false (by decide) ?_
        focus
         refine zf 3 rfl rfl <| yS rfl rfl rfl rfl rfl (Nat.le_of_ble_eq_true rfl) rfl <| zg rfl <| yW rfl rfl rfl rfl rfl <| zc rfl <| zd <| zr <| yQ ⟨_, _⟩ (.w rfl rfl (.t rfl .nil)) trivial rfl (.of (.t2 (AnswererP.fold (.there .here) (.there (.there (.there (.there (.there .here))))) (.there (.there (.there .here))) (.there .here) (by first | assumption | omega | rfl | decide) (.t2 (.d (.d (.d (.d .rf))))))))
  · have e : A.take x.p = (A, zPkt, 0) := by unfold Anr.take; rw [if_neg hc]
    rw [e]
    focus
     refine zs <| yB rfl fun b3 => yN fun b4 => zc rfl <| yD rfl rfl (.of .rf) raIs_fn <| zc rfl <| yG rfl <| zw rfl rfl <| yG rfl <| yD rfl rfl (.of .rf) (mgCheck_fn _) <| yG rfl <| zj rfl rfl rfl ?_
     refine zy (.pickF rfl rfl) <| zh rfl rfl (fun h1 => .fa' 0 rfl rfl) <| zh rfl rfl (fun h1 => by rw [h1]; exact .L rfl rfl) <| zy (.pickO rfl rfl rfl) <| zh rfl rfl (fun h1 => .fa' 3 rfl rfl) <| zh rfl rfl (fun h1 => by rw [h1]; exact .Lf rfl (Nat.le_of_ble_eq_true rfl)) <| zh rfl rfl (fun h1 => .fa' 0 rfl rfl) <| zh rfl rfl (fun h1 => by rw [h1]; exact .Lp (us := [_, _]) rfl (Nat.le_of_ble_eq_true rfl) rfl) <| zh rfl rfl (fun h1 => by rw [h1]; exact .neT rfl rfl) <| zy (.pickO rfl rfl rfl) <| zd <| zq ?_
     refine zi rfl (fun h1 => ?_) (fun h1 => ?_)
     refine zs <| zg rfl <| yW rfl rfl rfl rfl rfl <| zc rfl <| zd <| zr <| yQ ⟨_, _⟩ (.w rfl rfl (.t rfl .nil)) trivial rfl (.of (.t2 (AnswererP.fold (.there (.there .here)) (.there (.there .here)) (.there (.there .here)) (.there (.there .here)) (by first | assumption | omega | rfl | decide) (.t2 (.d (.d .rf))))))
     refine zk <| zs <| zfw [_, _] rfl rfl rfl rfl <| zfl rfl rfl rfl <| zg rfl <| yN fun b6 => yW rfl rfl rfl rfl rfl <| zfl rfl rfl rfl <| zw rfl rfl ?_
    exact absurd ⟨h1.1.1, h1.1.2, h1.2⟩ hc
theorem raReply_P (b : Nat) (A : Anr) (src : Ad) (id : Int) (y : AnsE) (F : List Assn) : Meets Try.prog 36 [ptr b, adv src, i64 id, anv y] (AnswererP b A :: byO y.a y.c y.x.value :: F)
    (Some' (fun _ : Option Addr × Nat => True) (fun z => .tuple #[pkv ⟨(A.reply src id y.x).2.1, z.1, z.2⟩, i64 (A.reply src id y.x).2.2]) (fun z => byO z.1 z.2 (A.reply src id y.x).2.1.ans.value :: AnswererP b (A.reply src id y.x).1 :: byO y.a y.c y.x.value :: F)) := by
  refine Meets.intro b36 k36 (by simp) ?_
  refine J.openAnr Has.here (fun mb g oa oc hg hoc => ?_)
  refine J.nilS byteC 1 false (by decide) ?_
  cases hi : A.ix src id with
  | none =>
    have hk := AM.no hg hi
    rw [Anr.reply_none hi]
    focus
     refine zs <| yB rfl fun b5 => yB rfl fun b7 => yN fun b8 => zc rfl <| yD rfl rfl (.of .rf) raIs_fn <| zc rfl <| zd <| zq <| zu rfl <| zk <| zs ?_
     refine zfl rfl rfl rfl <| zw rfl rfl <| zg rfl ?_
     (refine JT.lk2n rfl ?_ (by assumption) ?_; (· rfl))
     refine zc rfl <| zc rfl <| zc rfl <| zc rfl <| zv rfl rfl <| zv rfl rfl <| zy (.pickT rfl rfl) <| zd <| zq <| zt rfl <| zs <| zg rfl ?_
     refine yW rfl rfl rfl rfl rfl <| zc rfl <| zd <| zr <| yQ ⟨_, _⟩ (.w rfl rfl (.t rfl .nil)) trivial rfl (.of (.t3 (AnswererP.fold (.there (.there (.there .here))) (.there (.there (.there .here))) (.there (.there (.there .here))) (.there (.there (.there .here))) (by first | assumption | omega | rfl | decide) (.t3 (.d (.d (.d .rf)))))))
  | some i =>
    obtain ⟨q, k, hget, hpl, hk⟩ := AM.at hg hi
    refine J.imp (Imp.trans (Imp.take (c := KnsA g) (by (repeat (first | exact Has.here | assumption | apply Has.there))) (Imp.refl _)) (KnsA.take hget)) ?_
    refine J.openKn (p := q) (k := k) Has.here ?_
    by_cases hd : k.done = true
    · rw [Anr.reply_done hi hpl hd]
      focus
       refine zs <| yB rfl fun b5 => yB rfl fun b7 => yN fun b8 => zc rfl <| yD rfl rfl (.of .rf) raIs_fn <| zc rfl <| zd <| zq <| zu rfl <| zk <| zs ?_
       refine zfl rfl rfl rfl <| zw rfl rfl <| zg rfl ?_
       (refine JT.lk2s rfl ?_ (by assumption) ?_; (· rfl))
       refine zc rfl <| zc rfl <| zc rfl <| zc rfl <| yG rfl <| zf 34 rfl rfl <| yG rfl <| zl rfl rfl <| zy (.pickF rfl rfl) <| zd <| zq <| zi rfl (fun h1 => ?_) (fun h1 => ?_)
       refine zs <| zg rfl <| yW rfl rfl rfl rfl rfl <| zc rfl <| zd <| zr <| seqQ_r ?_
       rotate_left
       exact Bool.noConfusion (h1.symm.trans hd)
      refine retQ_up (Up.of (Imp.trans (KnP.fold (p := q) (k := k) (by (repeat (first | exact Has.here | assumption | apply Has.there))) (by (repeat (first | exact Has.here | assumption | apply Has.there))) (by (repeat (first | exact Has.here | assumption | apply Has.there))) (Imp.refl _)) (Imp.trans (Imp.take (c := KnP q k) (by (repeat (first | exact Has.here | assumption | apply Has.there))) (Imp.take (c := KnsA (g.eraseIdx i)) (by (repeat (first | exact Has.here | assumption | apply Has.there))) (Imp.refl _))) (KnsA.back hget)))) ?_
      exact retQS (none, 0) (.w rfl rfl (.t rfl .nil)) trivial rfl (.of (.t4 (AnswererP.fold (.there (.there (.there (.there .here)))) (.there (.there (.there (.there .here)))) .here (.there (.there (.there .here))) (by first | assumption | omega | rfl | decide) (.t3 (.d (.d (.d .rf)))))))
    · have hd' : k.done = false := by simpa using hd
      by_cases ho : k.p.p.ok ∧ k.p.p.reply = false ∧ y.x.ok
      · rw [Anr.reply_ok hi hpl hd' ho]
        obtain ⟨ho1, ho2, ho3⟩ := ho
        focus
         refine zs <| yB rfl fun b5 => yB rfl fun b7 => yN fun b8 => zc rfl <| yD rfl rfl (.of .rf) raIs_fn <| zc rfl <| zd <| zq <| zu rfl <| zk <| zs ?_
         refine zfl rfl rfl rfl <| zw rfl rfl <| zg rfl ?_
         (refine JT.lk2s rfl ?_ (by assumption) ?_; (· rfl))
         refine zc rfl <| zc rfl <| zc rfl <| zc rfl <| yG rfl <| zf 34 rfl rfl <| yG rfl <| zl rfl rfl <| zy (.pickF rfl rfl) <| zd <| zq <| zi rfl (fun h1 => ?_) (fun h1 => ?_)
         contradiction
         refine zk <| zs <| zfw [_, _, _, _, _, _, _, _, _, _, _, _, _, _, _, _, _, _, _, _, _, _, _, _, _, _, _, _, _, _, _, _, _, _] rfl rfl rfl rfl <| zw rfl rfl <| JT.both ?_ ?_
         refine yE rfl rfl (.of .rf) (mgReply_ok _ _ (by assumption) (by assumption) (by assumption)) fun ⟨a44, c44⟩ _ => zc rfl <| zc rfl <| yN fun b12 => yW rfl rfl rfl rfl rfl <| zc rfl <| zd <| zs <| zy (.cneF rfl rfl (by decide)) <| zd <| zq <| zu rfl ?_
         refine zk <| zs <| zw rfl rfl <| zf 34 rfl rfl <| yS rfl rfl rfl rfl rfl (Nat.le_of_ble_eq_true rfl) rfl <| JT.yA rfl (Ev.Lw rfl rfl) <| zf 35 rfl rfl <| yS (us := [_, _, _, _, _, _, _, _, _, _, _, _, _, _, _, _, _, _, _, _, _, _, _, _, _, _, _, _, _, _, _, _, _, _]) rfl rfl rfl rfl rfl (Nat.le_of_ble_eq_true rfl) (by simp only [lput]; rfl) <| zw rfl rfl <| yE rfl rfl (.of .rf) (raCopied_fn ⟨_, _, _⟩) fun ⟨a59, c59⟩ _ => yW rfl rfl rfl rfl rfl <| zc rfl ?_
         refine zd <| zr ?_
         rotate_left
         refine yN fun b12 => yE rfl rfl (.of .rf) (mgReply_ok _ _ (by assumption) (by assumption) (by assumption)) fun ⟨a44, c44⟩ _ => zc rfl <| zc rfl <| yW rfl rfl rfl rfl rfl <| zc rfl <| zd <| zs <| zy (.cneF rfl rfl (by decide)) <| zd <| zq <| zu rfl ?_
         refine zk <| zs <| zw rfl rfl <| zf 34 rfl rfl <| yS rfl rfl rfl rfl rfl (Nat.le_of_ble_eq_true rfl) rfl <| JT.yA rfl (Ev.Lw rfl rfl) <| zf 35 rfl rfl <| yS (us := [_, _, _, _, _, _, _, _, _, _, _, _, _, _, _, _, _, _, _, _, _, _, _, _, _, _, _, _, _, _, _, _, _, _]) rfl rfl rfl rfl rfl (Nat.le_of_ble_eq_true rfl) (by simp only [lput]; rfl) <| zw rfl rfl <| yE rfl rfl (.of .rf) (raCopied_fn ⟨_, _, _⟩) fun ⟨a59, c59⟩ _ => yW rfl rfl rfl rfl rfl <| zc rfl ?_
         refine zd <| zr ?_
         rotate_left
        all_goals dsimp only
        focus
         rotate_left
        rotate_left 1
        focus
         rotate_left
        rotate_left 1
        all_goals
          have hg2 := AM.putAt (k' := ⟨k.p, true, ⟨mkRep k.p.p y.x, a44, c44⟩⟩) hg hget rfl
          have em : (g.set i ((⟨src, id⟩ : Frm), (q, (⟨k.p, true, ⟨mkRep k.p.p y.x, a44, c44⟩⟩ : KnE)))).map (·.1) = g.map (·.1) := by rw [List.map_set]; exact set_same (by rw [List.getElem?_map, hget]; rfl)
          have em2 : (g.set i ((⟨src, id⟩ : Frm), (q, (⟨k.p, true, ⟨mkRep k.p.p y.x, a44, c44⟩⟩ : KnE)))).map (fun x => (frv x.1, ptr x.2.1)) = g.map (fun x => (frv x.1, ptr x.2.1)) := by rw [List.map_set]; exact set_same (by rw [List.getElem?_map, hget]; rfl)
          rw [← em]
          refine retQ_up (Up.of (Imp.trans (KnP.fold (p := q) (k := (⟨k.p, true, ⟨mkRep k.p.p y.x, a44, c44⟩⟩ : KnE)) (by (repeat (first | exact Has.here | assumption | apply Has.there))) (by (repeat (first | exact Has.here | assumption | apply Has.there))) (Has.dup (c := byO a44 c44 y.x.value) (SlT_pers _ _ _ _ _) (by (repeat (first | exact Has.here | assumption | apply Has.there)))) (Imp.refl _)) (Imp.trans (Imp.take (c := KnP q (⟨k.p, true, ⟨mkRep k.p.p y.x, a44, c44⟩⟩ : KnE)) (by (repeat (first | exact Has.here | assumption | apply Has.there))) (Imp.take (c := KnsA (g.eraseIdx i)) (by (repeat (first | exact Has.here | assumption | apply Has.there))) (Imp.refl _))) (KnsA.put ((⟨src, id⟩ : Frm), (q, (⟨k.p, true, ⟨mkRep k.p.p y.x, a44, c44⟩⟩ : KnE))) hget)))) ?_
          refine retQ_up (Up.of (Imp.trans (Imp.take (c := MtA mb g) (by (repeat (first | exact Has.here | assumption | apply Has.there))) (Imp.refl _)) (Mt.re (ve := fun x : Nat × KnE => ptr x.1) (ve' := fun x : Nat × KnE => ptr x.1) _ em2))) ?_
          exact retQS (a59, c59) (.w rfl rfl (.t rfl .nil)) trivial rfl (Up.of (Imp.trans (Imp.take (c := byO a59 c59 y.x.value) (by (repeat (first | exact Has.here | assumption | apply Has.there))) (Imp.refl _)) (Imp.cons (AnswererP.fold (A := { A with L := A.L.set i (k.p.p, some (mkRep k.p.p y.x)) }) (mb := mb) (h := g.set i ((⟨src, id⟩ : Frm), (q, (⟨k.p, true, ⟨mkRep k.p.p y.x, a44, c44⟩⟩ : KnE)))) (a := oa) (c := oc) (by (repeat (first | exact Has.here | assumption | apply Has.there))) (by (repeat (first | exact Has.here | assumption | apply Has.there))) (by (repeat (first | exact Has.here | assumption | apply Has.there))) (by (repeat (first | exact Has.here | assumption | apply Has.there))) hg2 (by (repeat (first | exact Imp.refl _ | (apply Imp.take; (· (repeat (first | exact Has.here | assumption | apply Has.there)))) | fail | apply Imp.dropT | exact Imp.nil _)))))))
      · rw [Anr.reply_no hi hpl hd' ho]
        focus
         refine zs <| yB rfl fun b5 => yB rfl fun b7 => yN fun b8 => zc rfl <| yD rfl rfl (.of .rf) raIs_fn <| zc rfl <| zd <| zq <| zu rfl <| zk <| zs ?_
         refine zfl rfl rfl rfl <| zw rfl rfl <| zg rfl ?_
         (refine JT.lk2s rfl ?_ (by assumption) ?_; (· rfl))
         refine zc rfl <| zc rfl <| zc rfl <| zc rfl <| yG rfl <| zf 34 rfl rfl <| yG rfl <| zl rfl rfl <| zy (.pickF rfl rfl) <| zd <| zq <| zi rfl (fun h1 => ?_) (fun h1 => ?_)
         contradiction
         refine zk <| zs <| zfw [_, _, _, _, _, _, _, _, _, _, _, _, _, _, _, _, _, _, _, _, _, _, _, _, _, _, _, _, _, _, _, _, _, _] rfl rfl rfl rfl <| zw rfl rfl <| JT.both ?_ ?_
         refine yD rfl rfl (.of .rf) (mgReply_no _ _ (by assumption)) <| zc rfl <| zc rfl <| yN fun b12 => yW rfl rfl rfl rfl rfl <| zc rfl <| zd <| zs <| zy (.cneT rfl rfl (by decide)) <| zd <| zq <| zt rfl ?_
         refine zs <| zg rfl <| yW rfl rfl rfl rfl rfl <| zc rfl <| zd <| zr <| seqQ_r ?_
         rotate_left
         refine yN fun b12 => yD rfl rfl (.of .rf) (mgReply_no _ _ (by assumption)) <| zc rfl <| zc rfl <| yW rfl rfl rfl rfl rfl <| zc rfl <| zd <| zs <| zy (.cneT rfl rfl (by decide)) <| zd <| zq <| zt rfl ?_
         refine zs <| zg rfl <| yW rfl rfl rfl rfl rfl <| zc rfl <| zd <| zr <| seqQ_r ?_
         rotate_left
        all_goals
          refine retQ_up (Up.of (Imp.trans (KnP.fold (p := q) (k := k) (by (repeat (first | exact Has.here | assumption | apply Has.there))) (by (repeat (first | exact Has.here | assumption | apply Has.there))) (by (repeat (first | exact Has.here | assumption | apply Has.there))) (Imp.refl _)) (Imp.trans (Imp.take (c := KnP q k) (by (repeat (first | exact Has.here | assumption | apply Has.there))) (Imp.take (c := KnsA (g.eraseIdx i)) (by (repeat (first | exact Has.here | assumption | apply Has.there))) (Imp.refl _))) (KnsA.back hget)))) ?_
          exact retQS (none, 0) (.w rfl rfl (.t rfl .nil)) trivial rfl (.of (.t5 (AnswererP.fold (.there (.there (.there (.there (.there .here))))) (.there (.there (.there (.there (.there .here))))) .here (.there (.there (.there (.there .here)))) (by first | assumption | omega | rfl | decide) (.t4 (.d (.d (.d (.d .rf))))))))
theorem raWaits_P (b : Nat) (A : Anr) (F : List Assn) (hA : A.Ok) : Meets Try.prog 38 [ptr b] (AnswererP b A :: F)
    (Some' (fun x : Option Addr × Nat × List PktE => x.2.2.map (·.p) = A.waits) (fun x => .slice x.1 x.2.2.length x.2.1) (fun x => SlT true pktEC 34 (.slice x.1 x.2.2.length x.2.1) x.2.1 x.2.2 :: PksA x.2.2 :: AnswererP b A :: F)) := by
  refine Meets.intro b38 k38 (by simp) ?_
  refine J.openAnr Has.here (fun mb g oa oc hg hoc => ?_)
  have hlen := AM.len hg
  have hl := hA.len
  have hgl : (g.map (·.1)).length = g.length := by simp
  refine J.imp PksA.nil ?_
  focus
   refine zs <| zc rfl <| yD rfl rfl (.of .rf) raIs_fn <| zc rfl <| zd <| zq <| zu rfl <| zk <| zs <| zc rfl <| zfl rfl rfl rfl <| zc rfl ?_
   refine zc rfl <| zd <| zq <| zb ?_
  refine J.lp (ι := Nat × Option Addr × Nat × List PktE) (fun i => i.1 ≤ A.L.length ∧ i.2.2.2.map (·.p) = ((A.L.take i.1).filter fun x => x.2.isNone).map (·.1)) (fun i => [(3, .slice i.2.1 i.2.2.2.length i.2.2.1), (15, i64 (i.1 : Int))])
    (fun i => SlT true pktEC 34 (.slice i.2.1 i.2.2.2.length i.2.2.1) i.2.2.1 i.2.2.2 :: PksA i.2.2.2 :: pc b 110 (anrC A mb (g.map (·.1)).length oa oc) :: MtA mb g :: KnsA g :: SlT true frmC 3 (.slice oa (g.map (·.1)).length oc) oc (g.map (·.1)) :: F)
    (fun i => A.L.length - i.1) (0, none, 0, []) ⟨by simp, by simp⟩ (by exact subxR rfl) (Up.nilS (enc := pktEC) (sz := 34) true (by decide) (.of (.t0 (.t0 (.t0 (.t0 (.t0 (.t0 .rf)))))))) (fun i hi => ?_)
  obtain ⟨i, a3, c3, xs⟩ := i
  obtain ⟨hi, hxs⟩ := hi
  dsimp only at hi hxs ⊢
  have hxl : xs.length ≤ i := by
    have := congrArg List.length hxs
    simp only [List.length_map] at this
    rw [this]; exact Nat.le_trans (List.length_filter_le _ _) (by rw [List.length_take]; omega)
  by_cases hlt : i < A.L.length
  · obtain ⟨q, k, hget, hpl⟩ := AM.nth hg hlt
    have hkey : nth (g.map (·.1)) i = kF (nth A.L i) := by
      rw [nth_eq (by omega), List.getElem_map]
      have hgi : i < g.length := by omega
      rw [List.getElem?_eq_getElem hgi] at hget
      rw [Option.some.inj hget]
    have hk : alk g (nth (g.map (·.1)) i) = some (q, k) := by
      rw [alk_aix]
      have e : aix g (nth (g.map (·.1)) i) = some i := by
        unfold aix
        rw [List.findIdx?_eq_some_iff_getElem]
        have hi' : i < (g.map (·.1)).length := by omega
        refine ⟨hi', by rw [nth_eq hi']; simp, fun j hj => ?_⟩
        have hnd := hA.nd
        rw [← AM.keys hg] at hnd
        have := List.pairwise_iff_getElem.1 hnd j i (by omega) hi' hj
        rw [nth_eq hi']
        simp only [decide_eq_true_eq]
        exact fun h => this h.symm
      rw [e]; simp [hget]
    have hsn : ((A.L.take (i + 1)).filter fun x => x.2.isNone).map (·.1) = xs.map (·.p) ++ (if k.done then [] else [k.p.p]) := by
      rw [List.take_add_one, List.getElem?_eq_getElem hlt, ← nth_eq hlt, hxs, List.filter_append, List.map_append, ← hpl]
      congr 1
      simp only [Option.toList_some, List.filter_cons, List.filter_nil]
      unfold KnE.pl
      cases k.done <;> simp
    refine J.imp (Imp.trans (Imp.take (c := KnsA g) (by (repeat (first | exact Has.here | assumption | apply Has.there))) (Imp.refl _)) (KnsA.take hget)) ?_
    refine J.openKn (p := q) (k := k) Has.here ?_
    have hbk : ∀ r, Imp (KnP q k :: KnsA (g.eraseIdx i) :: r) (KnsA g :: r) := fun r => KnsA.back (r := r) hget
    by_cases hd : k.done = true
    · rw [hd] at hsn
      focus
       refine zs <| zy (.cltT rfl rfl (by omega)) <| zd <| zq <| zt rfl <| zk <| zq <| zb <| zs <| zy (.iC rfl rfl (by omega)) <| zy (.LE rfl (by omega)) <| yN fun b5 => ?_
       refine yW rfl rfl rfl rfl rfl <| zfl rfl rfl rfl <| zw rfl rfl <| JT.lk1s rfl (by rfl) (by assumption) ?_
       refine zfl rfl rfl rfl <| zc rfl <| zd <| zi rfl (fun h1 => ?_) (fun h1 => ?_)
       exact Bool.noConfusion (h1.symm.trans hd)
       refine zk <| zo <| zy (.addN rfl rfl (by omega)) <| zd <| seqQ_n ?_
      refine ⟨(i + 1, a3, c3, xs), ⟨by dsimp only; omega, by dsimp only; rw [hsn]; simp⟩, by dsimp only; omega, by exact subxR rfl, ?_⟩
      exact Up.of (Imp.trans (KnP.fold (p := q) (k := k) (by (repeat (first | exact Has.here | assumption | apply Has.there))) (by (repeat (first | exact Has.here | assumption | apply Has.there))) (by (repeat (first | exact Has.here | assumption | apply Has.there))) (Imp.refl _)) (Imp.trans (Imp.take (c := KnP q k) (by (repeat (first | exact Has.here | assumption | apply Has.there))) (Imp.take (c := KnsA (g.eraseIdx i)) (by (repeat (first | exact Has.here | assumption | apply Has.there))) (Imp.refl _))) (Imp.trans (hbk _) (by (repeat (first | exact Imp.refl _ | (apply Imp.take; (· (repeat (first | exact Has.here | assumption | apply Has.there)))) | fail | apply Imp.dropT | exact Imp.nil _))))))
    · have hd' : k.done = false := by simpa using hd
      rw [hd'] at hsn
      focus
       refine zs <| zy (.cltT rfl rfl (by omega)) <| zd <| zq <| zt rfl <| zk <| zq <| zb <| zs <| zy (.iC rfl rfl (by omega)) <| zy (.LE rfl (by omega)) <| yN fun b5 => ?_
       refine yW rfl rfl rfl rfl rfl <| zfl rfl rfl rfl <| zw rfl rfl <| JT.lk1s rfl (by rfl) (by assumption) ?_
       refine zfl rfl rfl rfl <| zc rfl <| zd <| zi rfl (fun h1 => ?_) (fun h1 => ?_)
       refine zo <| zfw [_, _, _, _, _, _, _, _, _, _, _, _, _, _, _, _, _, _, _, _, _, _, _, _, _, _, _, _, _, _, _, _, _, _] rfl rfl rfl rfl <| JT.bsl1 (by repeat (first | exact Cells.nil | apply Cells.z | (apply Cells.cl; rfl; rfl; rfl))) (by simp only [List.length_cons, List.length_nil, Nat.reduceAdd]; rfl) (by decide) (by rfl) fun a35 => ?_
       (refine JT.A1 rfl rfl (by rfl) rfl (by decide) (by omega) (fun a3_1 c3_1 hc3 => ?_))
       refine zd <| zo <| zy (.addN rfl rfl (by omega)) <| zd <| seqQ_n ?_
       rotate_left
       contradiction
      refine ⟨(i + 1, a3_1, c3_1, xs ++ [k.p]), ⟨by dsimp only; omega, by dsimp only; rw [hsn]; simp⟩, by dsimp only; omega, by exact subxR rfl, ?_⟩
      exact Up.of (Imp.trans (KnP.fold (p := q) (k := k) (by (repeat (first | exact Has.here | assumption | apply Has.there))) (Has.dup (c := pkO k.p) (SlT_pers _ _ _ _ _) (by (repeat (first | exact Has.here | assumption | apply Has.there)))) (by (repeat (first | exact Has.here | assumption | apply Has.there))) (Imp.refl _)) (Imp.trans (Imp.take (c := KnP q k) (by (repeat (first | exact Has.here | assumption | apply Has.there))) (Imp.take (c := KnsA (g.eraseIdx i)) (by (repeat (first | exact Has.here | assumption | apply Has.there))) (Imp.refl _))) (Imp.trans (hbk _) (Imp.trans (Imp.take (c := pkO k.p) (by (repeat (first | exact Has.here | assumption | apply Has.there))) (Imp.take (c := PksA xs) (by (repeat (first | exact Has.here | assumption | apply Has.there))) (Imp.refl _))) (Imp.trans PksA.snoc (by (repeat (first | exact Imp.refl _ | (apply Imp.take; (· (repeat (first | exact Has.here | assumption | apply Has.there)))) | fail | apply Imp.dropT | exact Imp.nil _))))))))
  · focus
     refine zs <| zy (.cltF rfl rfl (by omega)) <| zd <| zq <| zu rfl <| zx <| zs <| zc rfl <| zd <| zr ?_
    rw [show i = A.L.length by omega, List.take_length] at hxs
    exact retQS (a3, c3, xs) (.t rfl .nil) hxs rfl (.of (.t0 (.t0 (AnswererP.fold .here .here .here .here (by first | assumption | omega | rfl | decide) .rf))))
end Go.Proofs.Ytienlpaehgdpaaa
