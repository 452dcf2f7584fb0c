/- The law RpcCalls: what its functions do. Conditions: none. -/
import Derived.Test.YtienlpaehgdpaaaTq
import Derived.Test.YtienlpaehgdpaaaTl
set_option linter.unusedSimpArgs false
set_option linter.unusedVariables false
set_option maxRecDepth 100000
set_option maxHeartbeats 4000000
namespace Go.SL
open Go
/-- A call of layer 6, as it lies in a row. -/
structure OpE where
  kind : Int
  dst : Ad
  ask : Ask
  p : PktE
  id : Int
  x : AnsE
  deriving Inhabited
def opEC (o : OpE) : List Value := [i64 o.kind, .bool o.dst.agent, i64 o.dst.n, i64 o.ask.kind, i64 o.ask.w.len, u64 o.ask.w.bits, i64 o.ask.ref.id, i64 o.ask.ref.key.rank, u64 o.ask.ref.key.n, i64 o.ask.ref.vec.len, u64 o.ask.ref.vec.bits, i64 o.ask.ref2.id, i64 o.ask.ref2.key.rank, u64 o.ask.ref2.key.n, i64 o.ask.ref2.vec.len, u64 o.ask.ref2.vec.bits, i64 o.ask.o.agent, i64 o.ask.o.op,
  .bool o.p.p.reply, .bool o.p.p.src.agent, i64 o.p.p.src.n, .bool o.p.p.dst.agent, i64 o.p.p.dst.n, i64 o.p.p.id,
  i64 o.p.p.ask.kind, i64 o.p.p.ask.w.len, u64 o.p.p.ask.w.bits, i64 o.p.p.ask.ref.id, i64 o.p.p.ask.ref.key.rank, u64 o.p.p.ask.ref.key.n, i64 o.p.p.ask.ref.vec.len, u64 o.p.p.ask.ref.vec.bits, i64 o.p.p.ask.ref2.id, i64 o.p.p.ask.ref2.key.rank, u64 o.p.p.ask.ref2.key.n, i64 o.p.p.ask.ref2.vec.len, u64 o.p.p.ask.ref2.vec.bits, i64 o.p.p.ask.o.agent, i64 o.p.p.ask.o.op,
  i64 o.p.p.ans.kind, .bool o.p.p.ans.marked, i64 o.p.p.ans.left.id, i64 o.p.p.ans.left.key.rank, u64 o.p.p.ans.left.key.n, i64 o.p.p.ans.left.vec.len, u64 o.p.p.ans.left.vec.bits, i64 o.p.p.ans.right.id, i64 o.p.p.ans.right.key.rank, u64 o.p.p.ans.right.key.n, i64 o.p.p.ans.right.vec.len, u64 o.p.p.ans.right.vec.bits, .slice o.p.a o.p.p.ans.value.length o.p.c,
  i64 o.id,
  i64 o.x.x.kind, .bool o.x.x.marked, i64 o.x.x.left.id, i64 o.x.x.left.key.rank, u64 o.x.x.left.key.n, i64 o.x.x.left.vec.len, u64 o.x.x.left.vec.bits, i64 o.x.x.right.id, i64 o.x.x.right.key.rank, u64 o.x.x.right.key.n, i64 o.x.x.right.vec.len, u64 o.x.x.right.vec.bits, .slice o.x.a o.x.x.value.length o.x.c]
theorem opEC_one : ∀ o : OpE, (opEC o).length = 66 ∧ ∀ v ∈ opEC o, isOne v = true := by intro o; simp [opEC, isOne]
instance : FS opEC 1 2 adC OpE.dst := ⟨fun _ => rfl⟩
instance : FS opEC 3 15 askC OpE.ask := ⟨fun _ => rfl⟩
instance : FS opEC 18 34 pktEC OpE.p := ⟨fun _ => rfl⟩
instance : FS opEC 19 2 adC (fun o => o.p.p.src) := ⟨fun _ => rfl⟩
instance : FS opEC 53 13 ansEC OpE.x := ⟨fun _ => rfl⟩
abbrev anO (y : AnsE) : Assn := byO y.a y.c y.x.value
def AnsA (xs : List AnsE) : Assn := sep (xs.map anO)
theorem sepP_get {α : Type} [Inhabited α] {f : α → Assn} (hp : ∀ x, (f x).pers) {l : List α} {i : Nat} (h : i < l.length) {r : List Assn} : Imp (sep (l.map f) :: r) (f (nth l i) :: sep (l.map f) :: r) := by
  have h1 := sep_take (f := f) (l := l) (i := i) (x := nth l i) (by rw [nth_eq h]; exact List.getElem?_eq_getElem h) (r := sep (l.map f) :: r)
  refine Imp.trans (Has.dup (sep_pers fun c hc => ?_) Has.here) (Imp.trans h1 (Imp.cons Imp.drop))
  obtain ⟨x, _, rfl⟩ := List.mem_map.1 hc; exact hp x
theorem AnsA.get {xs : List AnsE} {i : Nat} (h : i < xs.length) {r : List Assn} : Imp (AnsA xs :: r) (anO (nth xs i) :: AnsA xs :: r) := sepP_get (f := anO) (fun _ => SlT_pers _ _ _ _ _) h
theorem Up.nilP {Q : Pkt} (h : Q.ans.value = []) {cs : List Assn} : Up cs (pkO (p0 Q) :: cs) := by
  unfold pkO
  simp only [h]
  exact Up.nilS false (by decide) (Up.refl _)
theorem PksA.nils : ∀ {l : List Pkt} {cs : List Assn}, (∀ p ∈ l, p.ans.value = []) → Up cs (PksA (l.map p0) :: cs)
  | [], _, _ => Up.of PksA.nil
  | p :: l, cs, h => by
    refine (PksA.nils (l := l) (cs := cs) fun q hq => h q (by simp [hq])).trans ?_
    refine (Up.nilP (h p (by simp))).trans (Up.of PksA.cons)
theorem Clr.ask_ans (C : Clr) (to : Ad) (a : Ask) : (C.ask to a).2.1.ans.value = [] := by
  rcases Clr.ask_cases C to a with ⟨_, e, _⟩ | ⟨e, _⟩ <;> rw [e] <;> rfl
theorem Clr.fin_ans {C : Clr} (h : C.Ok) (id : Int) : (C.fin id).2.1.ans.value = [] := by
  rcases Clr.fin_cases C id with ⟨e, _⟩ | ⟨i, hi, e⟩ <;> rw [e]
  · rfl
  · simp only; rw [h.ans _ (nth_mem (Clr.ix_some hi).1)]; rfl
theorem Clr.take_ans {C : Clr} (h : C.Ok) (p : Pkt) : (C.take p).2.1.ans.value = [] := by
  rcases Clr.take_cases C p with e | ⟨i, hi, e, _⟩ <;> rw [e]
  · rfl
  · simp only; rw [h.ans _ (nth_mem (Clr.ix_some hi).1)]; rfl
theorem Clr.tick_ans {C : Clr} (h : C.Ok) : ∀ p ∈ C.tick.2, p.ans.value = [] := by
  intro p hp
  simp only [Clr.tick, List.mem_map, List.mem_filter] at hp
  obtain ⟨x, ⟨hx, _⟩, rfl⟩ := hp
  rw [h.ans x hx]; rfl
theorem Clr.opn_ans {C : Clr} (h : C.Ok) : ∀ p ∈ C.opn, p.ans.value = [] := by
  intro p hp
  simp only [Clr.opn, List.mem_map] at hp
  obtain ⟨x, hx, rfl⟩ := hp
  rw [h.ans x hx]; rfl
def Clr.act (C : Clr) (x : OpE) : Clr :=
  if x.kind = 1 then (C.ask x.dst x.ask).1 else if x.kind = 2 then (C.take x.p.p).1 else if x.kind = 3 then C.tick.1 else if x.kind = 4 then (C.fin x.id).1 else C
theorem Clr.Ok.act {C : Clr} (h : C.Ok) (x : OpE) : (C.act x).Ok := by
  unfold Clr.act
  repeat' split
  · exact h.ask _ _
  · exact h.take _
  · exact h.tick
  · exact h.fin _
  · exact h
/-- How old requests are at most. -/
def Clr.young (C : Clr) (n : Nat) : Prop := ∀ x ∈ C.L, x.age ≤ n
theorem Clr.young.act {C : Clr} {n : Nat} (h : C.young n) (x : OpE) : (C.act x).young (n + 1) := by
  have h' : C.young (n + 1) := fun y hy => by have := h y hy; omega
  unfold Clr.act
  split
  · rcases Clr.ask_cases C x.dst x.ask with ⟨e, _⟩ | ⟨e, _⟩
    · rw [e]; exact h'
    · rw [e]; intro y hy
      simp only [List.mem_append, List.mem_singleton] at hy
      rcases hy with hy | rfl
      · exact h' y hy
      · simp only; omega
  · split
    · rcases Clr.take_cases C x.p.p with e | ⟨i, _, e, _⟩ <;> rw [e]
      · exact h'
      · exact fun y hy => h' y (mem_of_erase hy)
    · split
      · intro y hy
        simp only [Clr.tick, List.mem_map] at hy
        obtain ⟨z, hz, rfl⟩ := hy
        have := h z hz
        simp only [CallE.up]; omega
      · split
        · rcases Clr.fin_cases C x.id with ⟨e, _⟩ | ⟨i, _, e⟩ <;> rw [e]
          · exact h'
          · exact fun y hy => h' y (mem_of_erase hy)
        · exact h'
end Go.SL
namespace Go.Proofs.Ytienlpaehgdpaaa
open Go Go.SL
attribute [local irreducible] pc rc SlT Me Mt It pt ro pur ex sep old Meets
attribute [local irreducible] CallsA CallerP KnP KnsA AnswererP RCallerP
instance : TE 65 OpE opEC 66 := ⟨opEC_one, by decide⟩
theorem l06light_fn (x : PktE) (F : List Assn) : Meets Try.prog 19 [pkv x] F (Det (.bool (decide (x.p.ans.value.length ≤ 3000))) F) := by
  refine Meets.intro b19 k19 (by simp) ?_
  focus
   refine zs <| yB rfl fun b1 => zc rfl <| zf 21 rfl rfl <| zfl rfl rfl rfl <| zc rfl <| zj rfl rfl rfl <| zd <| zr <| yR (.t rfl .nil) ?_ (.of (.d .rf))
  simp only [mkRet]; congr 1; rw [Bool.eq_iff_iff]; simp only [decide_eq_true_eq]; omega
theorem l06called_fn (p q : Nat) (C : Clr) (x : OpE) (F : List Assn) (hC : C.Ok) (hA : ∀ x ∈ C.L, x.age < 4611686018427387904) : Meets Try.prog 20 [ptr p, ptr q, .agg (opEC x).toArray] (CallerP p C :: RCallerP q C :: pkO x.p :: F) (Det (.bool true) (CallerP p (C.act x) :: RCallerP q (C.act x) :: pkO x.p :: F)) := by
  refine Meets.intro b20 k20 (by simp) ?_
  unfold Clr.act
  by_cases h1 : x.kind = 1
  · rw [if_pos h1]
    have hQ := Clr.ask_ans C x.dst x.ask
    have hP := fun F => rcAsk_P p C x.dst x.ask F hC
    have hR := fun F => r6cAsk_P q C x.dst x.ask F hC
    generalize C.ask x.dst x.ask = R at hQ hP hR ⊢
    obtain ⟨C', Q, e⟩ := R
    dsimp only at hQ hP hR ⊢
    refine J.up (Up.nilP hQ) ?_
    focus
     refine zs <| yB rfl fun b5 => zc rfl <| zfl rfl rfl rfl <| zd <| zb <| zs <| zy (.ceqT rfl rfl (by omega)) <| zd <| zt rfl <| zs <| zfw [_, _] rfl rfl rfl rfl ?_
     refine zfw [_, _, _, _, _, _, _, _, _, _, _, _, _, _, _] rfl rfl rfl rfl <| yD rfl rfl (.of (.t2 .rf)) (hP _) <| zc rfl <| zc rfl <| yN fun b7 => yW rfl rfl rfl rfl rfl <| zfw [_, _] rfl rfl rfl rfl <| zfw [_, _, _, _, _, _, _, _, _, _, _, _, _, _, _] rfl rfl rfl rfl <| yD rfl rfl (.of (.t4 .rf)) (hR _) <| zc rfl <| zc rfl <| yN fun b9 => ?_
     refine yW rfl rfl rfl rfl rfl <| zw rfl rfl <| zw rfl rfl <| yD rfl rfl (.of .rf) (r4Same_fn _ _) <| zm rfl rfl (fun h2 => .ceqT rfl rfl (by omega)) <| zy (.pickA rfl rfl rfl) <| zd <| zr <| yR (.t rfl .nil) ?_ (.of (.t3 (.t1 (.t4 (.d (.d (.d (.d .rf))))))))
    simp [mkRet]
  rw [if_neg h1]
  by_cases h2 : x.kind = 2
  · rw [if_pos h2]
    have hQ := Clr.take_ans hC x.p.p
    have hP := fun (F : List Assn) (H : HS F (.slice x.p.a x.p.p.ans.value.length x.p.c) UInt8 byteC 1 x.p.c x.p.p.ans.value) => rcTake_P p C x.p F
    have hR := fun (F : List Assn) (H : HS F (.slice x.p.a x.p.p.ans.value.length x.p.c) UInt8 byteC 1 x.p.c x.p.p.ans.value) => r6cTake_P q C x.p F hC
    generalize C.take x.p.p = R at hQ hP hR ⊢
    obtain ⟨C', Q, e⟩ := R
    dsimp only at hQ hP hR ⊢
    refine J.up (Up.nilP hQ) ?_
    have hP' := fun F => hP (pkO x.p :: F) inferInstance
    have hR' := fun F => hR (pkO x.p :: F) inferInstance
    clear hP hR
    focus
     refine zs <| yB rfl fun b5 => zc rfl <| zfl rfl rfl rfl <| zd <| zb <| zs <| zy (.ceqF rfl rfl (by omega)) <| zd <| zu rfl <| zs <| zy (.ceqT rfl rfl (by omega)) ?_
     refine zd <| zt rfl <| zs <| zfw [_, _, _, _, _, _, _, _, _, _, _, _, _, _, _, _, _, _, _, _, _, _, _, _, _, _, _, _, _, _, _, _, _, _] rfl rfl rfl rfl <| yD rfl rfl (.of (.t2 (.t3 .rf))) (hP' _) <| zc rfl <| zc rfl <| yN fun b11 => yW rfl rfl rfl rfl rfl <| zfw [_, _, _, _, _, _, _, _, _, _, _, _, _, _, _, _, _, _, _, _, _, _, _, _, _, _, _, _, _, _, _, _, _, _] rfl rfl rfl rfl <| yD rfl rfl (.of (.t5 (.t2 .rf))) (hR' _) <| zc rfl ?_
     refine zc rfl <| yN fun b13 => yW rfl rfl rfl rfl rfl <| zw rfl rfl <| zw rfl rfl <| yD rfl rfl (.of .rf) (r4Same_fn _ _) <| zm rfl rfl (fun h3 => .calc rfl) <| zy (.pickA rfl rfl rfl) <| zd <| zr <| yR (.t rfl .nil) ?_ (.of (.t4 (.t1 (.t1 (.d (.d (.d (.d .rf))))))))
    simp [mkRet]
  rw [if_neg h2]
  by_cases h3 : x.kind = 3
  · rw [if_pos h3]
    have hQ := Clr.tick_ans hC
    have hP := fun F => rcTick_P p C F hC hA
    have hR := fun F => r6cTick_P q C F hC hA
    generalize C.tick = R at hQ hP hR ⊢
    obtain ⟨C', Q⟩ := R
    dsimp only at hQ hP hR ⊢
    refine J.up (PksA.nils hQ) ?_
    refine J.up (PksA.nils hQ) ?_
    focus
     refine zs <| yB rfl fun b5 => zc rfl <| zfl rfl rfl rfl <| zd <| zb <| zs <| zy (.ceqF rfl rfl (by omega)) <| zd <| zu rfl <| zs <| zy (.ceqF rfl rfl (by omega)) ?_
     refine zd <| zu rfl <| zs <| zy (.ceqT rfl rfl (by omega)) <| zd <| zt rfl <| zs <| yE rfl rfl (.of (.t3 .rf)) (hP _) fun ⟨a76, c76⟩ _ => yE rfl rfl (.of (.t5 .rf)) (hR _) fun ⟨a78, c78⟩ _ => yD rfl rfl (.of (.t5 (.t5 .rf))) r6Same_fn <| zd <| zr ?_
     refine yR (.t rfl .nil) ?_ (.of (.t3 (.t1 (.t3 (.d (.d (.d .rf)))))))
    simp [mkRet]
  rw [if_neg h3]
  by_cases h4 : x.kind = 4
  · rw [if_pos h4]
    have hQ := Clr.fin_ans hC x.id
    have hP := fun F => rcEnd_P p C x.id F
    have hR := fun F => r6cEnd_P q C x.id F hC
    generalize C.fin x.id = R at hQ hP hR ⊢
    obtain ⟨C', Q, e⟩ := R
    dsimp only at hQ hP hR ⊢
    refine J.up (Up.nilP hQ) ?_
    focus
     refine zs <| yB rfl fun b5 => zc rfl <| zfl rfl rfl rfl <| zd <| zb <| zs <| zy (.ceqF rfl rfl (by omega)) <| zd <| zu rfl <| zs <| zy (.ceqF rfl rfl (by omega)) ?_
     refine zd <| zu rfl <| zs <| zy (.ceqF rfl rfl (by omega)) <| zd <| zu rfl <| zs <| zy (.ceqT rfl rfl (by omega)) <| zd <| zt rfl <| zs <| zfl rfl rfl rfl ?_
     refine yD rfl rfl (.of (.t2 .rf)) (hP _) <| zc rfl <| zc rfl <| yN fun b15 => yW rfl rfl rfl rfl rfl <| zfl rfl rfl rfl <| yD rfl rfl (.of (.t4 .rf)) (hR _) <| zc rfl <| zc rfl <| yN fun b17 => yW rfl rfl rfl rfl rfl <| zw rfl rfl ?_
     refine zw rfl rfl <| yD rfl rfl (.of .rf) (r4Same_fn _ _) <| zm rfl rfl (fun h5 => .calc rfl) <| zy (.pickA rfl rfl rfl) <| zd <| zr <| yR (.t rfl .nil) ?_ (.of (.t3 (.t1 (.t4 (.d (.d (.d (.d .rf))))))))
    simp [mkRet]
  rw [if_neg h4]
  focus
   refine zs <| yB rfl fun b5 => zc rfl <| zfl rfl rfl rfl <| zd <| zb <| zs <| zy (.ceqF rfl rfl (by omega)) <| zd <| zu rfl <| zs <| zy (.ceqF rfl rfl (by omega)) ?_
   refine zd <| zu rfl <| zs <| zy (.ceqF rfl rfl (by omega)) <| zd <| zu rfl <| zs <| zy (.ceqF rfl rfl (by omega)) <| zd <| zu rfl <| zs <| zc rfl ?_
   refine zd <| zr <| yR (.t rfl .nil) rfl (.of (.t1 (.t1 (.t1 (.d .rf)))))
theorem RpcCalls_fn {a1 : Option Addr} {c1 : Nat} {xs : List OpE} (me : Ad) (again : Int) {F : List Assn} [Hs : HS F (.slice a1 xs.length c1) OpE opEC 66 c1 xs] :
    Meets Try.prog 4 [adv me, i64 again, .slice a1 xs.length c1] (PksA (xs.map (·.p)) :: F) (Det (.bool true) (PksA (xs.map (·.p)) :: F)) := by
  refine Meets.intro b4 k4 (by simp) ?_
  refine J.sl (inferInstance : HS (PksA (xs.map (·.p)) :: F) (.slice a1 xs.length c1) OpE opEC 66 c1 xs) (fun hC hL _ => ?_)
  by_cases hag : 1 ≤ again ∧ again ≤ 1048576
  · focus
     refine zs <| yB rfl fun b3 => zc rfl <| yD rfl rfl (.of .rf) (l06awake_fn _) <| zc rfl <| zd <| zq <| zu rfl <| zk <| zs <| zw rfl rfl <| yE rfl rfl (.of .rf) (rcNew_ok _ _ _ (by assumption)) fun x17 _ => ?_
     refine zc rfl <| zc rfl <| zc rfl <| zw rfl rfl <| yE rfl rfl (.of .rf) (r6NewCaller_ok _ _ _ (by assumption)) fun x23 _ => zc rfl <| zc rfl <| zc rfl <| zy (.cneF rfl rfl (by decide)) <| yG rfl <| zc rfl <| yG rfl ?_
     refine zc rfl <| yG rfl <| zc rfl <| zy (.pickF rfl rfl) <| zd <| zq <| zi rfl (fun h1 => ?_) (fun h1 => ?_)
     refine zs <| zc rfl <| zd <| zr <| yR (.t rfl .nil) ?_ (.of (.t3 (.d (.d (.d .rf)))))
     rotate_left
     refine zk <| zs <| zc rfl <| zd <| zq <| zb ?_
     rotate_left
    · exfalso; rcases h1 with ⟨e, _⟩ | ⟨_, e⟩ <;> cases e
    refine J.lp (ι := Nat × Clr) (fun i => i.1 ≤ xs.length ∧ i.1 ≤ 60 ∧ i.2.Ok ∧ i.2.young i.1) (fun i => [(11, i64 (i.1 : Int))]) (fun i => CallerP x17 i.2 :: RCallerP x23 i.2 :: PksA (xs.map (·.p)) :: pc b3 45 (adC me) :: F) (fun i => xs.length - i.1) (0, Clr.new me again) ⟨by simp, by simp, .new me hag.1, by intro x hx; simp [Clr.new] at hx⟩ (by exact subxR rfl) (.of (.t1 (.t0 (.t1 (.t0 .rf))))) (fun i hi => ?_)
    obtain ⟨k, C⟩ := i
    obtain ⟨hk, hk6, hO, hy⟩ := hi
    dsimp only at hk hk6 hO hy ⊢
    by_cases hlt : k < xs.length ∧ k < 60
    · obtain ⟨hlt, hk60⟩ := hlt
      have hn : nth (xs.map (·.p)) k = (nth xs k).p := by rw [nth_eq (by simpa using hlt), nth_eq hlt, List.getElem_map]
      have hy1 : C.young (k + 1) := fun y hy' => by have := hy y hy'; omega
      by_cases hlight : (nth xs k).p.p.ans.value.length ≤ 3000
      · have hA : ∀ x ∈ C.L, x.age < 4611686018427387904 := fun x hx => by have := hy x hx; omega
        have hca := fun p q F => l06called_fn p q C (nth xs k) F hO hA
        have hO2 := hO.act (nth xs k)
        have hy2 := hy.act (nth xs k)
        generalize C.act (nth xs k) = C2 at hca hO2 hy2
        have hQ := Clr.opn_ans hO2
        have hP := fun p F => rcOpen_P p C2 F hO2
        have hR := fun p F => r6cOpen_P p C2 F hO2
        generalize C2.opn = Q at hQ hP hR
        refine J.up (PksA.nils hQ) ?_
        refine J.up (PksA.nils hQ) ?_
        refine J.imp (Imp.trans (Imp.take (c := PksA (xs.map (·.p))) (by (repeat (first | exact Has.here | assumption | apply Has.there))) (Imp.refl _)) (PksA.get (i := k) (by simpa using hlt))) ?_
        rw [hn]
        focus
         refine zs <| zc rfl <| zy (.cltT rfl rfl (by omega)) <| yG rfl <| zy (.cltT rfl rfl (by omega)) <| zy (.pickT rfl rfl) <| yG rfl <| zc rfl <| zy (.pickT rfl rfl) <| zd <| zq <| zi rfl (fun h2 => ?_) (fun h2 => ?_)
         refine zk <| zq <| zb <| zs <| zy (.iC rfl rfl (by omega)) <| zy (.fe rfl) <| zy (.LEf rfl (by omega) (by decide)) <| yD rfl rfl (.of .rf) (l06light_fn _ _) <| zc rfl <| zd <| zq <| zi rfl (fun h3 => ?_) (fun h3 => ?_)
         (exfalso; omega)
         refine zk <| zs <| zy (.iC rfl rfl (by omega)) <| zy (.LE rfl (by omega)) <| yD rfl rfl (.of (.t4 (.t4 (.t0 .rf)))) (hca _ _ _) <| zc rfl <| yG rfl <| yE rfl rfl (.of (.t0 .rf)) (hP _ _) fun ⟨a67, c67⟩ _ => yG rfl <| yE rfl rfl (.of (.t2 .rf)) (hR _ _) fun ⟨a69, c69⟩ _ => yG rfl <| yD rfl rfl (.of (.t6 (.t6 .rf))) r6Same_fn ?_
         refine yG rfl <| zc rfl <| zy (.pickF rfl rfl) <| zd <| zi rfl (fun h4 => ?_) (fun h4 => ?_)
         contradiction
         refine zk <| zo <| zy (.addN rfl rfl (by omega)) <| zd <| ⟨⟨_, _⟩, ?_, (by omega), (subxR rfl), (.of (.t3 (.t1 (.t3 (.t3 (.d (.d (.d .rf))))))))⟩
         rotate_left
         contradiction
        exact ⟨by dsimp only; omega, by dsimp only; omega, hO2, hy2⟩
      · focus
         refine zs <| zc rfl <| zy (.cltT rfl rfl (by omega)) <| yG rfl <| zy (.cltT rfl rfl (by omega)) <| zy (.pickT rfl rfl) <| yG rfl <| zc rfl <| zy (.pickT rfl rfl) <| zd <| zq <| zi rfl (fun h2 => ?_) (fun h2 => ?_)
         refine zk <| zq <| zb <| zs <| zy (.iC rfl rfl (by omega)) <| zy (.fe rfl) <| zy (.LEf rfl (by omega) (by decide)) <| yD rfl rfl (.of .rf) (l06light_fn _ _) <| zc rfl <| zd <| zq <| zi rfl (fun h3 => ?_) (fun h3 => ?_)
         refine zx <| zo <| zy (.addN rfl rfl (by omega)) <| zd <| ⟨⟨_, _⟩, ?_, (by omega), (subxR rfl), (.of (.t0 (.t0 (.t0 (.t0 .rf)))))⟩
         rotate_left
         (exfalso; omega)
         contradiction
        exact ⟨by dsimp only; omega, by dsimp only; omega, hO, hy1⟩
    · focus
       refine zs <| zc rfl <| zj rfl rfl rfl <| zm rfl rfl (fun h2 => .int rfl rfl rfl) <| zy (.pickA rfl rfl rfl) <| yTs rfl (by omega) <| zy (.pickFp rfl (by omega) rfl) <| zd <| zq <| zu rfl <| zx <| zs ?_
       refine zc rfl <| zd <| zr <| yR (.t rfl .nil) rfl (.of (.t2 (.d (.d (.d .rf)))))
  · focus
     refine zs <| yB rfl fun b3 => zc rfl <| yD rfl rfl (.of .rf) (l06awake_fn _) <| zc rfl <| zd <| zq <| zu rfl <| zk <| zs <| zw rfl rfl <| yD rfl rfl (.of .rf) (rcNew_no _ _ _ (by assumption)) ?_
     refine zc rfl <| zc rfl <| zc rfl <| zw rfl rfl <| yD rfl rfl (.of .rf) (r6NewCaller_no _ _ _ (by assumption)) <| zc rfl <| zc rfl <| zc rfl <| zy (.cneF rfl rfl (by decide)) <| yG rfl <| zc rfl <| yG rfl ?_
     refine zc rfl <| yG rfl <| zc rfl <| zy (.pickF rfl rfl) <| zd <| zq <| zu rfl <| zk <| zs <| zc rfl <| zd <| zq ?_
     refine zb ?_
    refine J.lp (ι := Unit) (fun _ => True) (fun _ => []) (fun _ => PksA (xs.map (·.p)) :: pc b3 45 (adC me) :: F) (fun _ => 0) () trivial (by exact subxR rfl) (.of (.t1 (.t0 .rf))) (fun _ _ => ?_)
    focus
     refine zs <| zc rfl <| zj rfl rfl rfl <| zm rfl rfl (fun h1 => .cltT rfl rfl (by decide)) <| zy (.pickA rfl rfl rfl) <| zm rfl rfl (fun h1 => .calc rfl) <| zy (.pickA rfl rfl rfl) <| zd <| zq <| zi rfl (fun h1 => ?_) (fun h1 => ?_)
     refine zk <| zq <| zb <| zs <| zy (.iC rfl rfl (by omega)) <| zy (.fe2 18 rfl rfl) ?_
     rotate_left
     refine zx <| zs <| zc rfl <| zd <| zr <| yR (.t rfl .nil) rfl (.of (.t0 (.d .rf)))
    exact absurd h1.2 (by decide)
end Go.Proofs.Ytienlpaehgdpaaa
