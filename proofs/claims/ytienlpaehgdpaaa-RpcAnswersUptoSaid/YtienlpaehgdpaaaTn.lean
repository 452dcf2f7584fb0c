/- Layer 6, the reference: an answerer: the functions. Conditions: none. -/
import Derived.Test.YtienlpaehgdpaaaTl
import Derived.Test.YtienlpaehgdpaaaTm
set_option linter.unusedSimpArgs false
set_option linter.unusedVariables false
set_option maxRecDepth 100000
set_option maxHeartbeats 4000000
namespace Go.SL
open Go
def Anr.at (A : Anr) (src : Ad) (id : Int) : Int := match A.ix src id with
  | some i => (i : Int)
  | none => -1
theorem Anr.ix_hit {A : Anr} {src : Ad} {id : Int} {k : Nat} (hk : k < A.L.length) (hn : ∀ j, j < k → ¬ ((nth A.L j).1.src = src ∧ (nth A.L j).1.id = id)) (e : (nth A.L k).1.src = src ∧ (nth A.L k).1.id = id) : A.ix src id = some k := by
  unfold Anr.ix
  rw [List.findIdx?_eq_some_iff_getElem]
  refine ⟨hk, by rw [← nth_eq hk, e.1, e.2]; simp, fun j hj => ?_⟩
  rw [← nth_eq (show j < A.L.length by omega)]
  have := hn j hj
  simp only [decide_eq_true_eq, Frm.mk.injEq]; exact fun h => this ⟨h.1.symm, h.2.symm⟩
theorem Anr.ix_miss {A : Anr} {src : Ad} {id : Int} (hn : ∀ j, j < A.L.length → ¬ ((nth A.L j).1.src = src ∧ (nth A.L j).1.id = id)) : A.ix src id = none := by
  unfold Anr.ix
  rw [List.findIdx?_eq_none_iff]
  intro x hx
  obtain ⟨j, hj, rfl⟩ := List.mem_iff_getElem.1 hx
  have := hn j hj
  rw [nth_eq hj] at this
  simp only [decide_eq_false_iff_not, Frm.mk.injEq]; exact fun h => this ⟨h.1.symm, h.2.symm⟩
theorem pl_nth {xs : List KnE} {A : Anr} (h : xs.map KnE.pl = A.L) {j : Nat} (hj : j < xs.length) : (nth xs j).pl = nth A.L j := by
  rw [← h, nth_eq hj, nth_eq (by simpa using hj), List.getElem_map]
theorem nthm {α β : Type} [Inhabited α] [Inhabited β] {xs : List α} {f : α → β} {k : Nat} (h : k < xs.length) : nth (xs.map f) k = f (nth xs k) := by
  rw [nth_eq (by simpa using h), nth_eq h, List.getElem_map]
section
variable {r : List Assn} {xs : List KnE} {i : Nat}
theorem KbA.p (h : i < xs.length) : Imp (KbA xs :: r) (pkO (nth xs i).p :: KbA xs :: r) := by
  have h1 := PksA.get (xs := xs.map (·.p)) (i := i) (r := PksA (xs.map (·.reply)) :: r) (by simpa using h)
  rw [nthm h] at h1
  exact Imp.trans Imp.sep_out (Imp.trans h1 (Imp.cons (Imp.sep_in (cs := [_, _]))))
theorem KbA.reply (h : i < xs.length) : Imp (KbA xs :: r) (pkO (nth xs i).reply :: KbA xs :: r) := by
  have h1 := PksA.get (xs := xs.map (·.reply)) (i := i) (r := r) (by simpa using h)
  rw [nthm h] at h1
  exact Imp.trans Imp.sep_out (Imp.trans (Imp.cons h1) (Imp.trans Imp.swap (Imp.cons (Imp.sep_in (cs := [_, _])))))
theorem KbA.nil : Imp r (KbA [] :: r) := Imp.trans PksA.nil (Imp.trans PksA.nil (Imp.sep_in (cs := [_, _])))
theorem KbA.snoc {x : KnE} : Imp (pkO x.p :: pkO x.reply :: KbA xs :: r) (KbA (xs ++ [x]) :: r) := by
  unfold KbA
  rw [List.map_append, List.map_append]
  refine Imp.trans (Imp.cons (Imp.cons Imp.sep_out)) ?_
  refine Imp.trans (b := pkO x.p :: PksA (xs.map fun z : KnE => z.p) :: pkO x.reply :: PksA (xs.map fun z : KnE => z.reply) :: r) ?_ ?_
  · exact Imp.trans (Imp.cons Imp.swap) (Imp.trans Imp.swap (Imp.trans (Imp.cons (Imp.cons (Imp.refl _))) (Imp.trans Imp.swap (Imp.trans (Imp.cons Imp.swap) (Imp.cons Imp.swap)))))
  · refine Imp.trans (PksA.snoc (xs := xs.map fun z : KnE => z.p) (x := x.p)) ?_
    exact Imp.trans (Imp.cons (PksA.snoc (xs := xs.map fun z : KnE => z.reply) (x := x.reply) (r := r))) (Imp.sep_in (cs := [_, _]))
theorem KbA.put {k : KnE} (hp : k.p = (nth xs i).p) (hi : i < xs.length) : Imp (pkO k.reply :: KbA xs :: r) (KbA (xs.set i k) :: r) := by
  have e1 : (xs.set i k).map (·.p) = xs.map (·.p) := map_set_same _ hi hp
  refine Imp.trans (Imp.cons Imp.sep_out) (Imp.trans Imp.swap ?_)
  refine Imp.trans (Imp.cons PksA.cons) ?_
  refine Imp.trans (Imp.cons (PksA.of (ys := (xs.set i k).map (·.reply)) fun y hy => ?_)) ?_
  · obtain ⟨z, hz, rfl⟩ := List.mem_map.1 hy
    rcases List.mem_or_eq_of_mem_set hz with h | rfl
    · exact List.mem_cons_of_mem _ (List.mem_map.2 ⟨z, h, rfl⟩)
    · exact List.mem_cons_self
  · refine Imp.trans (Imp.cons (Imp.cons Imp.drop)) ?_
    rw [← e1]
    exact Imp.sep_in (cs := [_, _])
end
end Go.SL
namespace Go.Proofs.Ytienlpaehgdpaaa
open Go Go.SL
attribute [local irreducible] pc rc SlT Me Mt It pt ro pur ex sep old Meets
attribute [local irreducible] CallsA CallerP KnP KnsA AnswererP KbA RAnswererP
instance : TE 148 KnE knC 69 := ⟨knC_one, by decide⟩
instance : FS knC 1 2 adC (fun x => x.p.p.src) := ⟨fun _ => rfl⟩
theorem r6afind_fn {b c : Nat} {a : Option Addr} {A : Anr} {xs : List KnE} (src : Ad) (id : Int) {F r : List Assn} [H1 : HP F b 94 (ranrC A xs.length a c) r] [H2 : HS F (.slice a xs.length c) KnE knC 69 c xs] (hx : xs.map KnE.pl = A.L) :
    Meets Try.prog 60 [ptr b, adv src, i64 id] F (Det (i64 (A.at src id)) F) := by
  refine Meets.intro b60 k60 (by simp) ?_
  refine J.sl H2 (fun hC hL _ => ?_)
  have hl : xs.length = A.L.length := by rw [← hx]; simp
  focus
   refine zs <| yB rfl fun b4 => zc rfl <| zc rfl <| zd <| zq <| zb ?_
  refine J.lp (ι := Nat) (fun k => k ≤ xs.length ∧ ∀ j, j < k → ¬ ((nth xs j).p.p.src = src ∧ (nth xs j).p.p.id = id)) (fun k => [(7, i64 (k : Int))]) (fun _ => pc b4 45 (adC src) :: F) (fun k => xs.length - k) 0 ⟨by omega, fun j hj => by omega⟩ (by exact subxR rfl) (.of (.t0 .rf)) (fun k hk => ?_)
  obtain ⟨hk, hn⟩ := hk
  have hp : ∀ j, j < xs.length → (nth A.L j).1 = (nth xs j).p.p := fun j hj => by rw [← pl_nth hx hj]; rfl
  have hA : ∀ k', k' ≤ k → ∀ j, j < k' → ¬ ((nth A.L j).1.src = src ∧ (nth A.L j).1.id = id) := fun k' hk' j hj => by rw [hp j (by omega)]; exact hn j (by omega)
  by_cases hlt : k < xs.length
  · by_cases h1 : (nth xs k).p.p.src = src
    · by_cases h2 : (nth xs k).p.p.id = id
      · have e : A.at src id = (k : Int) := by unfold Anr.at; rw [Anr.ix_hit (by omega) (hA k (Nat.le_refl _)) (by rw [hp k hlt]; exact ⟨h1, h2⟩)]
        rw [e]
        focus
         refine zs <| zfl rfl rfl rfl <| zc rfl <| zy (.cltT rfl rfl (by omega)) <| zd <| zq <| zt rfl <| zk <| zq <| zb <| zs <| zfl rfl rfl rfl ?_
         refine zy (.iC rfl rfl (by omega)) <| zy (.fe rfl) <| zy (.fe2 1 rfl rfl) <| zy (.LEf rfl (by omega) (by decide)) <| zw rfl rfl ?_
         refine zy (.eqTt rfl rfl (by assumption)) <| yG rfl <| zf 2 rfl rfl <| yG rfl <| zl rfl rfl <| yG rfl <| zy (.iC rfl rfl (by omega)) <| yG rfl <| zy (.fe rfl) <| yG rfl <| zy (.fe2 5 rfl rfl) <| yG rfl ?_
         refine zy (.LE1 rfl (by omega) rfl (by decide)) <| yG rfl <| zy (.ceqT rfl rfl (by omega)) <| zy (.pickT rfl rfl) <| zd <| zt rfl <| zs <| zc rfl <| zd <| zr <| yR (.t rfl .nil) rfl (.of (.d .rf))
      · focus
         refine zs <| zfl rfl rfl rfl <| zc rfl <| zy (.cltT rfl rfl (by omega)) <| zd <| zq <| zt rfl <| zk <| zq <| zb <| zs <| zfl rfl rfl rfl ?_
         refine zy (.iC rfl rfl (by omega)) <| zy (.fe rfl) <| zy (.fe2 1 rfl rfl) <| zy (.LEf rfl (by omega) (by decide)) <| zw rfl rfl ?_
         refine zy (.eqTt rfl rfl (by assumption)) <| yG rfl <| zf 2 rfl rfl <| yG rfl <| zl rfl rfl <| yG rfl <| zy (.iC rfl rfl (by omega)) <| yG rfl <| zy (.fe rfl) <| yG rfl <| zy (.fe2 5 rfl rfl) <| yG rfl ?_
         refine zy (.LE1 rfl (by omega) rfl (by decide)) <| yG rfl <| zy (.ceqF rfl rfl (by omega)) <| zy (.pickT rfl rfl) <| zd <| zu rfl <| zk <| zo <| zy (.addN rfl rfl (by omega)) <| zd <| ⟨_, ?_, (by omega), (subxR rfl), (.of (.t0 .rf))⟩
        exact ⟨by omega, fun j hj => by
          rcases Nat.lt_succ_iff_lt_or_eq.1 hj with h | h
          · exact hn j h
          · subst h; exact fun h => h2 h.2⟩
    · focus
       refine zs <| zfl rfl rfl rfl <| zc rfl <| zy (.cltT rfl rfl (by omega)) <| zd <| zq <| zt rfl <| zk <| zq <| zb <| zs <| zfl rfl rfl rfl ?_
       refine zy (.iC rfl rfl (by omega)) <| zy (.fe rfl) <| zy (.fe2 1 rfl rfl) <| zy (.LEf rfl (by omega) (by decide)) <| zw rfl rfl ?_
       refine zy (.eqTf rfl rfl (by assumption)) <| zv rfl rfl <| zv rfl rfl <| zv rfl rfl <| zv rfl rfl <| zv rfl rfl <| zv rfl rfl <| zv rfl rfl <| zy (.pickF rfl rfl) <| zd <| zu rfl <| zk ?_
       refine zo <| zy (.addN rfl rfl (by omega)) <| zd <| ⟨_, ?_, (by omega), (subxR rfl), (.of (.t0 .rf))⟩
      exact ⟨by omega, fun j hj => by
        rcases Nat.lt_succ_iff_lt_or_eq.1 hj with h | h
        · exact hn j h
        · subst h; exact fun h => h1 h.1⟩
  · have e : A.at src id = -1 := by unfold Anr.at; rw [Anr.ix_miss (fun j hj => hA k (Nat.le_refl _) j (by omega))]
    rw [e]
    focus
     refine zs <| zfl rfl rfl rfl <| zc rfl <| zy (.cltF rfl rfl (by omega)) <| zd <| zq <| zu rfl <| zx <| zs <| zc rfl <| zd <| zr ?_
     refine yR (.t rfl .nil) rfl (.of (.d .rf))
theorem r6aTake_P (b : Nat) (A : Anr) (x : PktE) (F : List Assn) (hA : A.Ok) : Meets Try.prog 34 [ptr b, pkv x] (RAnswererP b A :: pkO x :: F)
    (Some' (fun _ : Option Addr × Nat => True) (fun z => .tuple #[pkv ⟨(A.take x.p).2.1, z.1, z.2⟩, i64 (A.take x.p).2.2]) (fun z => byO z.1 z.2 (A.take x.p).2.1.ans.value :: RAnswererP b (A.take x.p).1 :: pkO x :: F)) := by
  refine Meets.intro b34 k34 (by simp) ?_
  refine J.openRAnr Has.here (fun aa cc xs hx hcc hL => ?_)
  have hl : xs.length = A.L.length := by rw [← hx]; simp
  have hlen := hA.len
  have hF : ∀ {F r : List Assn} [HP F b 94 (ranrC A xs.length aa cc) r] [HS F (.slice aa xs.length cc) KnE knC 69 cc xs], Meets Try.prog 60 [ptr b, adv x.p.src, i64 x.p.id] F (Det (i64 (A.at x.p.src x.p.id)) F) := fun {F r} _ _ => r6afind_fn x.p.src x.p.id hx
  refine J.nilS byteC 1 false (by decide) ?_
  by_cases hc : x.p.ok ∧ x.p.reply = false ∧ x.p.dst = A.me
  · obtain ⟨h1, h2, h3⟩ := hc
    cases hi : A.ix x.p.src x.p.id with
    | some i =>
      obtain ⟨hlt, _⟩ := Anr.ix_some hi
      have hlt' : i < xs.length := by omega
      have hpl := pl_nth hx hlt'
      have hat : A.at x.p.src x.p.id = (i : Int) := by unfold Anr.at; rw [hi]
      rw [hat] at hF
      by_cases hd : (nth xs i).done = true
      · have e : A.take x.p = (A, (nth xs i).reply.p, 3) := by
          unfold Anr.take; rw [if_pos ⟨h1, h2, h3⟩, hi]; simp only; rw [← hpl]; unfold KnE.pl; simp [hd]
        rw [e]
        refine J.imp (Imp.trans (Imp.take (c := KbA xs) (by (repeat (first | exact Has.here | assumption | apply Has.there))) (Imp.refl _)) (KbA.reply hlt')) ?_
        focus
         refine zs <| yB rfl fun b3 => yN fun b4 => zc rfl <| zw rfl rfl <| yD rfl rfl (.of .rf) (r4Check_fn _) <| zj rfl rfl rfl <| yF rfl (by assumption) <| zf 0 rfl rfl <| yF rfl (by assumption) <| zl rfl rfl <| zy (.pickFp rfl (by assumption) rfl) ?_
         refine yF rfl (by assumption) <| zf 3 rfl rfl <| yF rfl (by assumption) <| zy (.Lf rfl (Nat.le_of_ble_eq_true rfl)) <| yF rfl (by assumption) <| zf 0 rfl rfl <| yF rfl (by assumption) <| zy (.Lp (us := [_, _]) rfl (Nat.le_of_ble_eq_true rfl) rfl) <| yF rfl (by assumption) <| zy (.neTf rfl rfl (by assumption)) <| zy (.pickFp rfl (by assumption) rfl) <| zd ?_
         refine zq <| zu rfl <| zk <| zs <| zfw [_, _] rfl rfl rfl rfl <| zfl rfl rfl rfl <| yD rfl rfl (.of .rf) hF <| zd <| zq <| zb <| zs <| zy (.cgeT rfl rfl (by omega)) ?_
         refine yG rfl <| zf 2 rfl rfl <| yG rfl <| zl rfl rfl <| yG rfl <| zy (.iC rfl rfl (by omega)) <| yG rfl <| zy (.fe rfl) <| yG rfl <| zy (.LE1 rfl (by omega) rfl (by decide)) <| zy (.pickT rfl rfl) <| zd ?_
         refine zi rfl (fun h4 => ?_) (fun h4 => ?_)
         refine zs <| zfl rfl rfl rfl <| zy (.iC rfl rfl (by omega)) <| zy (.fe rfl) ?_
         refine zy (.LEf rfl (by omega) (by decide)) ?_
         refine yW rfl rfl rfl rfl rfl <| zc rfl <| zd <| zr <| yQ ⟨_, _⟩ (.w rfl rfl (.t rfl .nil)) trivial rfl (.of (.t2 (RAnswererP.fold (.there (.there (.there (.there .here)))) (.there (.there (.there (.there .here)))) (.there (.there .here)) (by first | assumption | omega | rfl | decide) (.t3 (.d (.d (.d .rf)))))))
         exact Bool.noConfusion (h4.symm.trans hd)
      · have hd' : (nth xs i).done = false := by simpa using hd
        have e : A.take x.p = (A, zPkt, 2) := by
          unfold Anr.take; rw [if_pos ⟨h1, h2, h3⟩, hi]; simp only; rw [← hpl]; unfold KnE.pl; simp [hd']
        rw [e]
        focus
         refine zs <| yB rfl fun b3 => yN fun b4 => zc rfl <| zw rfl rfl <| yD rfl rfl (.of .rf) (r4Check_fn _) <| zj rfl rfl rfl <| yF rfl (by assumption) <| zf 0 rfl rfl <| yF rfl (by assumption) <| zl rfl rfl <| zy (.pickFp rfl (by assumption) rfl) ?_
         refine yF rfl (by assumption) <| zf 3 rfl rfl <| yF rfl (by assumption) <| zy (.Lf rfl (Nat.le_of_ble_eq_true rfl)) <| yF rfl (by assumption) <| zf 0 rfl rfl <| yF rfl (by assumption) <| zy (.Lp (us := [_, _]) rfl (Nat.le_of_ble_eq_true rfl) rfl) <| yF rfl (by assumption) <| zy (.neTf rfl rfl (by assumption)) <| zy (.pickFp rfl (by assumption) rfl) <| zd ?_
         refine zq <| zu rfl <| zk <| zs <| zfw [_, _] rfl rfl rfl rfl <| zfl rfl rfl rfl <| yD rfl rfl (.of .rf) hF <| zd <| zq <| zb <| zs <| zy (.cgeT rfl rfl (by omega)) ?_
         refine yG rfl <| zf 2 rfl rfl <| yG rfl <| zl rfl rfl <| yG rfl <| zy (.iC rfl rfl (by omega)) <| yG rfl <| zy (.fe rfl) <| yG rfl <| zy (.LE1 rfl (by omega) rfl (by decide)) <| zy (.pickT rfl rfl) <| zd ?_
         refine zi rfl (fun h4 => ?_) (fun h4 => ?_)
         contradiction
         refine zs <| zy (.cgeT rfl rfl (by omega)) <| zd <| zt rfl <| zs <| zg rfl <| yW rfl rfl rfl rfl rfl <| zc rfl <| zd <| zr <| yQ ⟨_, _⟩ (.w rfl rfl (.t rfl .nil)) trivial rfl (.of (.t2 (RAnswererP.fold (.there (.there .here)) (.there (.there .here)) (.there (.there .here)) (by first | assumption | omega | rfl | decide) (.t2 (.d (.d .rf))))))
    | none =>
      have hat : A.at x.p.src x.p.id = -1 := by unfold Anr.at; rw [hi]
      rw [hat] at hF
      by_cases hL2 : 65536 ≤ A.L.length
      · have e : A.take x.p = (A, zPkt, 0) := by unfold Anr.take; rw [if_pos ⟨h1, h2, h3⟩, hi]; simp only; rw [if_pos hL2]
        rw [e]
        focus
         refine zs <| yB rfl fun b3 => yN fun b4 => zc rfl <| zw rfl rfl <| yD rfl rfl (.of .rf) (r4Check_fn _) <| zj rfl rfl rfl <| yF rfl (by assumption) <| zf 0 rfl rfl <| yF rfl (by assumption) <| zl rfl rfl <| zy (.pickFp rfl (by assumption) rfl) ?_
         refine yF rfl (by assumption) <| zf 3 rfl rfl <| yF rfl (by assumption) <| zy (.Lf rfl (Nat.le_of_ble_eq_true rfl)) <| yF rfl (by assumption) <| zf 0 rfl rfl <| yF rfl (by assumption) <| zy (.Lp (us := [_, _]) rfl (Nat.le_of_ble_eq_true rfl) rfl) <| yF rfl (by assumption) <| zy (.neTf rfl rfl (by assumption)) <| zy (.pickFp rfl (by assumption) rfl) <| zd ?_
         refine zq <| zu rfl <| zk <| zs <| zfw [_, _] rfl rfl rfl rfl <| zfl rfl rfl rfl <| yD rfl rfl (.of .rf) hF <| zd <| zq <| zb <| zs <| zy (.cgeF rfl rfl (by decide)) ?_
         refine zv rfl rfl <| zv rfl rfl <| zv rfl rfl <| zv rfl rfl <| zv rfl rfl <| zy (.pickF rfl rfl) <| zd <| zu rfl <| zs <| zy (.cgeF rfl rfl (by decide)) <| zd <| zu rfl ?_
         refine zs <| zfl rfl rfl rfl <| zc rfl <| zy (.cgeT rfl rfl (by omega)) <| zd <| zt rfl <| zs <| zg rfl <| yW rfl rfl rfl rfl rfl <| zc rfl <| zd <| zr ?_
         refine yQ ⟨_, _⟩ (.w rfl rfl (.t rfl .nil)) trivial rfl (.of (.t2 (RAnswererP.fold (.there (.there .here)) (.there (.there .here)) (.there (.there .here)) (by first | assumption | omega | rfl | decide) (.t2 (.d (.d .rf))))))
      · have e : A.take x.p = ({ A with L := A.L ++ [(x.p, none)] }, zPkt, 1) := by unfold Anr.take; rw [if_pos ⟨h1, h2, h3⟩, hi]; simp only; rw [if_neg hL2]
        rw [e]
        have hx2 : (xs ++ [(⟨x, false, p0 zPkt⟩ : KnE)]).map KnE.pl = (⟨A.me, A.L ++ [(x.p, none)]⟩ : Anr).L := by rw [List.map_append, hx]; rfl
        focus
         refine zs <| yB rfl fun b3 => yN fun b4 => zc rfl <| zw rfl rfl <| yD rfl rfl (.of .rf) (r4Check_fn _) <| zj rfl rfl rfl <| yF rfl (by assumption) <| zf 0 rfl rfl <| yF rfl (by assumption) <| zl rfl rfl <| zy (.pickFp rfl (by assumption) rfl) ?_
         refine yF rfl (by assumption) <| zf 3 rfl rfl <| yF rfl (by assumption) <| zy (.Lf rfl (Nat.le_of_ble_eq_true rfl)) <| yF rfl (by assumption) <| zf 0 rfl rfl <| yF rfl (by assumption) <| zy (.Lp (us := [_, _]) rfl (Nat.le_of_ble_eq_true rfl) rfl) <| yF rfl (by assumption) <| zy (.neTf rfl rfl (by assumption)) <| zy (.pickFp rfl (by assumption) rfl) <| zd ?_
         refine zq <| zu rfl <| zk <| zs <| zfw [_, _] rfl rfl rfl rfl <| zfl rfl rfl rfl <| yD rfl rfl (.of .rf) hF <| zd <| zq <| zb <| zs <| zy (.cgeF rfl rfl (by decide)) ?_
         refine zv rfl rfl <| zv rfl rfl <| zv rfl rfl <| zv rfl rfl <| zv rfl rfl <| zy (.pickF rfl rfl) <| zd <| zu rfl <| zs <| zy (.cgeF rfl rfl (by decide)) <| zd <| zu rfl ?_
         refine zs <| zfl rfl rfl rfl <| zc rfl <| zy (.cgeF rfl rfl (by omega)) <| zd <| zu rfl <| zk <| zs <| zfl rfl rfl rfl <| zw rfl rfl <| zg rfl <| JT.both ?_ ?_
         refine JT.b0 fun a64 => JT.both ?_ ?_
         (refine JT.A3 rfl rfl rfl (by decide) (by simp; omega) (fun a69 c69 hc69 => ?_))
         refine JT.yA rfl (Ev.Lw rfl rfl) <| JT.bsl1 (by repeat (first | exact Cells.nil | apply Cells.z | (apply Cells.cl; rfl; rfl; rfl))) (by simp only [List.length_cons, List.length_nil, Nat.reduceAdd]; rfl) (by decide) (by rfl) fun a72 => ?_
         rotate_left
         refine JT.bsl1 (by repeat (first | exact Cells.nil | apply Cells.z | (apply Cells.cl; rfl; rfl; rfl))) (by simp only [List.length_cons, List.length_nil, Nat.reduceAdd]; rfl) (by decide) (by rfl) fun a72 => ?_
         (refine JT.A3 rfl rfl rfl (by decide) (by simp; omega) (fun a69 c69 hc69 => ?_))
         refine JT.yA rfl (Ev.Lw rfl rfl) ?_
         rotate_left
         refine JT.bsl1 (by repeat (first | exact Cells.nil | apply Cells.z | (apply Cells.cl; rfl; rfl; rfl))) (by simp only [List.length_cons, List.length_nil, Nat.reduceAdd]; rfl) (by decide) (by rfl) fun a72 => ?_
         refine JT.b0 fun a64 => ?_
         (refine JT.A3 rfl rfl rfl (by decide) (by simp; omega) (fun a69 c69 hc69 => ?_))
         refine JT.yA rfl (Ev.Lw rfl rfl) ?_
         rotate_left
        all_goals simp only [List.nil_append]
        all_goals refine JT.A1 (v := (⟨x, false, p0 zPkt⟩ : KnE)) rfl rfl (by rfl) rfl (by decide) (by omega) (fun a73 c73 hc73 => ?_)
        all_goals refine JT.imp (Has.dup (c := pkO x) (SlT_pers _ _ _ _ _) (by (repeat (first | exact Has.here | assumption | apply Has.there)))) ?_
        all_goals refine JT.imp (Has.dup (c := pkO (p0 zPkt)) (SlT_pers _ _ _ _ _) (by (repeat (first | exact Has.here | assumption | apply Has.there)))) ?_
        all_goals refine JT.imp (Imp.trans (Imp.take (c := pkO x) (by (repeat (first | exact Has.here | assumption | apply Has.there))) (Imp.take (c := pkO (p0 zPkt)) (by (repeat (first | exact Has.here | assumption | apply Has.there))) (Imp.take (c := KbA xs) (by (repeat (first | exact Has.here | assumption | apply Has.there))) (Imp.refl _)))) (KbA.snoc (x := (⟨x, false, p0 zPkt⟩ : KnE)))) ?_
        focus
         refine zc rfl <| zf 2 rfl rfl <| yS rfl rfl rfl rfl rfl (Nat.le_of_ble_eq_true rfl) rfl <| zd <| zs <| zg rfl <| yW rfl rfl rfl rfl rfl <| zc rfl <| zd <| zr <| yQ ⟨_, _⟩ (.w rfl rfl (.t rfl .nil)) trivial rfl (.frz (.there (.there (.there (.there (.there .here))))) (.of (.t4 (RAnswererP.fold (.there (.there .here)) .here (.there .here) (by first | assumption | omega | rfl | decide) (.t1 (.d (.d (.d (.d .rf)))))))))
        focus
         refine zc rfl <| zf 2 rfl rfl <| yS rfl rfl rfl rfl rfl (Nat.le_of_ble_eq_true rfl) rfl <| zd <| zs <| zg rfl <| yW rfl rfl rfl rfl rfl <| zc rfl <| zd <| zr <| yQ ⟨_, _⟩ (.w rfl rfl (.t rfl .nil)) trivial rfl (.frz (.there (.there (.there (.there (.there .here))))) (.of (.t4 (RAnswererP.fold (.there (.there .here)) .here (.there .here) (by first | assumption | omega | rfl | decide) (.t1 (.d (.d (.d (.d .rf)))))))))
        focus
         refine zc rfl <| zf 2 rfl rfl <| yS rfl rfl rfl rfl rfl (Nat.le_of_ble_eq_true rfl) rfl <| zd <| zs <| zg rfl <| yW rfl rfl rfl rfl rfl <| zc rfl <| zd <| zr <| yQ ⟨_, _⟩ (.w rfl rfl (.t rfl .nil)) trivial rfl (.frz (.there (.there (.there (.there (.there .here))))) (.of (.t4 (RAnswererP.fold (.there (.there .here)) .here (.there .here) (by first | assumption | omega | rfl | decide) (.t1 (.d (.d (.d (.d .rf)))))))))
  · have e : A.take x.p = (A, zPkt, 0) := by unfold Anr.take; rw [if_neg hc]
    rw [e]
    by_cases h1 : x.p.ok
    · by_cases h2 : x.p.reply = false
      · have h3 : ¬ x.p.dst = A.me := fun h3 => hc ⟨h1, h2, h3⟩
        focus
         refine zs <| yB rfl fun b3 => yN fun b4 => zc rfl <| zw rfl rfl <| yD rfl rfl (.of .rf) (r4Check_fn _) <| zj rfl rfl rfl <| yF rfl (by assumption) <| zf 0 rfl rfl <| yF rfl (by assumption) <| zl rfl rfl <| zy (.pickFp rfl (by assumption) rfl) ?_
         refine yF rfl (by assumption) <| zf 3 rfl rfl <| yF rfl (by assumption) <| zy (.Lf rfl (Nat.le_of_ble_eq_true rfl)) <| yF rfl (by assumption) <| zf 0 rfl rfl <| yF rfl (by assumption) <| zy (.Lp (us := [_, _]) rfl (Nat.le_of_ble_eq_true rfl) rfl) <| yF rfl (by assumption) <| zy (.neTt rfl rfl (by assumption)) <| zy (.pickFp rfl (by assumption) rfl) <| zd ?_
         refine zq <| zt rfl <| zs <| zg rfl <| yW rfl rfl rfl rfl rfl <| zc rfl <| zd <| zr <| yQ ⟨_, _⟩ (.w rfl rfl (.t rfl .nil)) trivial rfl (.of (.t2 (RAnswererP.fold (.there (.there .here)) (.there (.there .here)) (.there (.there .here)) (by first | assumption | omega | rfl | decide) (.t2 (.d (.d .rf))))))
      · have h2' : x.p.reply = true := by simpa using h2
        focus
         refine zs <| yB rfl fun b3 => yN fun b4 => zc rfl <| zw rfl rfl <| yD rfl rfl (.of .rf) (r4Check_fn _) <| zj rfl rfl rfl <| yF rfl (by assumption) <| zf 0 rfl rfl <| yF rfl (by assumption) <| zl rfl rfl <| zy (.pickFp rfl (by assumption) rfl) ?_
         refine yFs rfl (by assumption) <| yFs rfl (by assumption) <| yFs rfl (by assumption) <| yFs rfl (by assumption) <| yFs rfl (by assumption) <| zy (.pickTp rfl (by assumption) rfl) <| zd <| zq <| zt rfl <| zs <| zg rfl <| yW rfl rfl rfl rfl rfl ?_
         refine zc rfl <| zd <| zr <| yQ ⟨_, _⟩ (.w rfl rfl (.t rfl .nil)) trivial rfl (.of (.t2 (RAnswererP.fold (.there (.there .here)) (.there (.there .here)) (.there (.there .here)) (by first | assumption | omega | rfl | decide) (.t2 (.d (.d .rf))))))
    · focus
       refine zs <| yB rfl fun b3 => yN fun b4 => zc rfl <| zw rfl rfl <| yD rfl rfl (.of .rf) (r4Check_fn _) <| zj rfl rfl rfl <| yFs rfl (by assumption) <| yFs rfl (by assumption) <| zy (.pickTp rfl (by assumption) rfl) <| zv rfl rfl <| zv rfl rfl ?_
       refine zv rfl rfl <| zv rfl rfl <| zv rfl rfl <| zy (.pickT rfl rfl) <| zd <| zq <| zt rfl <| zs <| zg rfl <| yW rfl rfl rfl rfl rfl <| zc rfl <| zd ?_
       refine zr <| yQ ⟨_, _⟩ (.w rfl rfl (.t rfl .nil)) trivial rfl (.of (.t2 (RAnswererP.fold (.there (.there .here)) (.there (.there .here)) (.there (.there .here)) (by first | assumption | omega | rfl | decide) (.t2 (.d (.d .rf))))))
theorem r6aReply_P (b : Nat) (A : Anr) (src : Ad) (id : Int) (y : AnsE) (F : List Assn) (hA : A.Ok) : Meets Try.prog 37 [ptr b, adv src, i64 id, anv y] (RAnswererP b A :: byO y.a y.c y.x.value :: F)
    (Some' (fun _ : Option Addr × Nat => True) (fun z => .tuple #[pkv ⟨(A.reply src id y.x).2.1, z.1, z.2⟩, i64 (A.reply src id y.x).2.2]) (fun z => byO z.1 z.2 (A.reply src id y.x).2.1.ans.value :: RAnswererP b (A.reply src id y.x).1 :: byO y.a y.c y.x.value :: F)) := by
  refine Meets.intro b37 k37 (by simp) ?_
  refine J.openRAnr Has.here (fun aa cc xs hx hcc hL => ?_)
  have hl : xs.length = A.L.length := by rw [← hx]; simp
  have hlen := hA.len
  have hF : ∀ {F r : List Assn} [HP F b 94 (ranrC A xs.length aa cc) r] [HS F (.slice aa xs.length cc) KnE knC 69 cc xs], Meets Try.prog 60 [ptr b, adv src, i64 id] F (Det (i64 (A.at src id)) F) := fun {F r} _ _ => r6afind_fn src id hx
  refine J.nilS byteC 1 false (by decide) ?_
  cases hi : A.ix src id with
  | none =>
    have hat : A.at src id = -1 := by unfold Anr.at; rw [hi]
    rw [hat] at hF
    rw [Anr.reply_none hi]
    focus
     refine zs <| yB rfl fun b5 => yB rfl fun b7 => yN fun b8 => zc rfl <| zw rfl rfl <| yD rfl rfl (.of .rf) hF <| zy (.cltT rfl rfl (by decide)) <| zv rfl rfl <| zv rfl rfl <| zv rfl rfl <| zv rfl rfl ?_
     refine zv rfl rfl <| zy (.pickT rfl rfl) <| zd <| zq <| zt rfl <| zs <| zg rfl <| yW rfl rfl rfl rfl rfl <| zc rfl <| zd <| zr <| yQ ⟨_, _⟩ (.w rfl rfl (.t rfl .nil)) trivial rfl (.of (.t3 (RAnswererP.fold (.there (.there (.there .here))) (.there (.there (.there .here))) (.there (.there (.there .here))) (by first | assumption | omega | rfl | decide) (.t3 (.d (.d (.d .rf)))))))
  | some i =>
    obtain ⟨hlt, _⟩ := Anr.ix_some hi
    have hlt' : i < xs.length := by omega
    have hpl := pl_nth hx hlt'
    have hat : A.at src id = (i : Int) := by unfold Anr.at; rw [hi]
    rw [hat] at hF
    by_cases hd : (nth xs i).done = true
    · rw [Anr.reply_done hi hpl hd]
      focus
       refine zs <| yB rfl fun b5 => yB rfl fun b7 => yN fun b8 => zc rfl <| zw rfl rfl <| yD rfl rfl (.of .rf) hF <| zy (.cltF rfl rfl (by omega)) <| yG rfl <| zf 2 rfl rfl <| yG rfl <| zl rfl rfl ?_
       refine yG rfl <| zy (.iC rfl rfl (by omega)) <| yG rfl <| zy (.fe rfl) <| yG rfl <| zy (.LE1 rfl (by omega) rfl (by decide)) <| zy (.pickF rfl rfl) <| zd <| zq <| zi rfl (fun h1 => ?_) (fun h1 => ?_)
       refine zs <| zg rfl <| yW rfl rfl rfl rfl rfl <| zc rfl <| zd <| zr <| yQ ⟨_, _⟩ (.w rfl rfl (.t rfl .nil)) trivial rfl (.of (.t3 (RAnswererP.fold (.there (.there (.there .here))) (.there (.there (.there .here))) (.there (.there (.there .here))) (by first | assumption | omega | rfl | decide) (.t3 (.d (.d (.d .rf)))))))
       exact Bool.noConfusion (h1.symm.trans hd)
    · have hd' : (nth xs i).done = false := by simpa using hd
      refine J.imp (Imp.trans (Imp.take (c := KbA xs) (by (repeat (first | exact Has.here | assumption | apply Has.there))) (Imp.refl _)) (KbA.p hlt')) ?_
      by_cases ho : (nth xs i).p.p.ok ∧ (nth xs i).p.p.reply = false ∧ y.x.ok
      · rw [Anr.reply_ok hi hpl hd' ho]
        obtain ⟨ho1, ho2, ho3⟩ := ho
        obtain ⟨k1, hk1⟩ : ∃ k1 : KnE, k1 = ⟨(nth xs i).p, true, (nth xs i).reply⟩ := ⟨_, rfl⟩
        obtain ⟨k2, hk2⟩ : ∃ k2 : KnE, k2 = ⟨(nth xs i).p, true, ⟨mkRep (nth xs i).p.p y.x, y.a, y.c⟩⟩ := ⟨_, rfl⟩
        have hnn : nth (xs.set i k1) i = k1 := by rw [nth_eq (by simpa using hlt')]; simp
        have hss : (xs.set i k1).set i k2 = xs.set i k2 := List.set_set k1
        have hsl : (xs.set i k1).length = xs.length := by simp
        have hsl2 : (xs.set i k2).length = xs.length := by simp
        have hx2 : (xs.set i k2).map KnE.pl = A.L.set i ((nth xs i).p.p, some (mkRep (nth xs i).p.p y.x)) := by rw [List.map_set, hx, hk2]; rfl
        focus
         refine zs <| yB rfl fun b5 => yB rfl fun b7 => yN fun b8 => zc rfl <| zw rfl rfl <| yD rfl rfl (.of .rf) hF <| zy (.cltF rfl rfl (by omega)) <| yG rfl <| zf 2 rfl rfl <| yG rfl <| zl rfl rfl ?_
         refine yG rfl <| zy (.iC rfl rfl (by omega)) <| yG rfl <| zy (.fe rfl) <| yG rfl <| zy (.LE1 rfl (by omega) rfl (by decide)) <| zy (.pickF rfl rfl) <| zd <| zq <| zi rfl (fun h1 => ?_) (fun h1 => ?_)
         contradiction
         refine zk <| zs <| zfl rfl rfl rfl <| zy (.iC rfl rfl (by omega)) <| zy (.fe rfl) <| zy (.LEf rfl (by omega) (by decide)) <| zw rfl rfl <| JT.both ?_ ?_
         refine yD rfl rfl (.of .rf) (r4Reply_ok _ _ (by assumption) (by assumption) (by assumption)) <| zc rfl <| zc rfl <| yN fun b11 => yW rfl rfl rfl rfl rfl <| zc rfl <| zd <| zs <| zy (.cneF rfl rfl (by decide)) <| zd <| zq <| zu rfl ?_
         refine zk <| zs <| JT.b0 fun a47 => zfl rfl rfl rfl ?_
         (refine JT.A3 rfl rfl rfl (by decide) (by simp; omega) (fun a52 c52 hc52 => ?_))
         refine zf 2 rfl rfl <| yS rfl rfl rfl rfl rfl (Nat.le_of_ble_eq_true rfl) rfl <| zfl rfl rfl rfl <| zfl rfl rfl rfl <| zw rfl rfl <| zy (.iC rfl rfl (by simp; omega)) <| zy (.fe rfl) ?_
         rotate_left
         refine yN fun b11 => yD rfl rfl (.of .rf) (r4Reply_ok _ _ (by assumption) (by assumption) (by assumption)) <| zc rfl <| zc rfl <| yW rfl rfl rfl rfl rfl <| zc rfl <| zd <| zs <| zy (.cneF rfl rfl (by decide)) <| zd <| zq <| zu rfl ?_
         refine zk <| zs <| JT.b0 fun a47 => zfl rfl rfl rfl ?_
         (refine JT.A3 rfl rfl rfl (by decide) (by simp; omega) (fun a52 c52 hc52 => ?_))
         refine zf 2 rfl rfl <| yS rfl rfl rfl rfl rfl (Nat.le_of_ble_eq_true rfl) rfl <| zfl rfl rfl rfl <| zfl rfl rfl rfl <| zw rfl rfl <| zy (.iC rfl rfl (by simp; omega)) <| zy (.fe rfl) ?_
         rotate_left
        all_goals simp only [List.nil_append]
        all_goals refine JT.sE (x' := k1) rfl rfl rfl rfl rfl (by omega) (by decide) (by rw [hk1]; rfl) ?_
        focus
         refine JT.yA rfl (Ev.Lw rfl rfl) <| zy (.iC rfl rfl (by omega)) <| zy (.fe rfl) ?_
         rotate_left
        rotate_left 1
        focus
         refine JT.yA rfl (Ev.Lw rfl rfl) <| zy (.iC rfl rfl (by omega)) <| zy (.fe rfl) ?_
         rotate_left
        rotate_left 1
        all_goals refine JT.sE (x' := k2) rfl rfl rfl rfl rfl (by omega) (by decide) (by rw [hnn, hk1, hk2]; rfl) ?_
        all_goals rw [hss]
        focus
         refine zw rfl rfl <| yW rfl rfl rfl rfl rfl <| zc rfl <| zd <| zr ?_
         rotate_left
        rotate_left 1
        focus
         refine zw rfl rfl <| yW rfl rfl rfl rfl rfl <| zc rfl <| zd <| zr ?_
         rotate_left
        rotate_left 1
        all_goals
          have hr : k2.reply = ⟨mkRep (nth xs i).p.p y.x, y.a, y.c⟩ := by rw [hk2]
          have hb : byO y.a y.c y.x.value = pkO k2.reply := by rw [hr]
          have hpp : k2.p = (nth xs i).p := by rw [hk2]
          have hput : ∀ r, Imp (byO y.a y.c y.x.value :: KbA xs :: r) (KbA (xs.set i k2) :: r) := fun r => by rw [hb]; exact KbA.put (k := k2) hpp hlt'
          rw [← hsl2]
          refine retQ_up (Up.of (Has.dup (c := byO y.a y.c y.x.value) (SlT_pers _ _ _ _ _) (by (repeat (first | exact Has.here | assumption | apply Has.there))))) ?_
          refine retQ_up (Up.of (Imp.trans (Imp.take (c := byO y.a y.c y.x.value) (by (repeat (first | exact Has.here | assumption | apply Has.there))) (Imp.take (c := KbA xs) (by (repeat (first | exact Has.here | assumption | apply Has.there))) (Imp.refl _))) (hput _))) ?_
          refine retQ_up (Up.of (Has.dup (c := byO y.a y.c y.x.value) (SlT_pers _ _ _ _ _) (by (repeat (first | exact Has.here | assumption | apply Has.there))))) ?_
          exact retQS (y.a, y.c) (.w rfl rfl (.t rfl .nil)) trivial rfl (Up.frz (by (repeat (first | exact Has.here | assumption | apply Has.there)) : Has _ (SlT true knC 69 (.slice a52 (xs.set i k2).length c52) c52 (xs.set i k2)) _) (Up.of (Imp.trans (Imp.take (c := byO y.a y.c y.x.value) (by (repeat (first | exact Has.here | assumption | apply Has.there))) (Imp.refl _)) (Imp.cons (RAnswererP.fold (A := { A with L := A.L.set i ((nth xs i).p.p, some (mkRep (nth xs i).p.p y.x)) }) (xs := xs.set i k2) (a := a52) (c := c52) (by (repeat (first | exact Has.here | assumption | apply Has.there))) (by (repeat (first | exact Has.here | assumption | apply Has.there))) (by (repeat (first | exact Has.here | assumption | apply Has.there))) hx2 (by (repeat (first | exact Imp.refl _ | (apply Imp.take; (· (repeat (first | exact Has.here | assumption | apply Has.there)))) | fail | apply Imp.dropT | exact Imp.nil _))))))))
      · rw [Anr.reply_no hi hpl hd' ho]
        focus
         refine zs <| yB rfl fun b5 => yB rfl fun b7 => yN fun b8 => zc rfl <| zw rfl rfl <| yD rfl rfl (.of .rf) hF <| zy (.cltF rfl rfl (by omega)) <| yG rfl <| zf 2 rfl rfl <| yG rfl <| zl rfl rfl ?_
         refine yG rfl <| zy (.iC rfl rfl (by omega)) <| yG rfl <| zy (.fe rfl) <| yG rfl <| zy (.LE1 rfl (by omega) rfl (by decide)) <| zy (.pickF rfl rfl) <| zd <| zq <| zi rfl (fun h1 => ?_) (fun h1 => ?_)
         contradiction
         refine zk <| zs <| zfl rfl rfl rfl <| zy (.iC rfl rfl (by omega)) <| zy (.fe rfl) <| zy (.LEf rfl (by omega) (by decide)) <| zw rfl rfl <| JT.both ?_ ?_
         refine yD rfl rfl (.of .rf) (r4Reply_no _ _ (by assumption)) <| zc rfl <| zc rfl <| yN fun b11 => yW rfl rfl rfl rfl rfl <| zc rfl <| zd <| zs <| zy (.cneT rfl rfl (by decide)) <| zd <| zq <| zt rfl ?_
         refine zs <| zg rfl <| yW rfl rfl rfl rfl rfl <| zc rfl <| zd <| zr <| yQ ⟨_, _⟩ (.w rfl rfl (.t rfl .nil)) trivial rfl (.of (.t6 (RAnswererP.fold (.there (.there (.there (.there (.there (.there .here)))))) (.there (.there (.there (.there (.there (.there .here)))))) (.there (.there (.there (.there (.there .here))))) (by first | assumption | omega | rfl | decide) (.t5 (.d (.d (.d (.d (.d .rf)))))))))
         refine yN fun b11 => yD rfl rfl (.of .rf) (r4Reply_no _ _ (by assumption)) <| zc rfl <| zc rfl <| yW rfl rfl rfl rfl rfl <| zc rfl <| zd <| zs <| zy (.cneT rfl rfl (by decide)) <| zd <| zq <| zt rfl ?_
         refine zs <| zg rfl <| yW rfl rfl rfl rfl rfl <| zc rfl <| zd <| zr <| yQ ⟨_, _⟩ (.w rfl rfl (.t rfl .nil)) trivial rfl (.of (.t6 (RAnswererP.fold (.there (.there (.there (.there (.there (.there .here)))))) (.there (.there (.there (.there (.there (.there .here)))))) (.there (.there (.there (.there (.there .here))))) (by first | assumption | omega | rfl | decide) (.t5 (.d (.d (.d (.d (.d .rf)))))))))
theorem r6aWaits_P (b : Nat) (A : Anr) (F : List Assn) (hA : A.Ok) : Meets Try.prog 39 [ptr b] (RAnswererP b A :: F)
    (Some' (fun x : Option Addr × Nat × List PktE => x.2.2.map (·.p) = A.waits) (fun x => .slice x.1 x.2.2.length x.2.1) (fun x => SlT true pktEC 34 (.slice x.1 x.2.2.length x.2.1) x.2.1 x.2.2 :: PksA x.2.2 :: RAnswererP b A :: F)) := by
  refine Meets.intro b39 k39 (by simp) ?_
  refine J.openRAnr Has.here (fun aa cc xs hx hcc hL => ?_)
  have hl : xs.length = A.L.length := by rw [← hx]; simp
  have hlen := hA.len
  refine J.imp PksA.nil ?_
  focus
   refine zs <| zc rfl <| zc rfl <| zc rfl <| zd <| zq <| zb ?_
  refine J.lp (ι := Nat × Option Addr × Nat × List PktE) (fun i => i.1 ≤ A.L.length ∧ i.2.2.2.map (·.p) = ((A.L.take i.1).filter fun x => x.2.isNone).map (·.1)) (fun i => [(3, .slice i.2.1 i.2.2.2.length i.2.2.1), (4, i64 (i.1 : Int))])
    (fun i => SlT true pktEC 34 (.slice i.2.1 i.2.2.2.length i.2.2.1) i.2.2.1 i.2.2.2 :: PksA i.2.2.2 :: pc b 94 (ranrC A xs.length aa cc) :: SlT false knC 69 (.slice aa xs.length cc) cc xs :: KbA xs :: F)
    (fun i => A.L.length - i.1) (0, none, 0, []) ⟨by simp, by simp⟩ (by exact subxR rfl) (Up.nilS (enc := pktEC) (sz := 34) true (by decide) (.of (.t0 (.t0 (.t0 (.t0 (.t0 .rf))))))) (fun i hi => ?_)
  obtain ⟨i, a3, c3, ws⟩ := i
  obtain ⟨hi, hxs⟩ := hi
  dsimp only at hi hxs ⊢
  have hxl : ws.length ≤ i := by
    have := congrArg List.length hxs
    simp only [List.length_map] at this
    rw [this]; exact Nat.le_trans (List.length_filter_le _ _) (by rw [List.length_take]; omega)
  by_cases hlt : i < A.L.length
  · have hlt' : i < xs.length := by omega
    have hpl := pl_nth hx hlt'
    have hsn : ((A.L.take (i + 1)).filter fun x => x.2.isNone).map (·.1) = ws.map (·.p) ++ (if (nth xs i).done then [] else [(nth xs i).p.p]) := by
      rw [List.take_add_one, List.getElem?_eq_getElem hlt, ← nth_eq hlt, hxs, List.filter_append, List.map_append, ← hpl]
      congr 1
      simp only [Option.toList_some, List.filter_cons, List.filter_nil]
      unfold KnE.pl
      cases (nth xs i).done <;> simp
    by_cases hd : (nth xs i).done = true
    · rw [hd] at hsn
      focus
       refine zs <| zfl rfl rfl rfl <| zc rfl <| zy (.cltT rfl rfl (by omega)) <| zd <| zq <| zt rfl <| zk <| zq <| zb <| zs <| zfl rfl rfl rfl ?_
       refine zy (.iC rfl rfl (by omega)) <| zy (.fe rfl) <| zy (.LE1 rfl (by omega) rfl (by decide)) <| zc rfl <| zd <| zi rfl (fun h1 => ?_) (fun h1 => ?_)
       exact Bool.noConfusion (h1.symm.trans hd)
       refine zk <| zo <| zy (.addN rfl rfl (by omega)) <| zd <| ⟨⟨_, ⟨_, ⟨_, _⟩⟩⟩, ?_, (by omega), (subxR rfl), (.of (.t0 (.t0 (.t0 (.t0 (.t0 .rf))))))⟩
      exact ⟨by dsimp only; omega, by dsimp only; rw [hsn]; simp⟩
    · have hd' : (nth xs i).done = false := by simpa using hd
      rw [hd'] at hsn
      refine J.imp (Imp.trans (Imp.take (c := KbA xs) (by (repeat (first | exact Has.here | assumption | apply Has.there))) (Imp.refl _)) (KbA.p hlt')) ?_
      focus
       refine zs <| zfl rfl rfl rfl <| zc rfl <| zy (.cltT rfl rfl (by omega)) <| zd <| zq <| zt rfl <| zk <| zq <| zb <| zs <| zfl rfl rfl rfl ?_
       refine zy (.iC rfl rfl (by omega)) <| zy (.fe rfl) <| zy (.LE1 rfl (by omega) rfl (by decide)) <| zc rfl <| zd <| zi rfl (fun h1 => ?_) (fun h1 => ?_)
       refine zo <| zfl rfl rfl rfl <| zy (.iC rfl rfl (by omega)) <| zy (.fe rfl) <| zy (.LEf rfl (by omega) (by decide)) <| JT.bsl1 (by repeat (first | exact Cells.nil | apply Cells.z | (apply Cells.cl; rfl; rfl; rfl))) (by simp only [List.length_cons, List.length_nil, Nat.reduceAdd]; rfl) (by decide) (by rfl) fun a32 => ?_
       (refine JT.A1 rfl rfl (by rfl) rfl (by decide) (by omega) (fun a3_1 c3_1 hc3 => ?_))
       refine zd <| zo <| zy (.addN rfl rfl (by omega)) <| zd <| seqQ_n ?_
       rotate_left
       contradiction
      refine ⟨(i + 1, a3_1, c3_1, ws ++ [(nth xs i).p]), ⟨by dsimp only; omega, by dsimp only; rw [hsn]; simp⟩, by dsimp only; omega, by exact subxR rfl, ?_⟩
      exact Up.of (Imp.trans (Imp.take (c := pkO (nth xs i).p) (by (repeat (first | exact Has.here | assumption | apply Has.there))) (Imp.take (c := PksA ws) (by (repeat (first | exact Has.here | assumption | apply Has.there))) (Imp.refl _))) (Imp.trans PksA.snoc (by (repeat (first | exact Imp.refl _ | (apply Imp.take; (· (repeat (first | exact Has.here | assumption | apply Has.there)))) | fail | apply Imp.dropT | exact Imp.nil _)))))
  · focus
     refine zs <| zfl rfl rfl rfl <| zc rfl <| zy (.cltF rfl rfl (by omega)) <| zd <| zq <| zu rfl <| zx <| zs <| zc rfl <| zd <| zr ?_
    rw [show i = A.L.length by omega, List.take_length] at hxs
    exact retQS (a3, c3, ws) (.t rfl .nil) hxs rfl (.of (.t0 (.t0 (RAnswererP.fold .here .here .here (by first | assumption | omega | rfl | decide) .rf))))
end Go.Proofs.Ytienlpaehgdpaaa
