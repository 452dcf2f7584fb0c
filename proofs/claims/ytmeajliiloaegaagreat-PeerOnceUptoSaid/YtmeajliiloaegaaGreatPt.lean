/- Layer 9: what marks a peer (plain Lean). Conditions: none. -/
import Derived.Test.YtmeajliiloaegaaGreatPr
set_option linter.unusedSimpArgs false
set_option linter.unusedVariables false
namespace Go.SL
open Go
def mget (mk : List (Int × Bool)) (t : Int) : Bool := (alk mk t).getD false
/-- An answer that counts: to an ask that would mark, and it does. -/
def hit (M : Int → Bool) (y : Rdy) : Bool := M y.ticket && decide (y.x.kind = 1)
structure Mid (M : Int → Bool) (n : Nat) (me : Ref) (v : List UInt8) (m0 j : Bool) (Q : Pe) : Prop where
  wts : ∀ x ∈ Q.waits, (0 ≤ x.ticket ∧ x.ticket < n) ∧ M x.ticket = x.mark
  eme : Q.me = me
  val : Q.value = v
  jn : Q.joined = j
  cnt : Q.rd.countP (hit M) + m0.toNat = Q.marked.toNat
  all : ∀ y ∈ Q.rd, hit M y = true → j = true ∧ y.x.value = v ∧ me.key.rank = 2
section
variable {M : Int → Bool} {n : Nat} {me : Ref} {v : List UInt8} {m0 j : Bool} {P : Pe}
theorem Mid.tell (h : Mid M n me v m0 j P) {t : Int} {a : Ans} (ht : M t = false ∨ a.kind ≠ 1) : Mid M n me v m0 j (P.tell t a) := by
  have hh : hit M ⟨t, a⟩ = false := by
    unfold hit; rcases ht with ht | ht <;> simp [ht]
  refine ⟨h.wts, h.eme, h.val, h.jn, ?_, fun y hy => ?_⟩
  · show (P.rd ++ [(⟨t, a⟩ : Rdy)]).countP (hit M) + _ = _
    rw [List.countP_append, List.countP_singleton, hh]; exact h.cnt
  · rcases List.mem_append.1 hy with hy | hy
    · exact h.all y hy
    · rw [List.mem_singleton.1 hy, hh]; intro h; cases h
theorem Mid.withLk (h : Mid M n me v m0 j P) {l : LK} : Mid M n me v m0 j { P with lk := l } := ⟨h.wts, h.eme, h.val, h.jn, h.cnt, h.all⟩
theorem Mid.read (h : Mid M n me v m0 j P) {t : Int} {w : Vec} (ht : M t = false) : Mid M n me v m0 j (P.read t w) := Mid.tell (P := P.touch w) h.withLk (.inl ht)
theorem Mid.get (h : Mid M n me v m0 j P) {t : Int} (ht : M t = false) : Mid M n me v m0 j (P.get t) := Mid.tell (P := P.touch zV) h.withLk (.inl ht)
theorem Mid.wait (h : Mid M n me v m0 j P) {x : WaitE} (hx : (0 ≤ x.ticket ∧ x.ticket < n) ∧ M x.ticket = x.mark) : Mid M n me v m0 j { P with waits := P.waits ++ [x] } :=
  ⟨fun y hy => by
    rcases List.mem_append.1 hy with hy | hy
    · exact h.wts y hy
    · rw [List.mem_singleton.1 hy]; exact hx, h.eme, h.val, h.jn, h.cnt, h.all⟩
theorem Mid.served (h : Mid M n me v m0 j P) {is : WaitE → Bool} {act : Pe → WaitE → Pe}
    (ha : ∀ Q x, is x = true → ((0 ≤ x.ticket ∧ x.ticket < n) ∧ M x.ticket = x.mark) → Mid M n me v m0 j Q → Mid M n me v m0 j (act Q x)) : Mid M n me v m0 j (P.served is act) := by
  have key : ∀ (l : List WaitE) (Q : Pe), (∀ x ∈ l, (0 ≤ x.ticket ∧ x.ticket < n) ∧ M x.ticket = x.mark) → Mid M n me v m0 j Q → Mid M n me v m0 j (l.foldl (fun P x => if is x then act P x else P) Q) := by
    intro l
    induction l with
    | nil => intro Q _ hQ; exact hQ
    | cons x l ih =>
      intro Q hl hQ
      refine ih _ (fun y hy => hl y (by simp [hy])) ?_
      show Mid M n me v m0 j (if is x = true then act Q x else Q)
      split
      · rename_i hi; exact ha Q x hi (hl x (by simp)) hQ
      · exact hQ
  have h1 := key P.waits P h.wts h
  exact ⟨fun x hx => h.wts x (List.mem_filter.1 hx).1, h1.eme, h1.val, h1.jn, h1.cnt, h1.all⟩
theorem Mid.mark (h : Mid M n me v m0 j P) {t : Int} (ht : (0 ≤ t ∧ t < n) ∧ M t = true) : Mid M n me v m0 j (P.mark t) := by
  unfold Pe.mark
  split
  · exact h.tell (.inr (by show (4 : Int) ≠ 1; decide))
  · rename_i hc
    have he : me.key.rank = 2 := by
      rw [← h.eme]; exact Classical.byContradiction fun e => hc (.inl e)
    have hm : P.marked = false := by
      cases e : P.marked
      · rfl
      · exact absurd (.inr e) hc
    split
    · exact h.wait (x := ⟨t, true, zV, zO⟩) ht
    · rename_i hj
      have hj' : j = true := by
        rw [← h.jn]; cases e : P.joined
        · exact absurd e hj
        · rfl
      have hh : hit M ⟨t, ⟨1, false, zR, zR, P.value⟩⟩ = true := by unfold hit; simp [ht.2]
      have hcnt := h.cnt
      rw [hm] at hcnt
      refine ⟨h.wts, h.eme, h.val, h.jn, ?_, fun y hy => ?_⟩
      · show (P.rd ++ [(⟨t, ⟨1, false, zR, zR, P.value⟩⟩ : Rdy)]).countP (hit M) + m0.toNat = Bool.toNat true
        rw [List.countP_append, List.countP_singleton, hh]
        simp at hcnt ⊢; cases m0 <;> simp_all
      · rcases List.mem_append.1 hy with hy | hy
        · exact h.all y hy
        · rw [List.mem_singleton.1 hy]; intro _; exact ⟨hj', h.val, he⟩
end
/-- What holds of a peer between asks. -/
structure OnG (mk : List (Int × Bool)) (n : Nat) (P : Pe) : Prop where
  wts : ∀ x ∈ P.waits, (0 ≤ x.ticket ∧ x.ticket < n) ∧ mget mk x.ticket = x.mark
theorem OnG.ask {mk : List (Int × Bool)} {n : Nat} {P : Pe} (h : OnG mk n P) {a : Ask} (ho : a.ok) (hE : P.me.key.rank ≠ 2 → P.joined = true) :
    Mid (mget (aput mk n (decide (a.kind = 9)))) (n + 1) P.me P.value P.marked (P.joined || decide (a.kind = 10)) (P.ask n a).1 := by
  have hM : ∀ t, mget (aput mk n (decide (a.kind = 9))) t = if t = (n : Int) then decide (a.kind = 9) else mget mk t := by
    intro t; unfold mget; rw [alk_put]; split <;> rfl
  generalize mget (aput mk n (decide (a.kind = 9))) = M at hM
  have hn : M n = decide (a.kind = 9) := by rw [hM, if_pos rfl]
  unfold Pe.ask
  rw [if_pos ho]
  have h0 : ∀ j', P.joined = j' → Mid M (n + 1) P.me P.value P.marked j' ({ P with rd := [] } : Pe) := fun j' hj => by
    refine ⟨fun x hx => ?_, rfl, rfl, hj, by simp, fun y hy => (nomatch hy)⟩
    obtain ⟨⟨h1, h2⟩, h3⟩ := h.wts x hx
    refine ⟨⟨h1, by omega⟩, ?_⟩
    rw [hM, if_neg (by omega)]; exact h3
  have hj0 : a.kind ≠ 10 → P.joined = (P.joined || decide (a.kind = 10)) := fun e => by simp [e]
  simp only
  have hr : ∀ w, w = a.w → True := fun _ _ => trivial
  generalize eP0 : ({ P with rd := [] } : Pe) = P0 at h0
  have em : P0.me = P.me := by rw [← eP0]
  have ev : P0.value = P.value := by rw [← eP0]
  unfold Pe.ask1
  by_cases e1 : a.kind = 1
  · rw [if_pos e1]; exact (h0 _ (hj0 (by omega))).read (by rw [hn]; simp [e1])
  rw [if_neg e1]
  by_cases e2 : a.kind = 2
  · rw [if_pos e2]; exact (h0 _ (hj0 (by omega))).get (by rw [hn]; simp [e2])
  rw [if_neg e2]
  by_cases e3 : a.kind = 3
  · rw [if_pos e3]
    have h0 := h0 _ (hj0 (by omega))
    have hn : M n = false := by rw [hn]; simp [e3]
    unfold Pe.lock
    split
    · exact Mid.tell (P := P0.touch a.w) h0.withLk (.inl hn)
    split
    · exact h0.withLk.read hn
    split
    · exact h0.withLk.tell (.inl hn)
    · exact (h0.withLk (l := (P0.lk.lock a.w a.o).1)).wait (x := ⟨n, false, a.w, a.o⟩) ⟨⟨by simp, by simp; omega⟩, hn⟩
  rw [if_neg e3]
  by_cases e4 : a.kind = 4
  · rw [if_pos e4]
    have h0 := h0 _ (hj0 (by omega))
    have hn : M n = false := by rw [hn]; simp [e4]
    unfold Pe.free
    split
    · exact h0.withLk.tell (.inl hn)
    split
    · exact h0.withLk.tell (.inl hn)
    · refine (h0.withLk.tell (.inl hn)).served fun Q x hx hx2 hQ => hQ.read ?_
      rw [hx2.2]; simp at hx; exact hx.1
  rw [if_neg e4]
  by_cases e5 : a.kind = 5
  · rw [if_pos e5]
    exact (h0 _ (hj0 (by omega))).withLk.tell (.inl (by rw [hn]; simp [e5]))
  rw [if_neg e5]
  by_cases e6 : a.kind = 6
  · rw [if_pos e6]
    exact (h0 _ (hj0 (by omega))).withLk.tell (.inl (by rw [hn]; simp [e6]))
  rw [if_neg e6]
  by_cases e7 : a.kind = 7
  · rw [if_pos e7]
    exact (h0 _ (hj0 (by omega))).withLk.tell (.inl (by rw [hn]; simp [e7]))
  rw [if_neg e7]
  by_cases e8 : a.kind = 8
  · rw [if_pos e8]
    have h0 := h0 _ (hj0 (by omega))
    have hn : M n = false := by rw [hn]; simp [e8]
    unfold Pe.out
    split
    · refine (h0.withLk.tell (.inl hn)).served fun Q x hx hx2 hQ => hQ.tell (.inl ?_)
      rw [hx2.2]; simp at hx; exact hx.1
    · exact h0.withLk.tell (.inl hn)
  rw [if_neg e8]
  by_cases e9 : a.kind = 9
  · rw [if_pos e9]
    exact (h0 _ (hj0 (by omega))).mark ⟨⟨by simp, by simp; omega⟩, by rw [hn]; simp [e9]⟩
  rw [if_neg e9]
  have e10 : a.kind = 10 := by have := kind10 ⟨ho.1, ho.2.1⟩; omega
  have hn : M n = false := by rw [hn]; simp [e10]
  unfold Pe.join
  split
  · rename_i hE'
    have hj := hE (by rw [← em]; exact hE')
    exact (h0 _ (by rw [hj, e10]; rfl)).tell (.inl hn)
  · have hj : (P.joined || decide (a.kind = 10)) = true := by rw [e10]; simp
    rw [hj]
    have h1 : Mid M (n + 1) P.me P.value P.marked true ({ P0 with joined := true } : Pe) := by
      have h := h0 _ rfl
      exact ⟨h.wts, h.eme, h.val, rfl, h.cnt, fun y hy hh => ⟨rfl, (h.all y hy hh).2⟩⟩
    refine (h1.tell (.inl hn)).served fun Q x hx hx2 hQ => hQ.mark ⟨hx2.1, hx2.2.trans hx⟩
end Go.SL
