/- Layer 11: the reference's way of a search: the functions. Conditions: none. -/
import Derived.Test.YtgcmglieciaifaaGh
import Derived.Test.YtgcmglieciaifaaGk
set_option linter.unusedSimpArgs false
set_option linter.unusedVariables false
set_option maxRecDepth 100000
set_option maxHeartbeats 4000000
namespace Go.SL
open Go
theorem ofBits_pre {v : Vec} (hv : vecG v) {n : Nat} (h : n ≤ v.n) : (⟨(n : Int), ((ofBits ((vbits v).take n) : Nat) : Int)⟩ : Vec) = vpre v n := by
  have hG := vpre_G hv h
  rw [← vpre_bits hv h]
  have h1 : ofBits (vbits (vpre v n)) = (vpre v n).b := ofBits_bits _ _ hG.lt
  have h2 := hG.bits
  have h3 : (vpre v n).len = n := rfl
  rw [h1, ← h2]
  rfl
end Go.SL
namespace Go.Proofs.Ytgcmglieciaifaa
open Go Go.SL
attribute [local irreducible] pc rc SlT Me Mt It pt ro pur ex sep old Meets
theorem r1Prefix_fn (v : Vec) (n : Int) (F : List Assn) (hv : vecG v) (h0 : 0 ≤ n) (h1 : n ≤ v.len) : Meets Try.prog 66 [vv v, i64 n] F (Det (.tuple #[vv (vpre v n), i64 0]) F) := by
  refine Meets.intro b66 k66 (by simp) ?_
  have hok := hv.1
  have hl := hv.len
  obtain ⟨k, rfl⟩ : ∃ k : Nat, n = k := ⟨n.toNat, by omega⟩
  have hk : k ≤ v.n := by omega
  have hb := vbits_len v
  have hO : ∀ (a : Option Addr) (c : Nat) (F : List Assn), Meets Try.prog 46 [.slice a ((nI (vbits v)).take k).length c] (SlT true intE 1 (.slice a ((nI (vbits v)).take k).length c) c ((nI (vbits v)).take k) :: F) (Det (vv (vpre v k)) (SlT true intE 1 (.slice a ((nI (vbits v)).take k).length c) c ((nI (vbits v)).take k) :: F)) := by
    intro a c F
    have e : (nI (vbits v)).take k = nI ((vbits v).take k) := by unfold nI; rw [List.map_take]
    rw [e]
    have := r1Of_fn (a := a) (c := c) (xs := (vbits v).take k) (F := SlT true intE 1 (.slice a (nI ((vbits v).take k)).length c) c (nI ((vbits v).take k)) :: F) (fun x hx => by
      rcases bits_bin _ _ x (List.mem_of_mem_take hx) with h | h <;> omega) (by rw [List.length_take]; omega)
    have e2 : ((vbits v).take k).length = k := by rw [List.length_take]; omega
    rw [e2, ofBits_pre hv hk] at this
    exact this
  focus
   refine zs <| yB rfl fun b2 => yN fun b4 => zc rfl <| zw rfl rfl <| yD rfl rfl (.of .rf) (r1Right_fn _ _) <| zc rfl <| zd <| zq <| zi rfl (fun h2 => ?_) (fun h2 => ?_)
   contradiction
   refine zk <| zs <| zy (.cltF rfl rfl (by omega)) <| yG rfl <| zf 0 rfl rfl <| yG rfl <| zl rfl rfl <| yG rfl <| zy (.cgtF rfl rfl (by omega)) <| zy (.pickF rfl rfl) <| zd <| zq ?_
   refine zu rfl <| zk <| zs <| zw rfl rfl <| yE rfl rfl (.of .rf) (r1Bits_fn _ _ (by assumption)) fun ⟨a20, c20⟩ _ => ?_
  dsimp only
  have hnl : (nI (vbits v)).length = v.n := by simp [vbits_len]
  change JT _ _ ((20, .slice a20 (nI (vbits v)).length c20) :: _) (SlT true intE 1 (.slice a20 (nI (vbits v)).length c20) c20 (nI (vbits v)) :: _) _
  refine JT.fact (fun w hs => hs.capF Has.here) (fun hcap => ?_)
  focus
   ((refine JT.OG rfl .no (.c rfl) .no (by decide) (by omega) (by omega) (by omega) (by omega) (fun a22 => ?_)); (try simp only [List.take_length, List.drop_zero, Nat.sub_zero]))
   refine yD rfl rfl (.of (.t0 .rf)) (hO _ _ _) <| yW rfl rfl rfl rfl rfl <| zc rfl <| zd <| zr <| yR (.w rfl rfl (.t rfl .nil)) rfl (.of (.d (.d (.d .rf))))
theorem r11next_fn (h : Int) (r : SL.Ref) (lv : Int) {a1 : Option Addr} {c1 : Nat} {xs : List SL.Ref} {F : List Assn} [Hs : HS F (.slice a1 xs.length c1) SL.Ref refC 5 c1 xs] (hg : grOk h xs) (hb : ∀ r ∈ xs, 0 ≤ r.vec.bits) (hr : gOn h xs r) (h0 : 0 ≤ lv) (h1 : lv ≤ h) :
    Meets Try.prog 41 [i64 h, rv r, i64 lv, .slice a1 xs.length c1] F (Det (.tuple #[rv (gnext h xs true r lv), rv (gnext h xs false r lv)]) F) := by
  refine Meets.intro b41 k41 (by simp) ?_
  have hP := fun F => r1Prefix_fn r.vec lv F ⟨hr.ok, hr.pos⟩ h0 (by rw [hr.len]; exact h1)
  have hw := (vpre_ok hr.ok hr.pos h0 (by rw [hr.len]; exact h1)).2
  unfold gnext
  simp only [if_true, Bool.false_eq_true, if_false]
  generalize vpre r.vec lv = w at *
  have hR : ∀ {F : List Assn} [HS F (.slice a1 xs.length c1) SL.Ref refC 5 c1 xs], Meets Try.prog 27 [i64 h, vv w, .slice a1 xs.length c1] F _ := fun {F} _ => r11Row_fn h w (F := F) hg hb hw
  have hbs := fun {a : Option Addr} {c : Nat} {F : List Assn} [HS F (.slice a (grow h xs w).length c) SL.Ref refC 5 c (grow h xs w)] => r11beside_fn (a1 := a) (c1 := c) (L := grow h xs w) (F := F) r.id
  generalize grow h xs w = L at *
  focus
   refine zs <| yB rfl fun b5 => yN fun b8 => yN fun b9 => zfw [_, _] rfl rfl rfl rfl <| yD rfl rfl (.of .rf) (hP _) <| zc rfl <| zc rfl <| yN fun b10 => yW rfl rfl rfl rfl rfl <| zw rfl rfl <| zf 0 rfl rfl ?_
   refine zl rfl rfl <| JT.both ?_ ?_
   refine yE rfl rfl (.of .rf) hR fun ⟨a26, c26⟩ _ => JT.yA rfl (Ev.L rfl rfl) <| JT.both ?_ ?_
   refine yD rfl rfl (.of .rf) hbs <| zc rfl <| zc rfl <| zc rfl <| JT.both ?_ ?_
   refine yN fun b12 => yN fun b13 => yW rfl rfl rfl rfl rfl <| yW rfl rfl rfl rfl rfl <| zd <| zs <| zw rfl rfl <| zw rfl rfl <| yW rfl rfl rfl rfl rfl <| JT.yA rfl (Ev.Lw rfl rfl) <| yW rfl rfl rfl rfl rfl <| zd ?_
   refine zr <| yR (.w rfl rfl (.w rfl rfl .nil)) rfl (.of (.d (.d (.d (.d (.d (.d (.d .rf))))))))
   refine yN fun b13 => yN fun b12 => yW rfl rfl rfl rfl rfl <| yW rfl rfl rfl rfl rfl <| zd <| zs <| zw rfl rfl <| zw rfl rfl <| yW rfl rfl rfl rfl rfl <| JT.yA rfl (Ev.Lw rfl rfl) <| yW rfl rfl rfl rfl rfl <| zd ?_
   refine zr <| yR (.w rfl rfl (.w rfl rfl .nil)) rfl (.of (.d (.d (.d (.d (.d (.d (.d .rf))))))))
   refine JT.both ?_ ?_
   refine yN fun b12 => JT.both ?_ ?_
   refine yD rfl rfl (.of .rf) hbs <| zc rfl <| zc rfl <| zc rfl <| yN fun b13 => yW rfl rfl rfl rfl rfl <| yW rfl rfl rfl rfl rfl <| zd <| zs <| zw rfl rfl <| zw rfl rfl <| yW rfl rfl rfl rfl rfl ?_
   refine JT.yA rfl (Ev.Lw rfl rfl) <| yW rfl rfl rfl rfl rfl <| zd <| zr <| yR (.w rfl rfl (.w rfl rfl .nil)) rfl (.of (.d (.d (.d (.d (.d (.d (.d .rf))))))))
   refine yN fun b13 => yD rfl rfl (.of .rf) hbs <| zc rfl <| zc rfl <| zc rfl <| yW rfl rfl rfl rfl rfl <| yW rfl rfl rfl rfl rfl <| zd <| zs <| zw rfl rfl <| zw rfl rfl <| yW rfl rfl rfl rfl rfl ?_
   refine JT.yA rfl (Ev.Lw rfl rfl) <| yW rfl rfl rfl rfl rfl <| zd <| zr <| yR (.w rfl rfl (.w rfl rfl .nil)) rfl (.of (.d (.d (.d (.d (.d (.d (.d .rf))))))))
   refine yN fun b13 => JT.both ?_ ?_
   refine yD rfl rfl (.of .rf) hbs <| zc rfl <| zc rfl <| zc rfl <| yN fun b12 => yW rfl rfl rfl rfl rfl <| yW rfl rfl rfl rfl rfl <| zd <| zs <| zw rfl rfl <| zw rfl rfl <| yW rfl rfl rfl rfl rfl ?_
   refine JT.yA rfl (Ev.Lw rfl rfl) <| yW rfl rfl rfl rfl rfl <| zd <| zr <| yR (.w rfl rfl (.w rfl rfl .nil)) rfl (.of (.d (.d (.d (.d (.d (.d (.d .rf))))))))
   refine yN fun b12 => yD rfl rfl (.of .rf) hbs <| zc rfl <| zc rfl <| zc rfl <| yW rfl rfl rfl rfl rfl <| yW rfl rfl rfl rfl rfl <| zd <| zs <| zw rfl rfl <| zw rfl rfl <| yW rfl rfl rfl rfl rfl ?_
   refine JT.yA rfl (Ev.Lw rfl rfl) <| yW rfl rfl rfl rfl rfl <| zd <| zr <| yR (.w rfl rfl (.w rfl rfl .nil)) rfl (.of (.d (.d (.d (.d (.d (.d (.d .rf))))))))
   refine JT.both ?_ ?_
   refine yN fun b12 => JT.both ?_ ?_
   refine yE rfl rfl (.of .rf) hR fun ⟨a26, c26⟩ _ => JT.yA rfl (Ev.L rfl rfl) <| JT.both ?_ ?_
   refine yD rfl rfl (.of .rf) hbs <| zc rfl <| zc rfl <| zc rfl <| yN fun b13 => yW rfl rfl rfl rfl rfl <| yW rfl rfl rfl rfl rfl <| zd <| zs <| zw rfl rfl <| zw rfl rfl <| yW rfl rfl rfl rfl rfl ?_
   refine JT.yA rfl (Ev.Lw rfl rfl) <| yW rfl rfl rfl rfl rfl <| zd <| zr <| yR (.w rfl rfl (.w rfl rfl .nil)) rfl (.of (.d (.d (.d (.d (.d (.d (.d .rf))))))))
   refine yN fun b13 => yD rfl rfl (.of .rf) hbs <| zc rfl <| zc rfl <| zc rfl <| yW rfl rfl rfl rfl rfl <| yW rfl rfl rfl rfl rfl <| zd <| zs <| zw rfl rfl <| zw rfl rfl <| yW rfl rfl rfl rfl rfl ?_
   refine JT.yA rfl (Ev.Lw rfl rfl) <| yW rfl rfl rfl rfl rfl <| zd <| zr <| yR (.w rfl rfl (.w rfl rfl .nil)) rfl (.of (.d (.d (.d (.d (.d (.d (.d .rf))))))))
   refine yN fun b13 => yE rfl rfl (.of .rf) hR fun ⟨a26, c26⟩ _ => JT.yA rfl (Ev.L rfl rfl) <| yD rfl rfl (.of .rf) hbs <| zc rfl <| zc rfl <| zc rfl <| yW rfl rfl rfl rfl rfl <| yW rfl rfl rfl rfl rfl <| zd <| zs <| zw rfl rfl ?_
   refine zw rfl rfl <| yW rfl rfl rfl rfl rfl <| JT.yA rfl (Ev.Lw rfl rfl) <| yW rfl rfl rfl rfl rfl <| zd <| zr <| yR (.w rfl rfl (.w rfl rfl .nil)) rfl (.of (.d (.d (.d (.d (.d (.d (.d .rf))))))))
   refine yN fun b13 => JT.both ?_ ?_
   refine yE rfl rfl (.of .rf) hR fun ⟨a26, c26⟩ _ => JT.yA rfl (Ev.L rfl rfl) <| JT.both ?_ ?_
   refine yD rfl rfl (.of .rf) hbs <| zc rfl <| zc rfl <| zc rfl <| yN fun b12 => yW rfl rfl rfl rfl rfl <| yW rfl rfl rfl rfl rfl <| zd <| zs <| zw rfl rfl <| zw rfl rfl <| yW rfl rfl rfl rfl rfl ?_
   refine JT.yA rfl (Ev.Lw rfl rfl) <| yW rfl rfl rfl rfl rfl <| zd <| zr <| yR (.w rfl rfl (.w rfl rfl .nil)) rfl (.of (.d (.d (.d (.d (.d (.d (.d .rf))))))))
   refine yN fun b12 => yD rfl rfl (.of .rf) hbs <| zc rfl <| zc rfl <| zc rfl <| yW rfl rfl rfl rfl rfl <| yW rfl rfl rfl rfl rfl <| zd <| zs <| zw rfl rfl <| zw rfl rfl <| yW rfl rfl rfl rfl rfl ?_
   refine JT.yA rfl (Ev.Lw rfl rfl) <| yW rfl rfl rfl rfl rfl <| zd <| zr <| yR (.w rfl rfl (.w rfl rfl .nil)) rfl (.of (.d (.d (.d (.d (.d (.d (.d .rf))))))))
   refine yN fun b12 => yE rfl rfl (.of .rf) hR fun ⟨a26, c26⟩ _ => JT.yA rfl (Ev.L rfl rfl) <| yD rfl rfl (.of .rf) hbs <| zc rfl <| zc rfl <| zc rfl <| yW rfl rfl rfl rfl rfl <| yW rfl rfl rfl rfl rfl <| zd <| zs <| zw rfl rfl ?_
   refine zw rfl rfl <| yW rfl rfl rfl rfl rfl <| JT.yA rfl (Ev.Lw rfl rfl) <| yW rfl rfl rfl rfl rfl <| zd <| zr <| yR (.w rfl rfl (.w rfl rfl .nil)) rfl (.of (.d (.d (.d (.d (.d (.d (.d .rf))))))))
end Go.Proofs.Ytgcmglieciaifaa
