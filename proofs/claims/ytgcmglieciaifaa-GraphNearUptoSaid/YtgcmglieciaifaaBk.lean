/- What the bound on the arguments gives: how long their slices are. Conditions: none. -/
import Derived.Test.YtgcmglieciaifaaRows
namespace Go.Proofs.Ytgcmglieciaifaa
open Go

theorem bulk_one {H : Type} (d : DataW H) : 1 ≤ Rows.uptoBulk d := by
  cases d with
  | lit l => cases l <;> simp [Rows.uptoBulk]
  | _ => simp [Rows.uptoBulk]
theorem bulk_len {H : Type} : ∀ l : List (DataW H), l.length ≤ Rows.uptoBulkAll l
  | [] => by simp [Rows.uptoBulkAll]
  | x :: r => by have := bulk_one x; have := bulk_len r; simp only [Rows.uptoBulkAll, List.length_cons]; omega
theorem bulk_mem {H : Type} {d : DataW H} : ∀ {l : List (DataW H)}, d ∈ l → Rows.uptoBulk d ≤ Rows.uptoBulkAll l
  | x :: r, h => by
    simp only [Rows.uptoBulkAll]
    rcases List.mem_cons.1 h with rfl | h
    · omega
    · have := bulk_mem h; omega
/-- An argument that is a slice is no longer than the bound. -/
theorem bulk_slice {H : Type} {ds gs : List (DataW H)} {d : DataW H} {n : Nat} (hk : Rows.uptoSmall H (ds ++ gs) = true) (hd : d ∈ ds) (h : (d = .nil ∧ n = 0) ∨ ∃ es es', d = .slice es es' ∧ es.length = n) : n ≤ 1048576 := by
  rcases h with ⟨_, h⟩ | ⟨es, es', rfl, rfl⟩
  · omega
  · have h1 : Rows.uptoBulkAll (ds ++ gs) ≤ 1048576 := by simpa [Rows.uptoSmall] using hk
    have h2 := bulk_mem (List.mem_append_left gs hd)
    have h3 := bulk_len es
    simp only [Rows.uptoBulk] at h2
    omega
end Go.Proofs.Ytgcmglieciaifaa
