/-
  Small laws for the rows: what it means that an argument fits its kind, and the closed facts of a row.
-/
import Derived.Test.YthkklhfnmodpnaaHyp
import Derived.Test.YthkklhfnmodpnaaJoin
import Derived.OpenShut
namespace Go.Proofs.Ythkklhfnmodpnaa
open Go.RowKit
theorem wfI64 {a : Int} (h : (Lit.int .i64 a).wf = true) : I64 a := by
  simp only [Lit.wf, Bool.and_eq_true, decide_eq_true_eq] at h
  exact ⟨h.1, h.2⟩
theorem wfU32 {a : Int} (h : (Lit.int .u32 a).wf = true) : ∃ t : Nat, a = t ∧ t < 4294967296 := by
  simp only [Lit.wf, Bool.and_eq_true, decide_eq_true_eq] at h
  have h1 : 0 ≤ a := h.1
  have h2 : a ≤ 4294967295 := h.2
  exact ⟨a.toNat, by omega, by omega⟩
theorem cell_lt {w : World} {a : Addr} {v : Value} (h : w.cell? a = some v) : a.block < w.heap.size := by
  unfold World.cell? at h
  split at h
  · rename_i c e z hb
    exact (Array.getElem?_eq_some_iff.1 hb).1
  · cases h
theorem getD_take (zs : List Int) (n k : Nat) (h : k < n) : (zs.take n).getD k 0 = zs.getD k 0 := by
  simp only [List.getD_eq_getElem?_getD, List.getElem?_take, if_pos h]
/-- A slice of integers that came in. -/
theorem ints_of {w : World} {a : Option Addr} {len cap : Nat} {zs : List Int}
    (h : (a = none ∧ len = 0 ∧ cap = 0 ∧ zs = []) ∨ ∃ x, a = some x ∧ len ≤ cap ∧ cap ≤ maxLen ∧ zs.length = cap ∧ (∀ i, i < zs.length → w.cell? (x.add i) = some (.int .i64 (zs.getD i 0))) ∧ ∀ n ∈ zs, (Lit.int .i64 n).wf = true) :
    Ints w (.slice a len cap) (zs.take len) ∧ ∀ k, k < (zs.take len).length → I64 ((zs.take len).getD k 0) := by
  rcases h with ⟨rfl, rfl, rfl, rfl⟩ | ⟨x, rfl, hl, hm, hz, hc, hw⟩
  · exact ⟨Or.inl ⟨rfl, none, 0, rfl⟩, fun k hk => by simp at hk⟩
  · have hlen : (zs.take len).length = len := by rw [List.length_take]; omega
    have hI : ∀ k, k < (zs.take len).length → I64 ((zs.take len).getD k 0) := by
      intro k hk
      rw [hlen] at hk
      rw [getD_take _ _ _ hk]
      have hk' : k < zs.length := by omega
      have e : zs.getD k 0 = zs[k] := by simp [List.getD_eq_getElem?_getD, List.getElem?_eq_getElem hk']
      rw [e]; exact wfI64 (hw _ (List.getElem_mem hk'))
    refine ⟨?_, hI⟩
    rcases Nat.eq_zero_or_pos len with h0 | h0
    · subst h0; exact Or.inl ⟨by simp, some x, cap, rfl⟩
    · obtain ⟨b, off, rfl, hb⟩ := Go.ints_at (k := .i64) hc (by omega)
      refine Or.inr ⟨by omega, b, off, cap, by rw [hlen], cell_lt (hb 0 (by omega)), fun k hk => ?_⟩
      rw [hlen] at hk
      rw [getD_take _ _ _ hk]; exact hb k (by omega)
end Go.Proofs.Ythkklhfnmodpnaa
