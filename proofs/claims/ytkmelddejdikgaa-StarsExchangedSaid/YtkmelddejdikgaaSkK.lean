/-
  Chapter 20: the examples, reckoned.
-/
import Derived.Test.YtkmelddejdikgaaSkJ
import Derived.Test.YtkmelddejdikgaaSkC
import Derived.Test.YtkmelddejdikgaaLawVec
import Derived.Test.YtkmelddejdikgaaQEq
set_option linter.unusedSimpArgs false
set_option linter.unusedVariables false
namespace Go.Proofs.Ytkmelddejdikgaa
open Go.RowKit PM Dt
def ltF (l : List Int) : Nat → Int := fun j => l.getD j 0
theorem prd_congr {m L : Nat → Int} (h : ∀ j, j < 16 → m j = L j) : ∀ j, j < 16 → prdF m j = prdF L j := fun j hj => by
  unfold prdF
  rw [h _ (by omega), h _ (by omega), h _ (by omega), h _ (by omega), h _ (by omega), h _ (by omega), h _ (by omega), h _ (by omega)]
theorem sqr_congr {m L : Nat → Int} (h : ∀ j, j < 16 → m j = L j) : ∀ j, j < 16 → sqrF m j = sqrF L j := fun j hj => by
  have p := prd_congr h
  unfold sqrF divF trcF
  rw [p j hj, p 0 (by omega), p 5 (by omega), p 10 (by omega), p 15 (by omega)]
theorem itr_next {m L L' : Nat → Int} {k : Nat} (h : ∀ j, j < 16 → itrF m k j = L j) (hs : ∀ j, j < 16 → sqrF L j = L' j) : ∀ j, j < 16 → itrF m (k + 1) j = L' j := fun j hj =>
  (sqr_congr h j hj).trans (hs j hj)
theorem hlf_congr {m L : Nat → Int} (h : ∀ j, j < 16 → m j = L j) : ∀ j, j < 16 → hlfF m j = hlfF L j := fun j hj => by
  unfold hlfF; rw [h j hj]
theorem bst_congr {m L : Nat → Int} (h : ∀ j, j < 16 → m j = L j) : ∀ k, k ≤ 4 → bstF m k = bstF L k
  | 0, _ => rfl
  | k + 1, hk => by
    have e := bst_congr h k (by omega)
    have l := bst_lt L k (by omega)
    unfold bstF
    rw [e, h _ (by omega), h _ (by omega)]
theorem sol_congr {m L : Nat → Int} (h : ∀ j, j < 16 → m j = L j) : solF m = solF L := by
  have e := bst_congr h 4 (Nat.le_refl _)
  have l := bst_lt L 4 (Nat.le_refl _)
  unfold solF
  rw [e]
  have : colF m (bstF L 4) = colF L (bstF L 4) := by
    unfold colF
    funext i
    split <;> exact h _ (by omega)
  rw [this]
def ls2 (s u : Sgt) : Nat → Sgt := fun k => if k = 0 then s else u
theorem el_2 {w : World} {b : Nat} {s u : Sgt} {t : TypeId} {cs : Array Value} (h : blk w b cs t) (hc : cs = sgc s ++ sgc u) : ElemsA w (some ⟨b, 0, none⟩) 2 7 (fun k => (sgc (ls2 s u k)).toList) := fun k hk => by
  subst hc
  refine ⟨b, 0, rfl, h.lt, fun j v hj => h.cellIs ?_⟩
  have hj7 : j < 7 := by
    have := (List.getElem?_eq_some_iff.1 hj).1
    simpa [sgc] using this
  rcases (show k = 0 ∨ k = 1 by omega) with rfl | rfl
  · rw [Array.getElem?_append_left (by rw [sgc_size]; omega)]
    simpa [ls2] using hj
  · rw [Array.getElem?_append_right (by rw [sgc_size]; omega), sgc_size, show 0 + 1 * 7 + j - 7 = j by omega]
    simpa [ls2] using hj
def stw_S : Nat → Sgt := ls2 ⟨(of3 1073741824 0 0), (of3 1073741824 0 0), 1⟩ ⟨(of3 0 1073741824 0), (of3 0 1073741824 0), 1⟩
theorem stw_val : valS stw_S 2 = true := by decide +kernel
theorem stw_spr : sprI stw_S 2 2 = 1073741824 := by decide +kernel
theorem stw_mat : ∀ j, j < 16 → matF stw_S 2 j = ltF [1073741824, 0, 0, 0, 0, 0, 0, 0, 0, 0, 0, 0, 0, 0, 0, (-1073741824)] j := by decide +kernel
theorem stw_0 : ∀ j, j < 16 → itrF (hlfF (matF stw_S 2)) 0 j = ltF [1073741824, 0, 0, 0, 0, 536870912, 0, 0, 0, 0, 536870912, 0, 0, 0, 0, 0] j := fun j hj => (hlf_congr stw_mat j hj).trans ((by decide +kernel : ∀ j, j < 16 → hlfF (ltF [1073741824, 0, 0, 0, 0, 0, 0, 0, 0, 0, 0, 0, 0, 0, 0, (-1073741824)]) j = ltF [1073741824, 0, 0, 0, 0, 536870912, 0, 0, 0, 0, 536870912, 0, 0, 0, 0, 0] j) j hj)
theorem stw_1 : ∀ j, j < 16 → itrF (hlfF (matF stw_S 2)) 1 j = ltF [715827883, 0, 0, 0, 0, 178956971, 0, 0, 0, 0, 178956971, 0, 0, 0, 0, 0] j := itr_next stw_0 (by decide +kernel)
theorem stw_2 : ∀ j, j < 16 → itrF (hlfF (matF stw_S 2)) 2 j = ltF [954437176, 0, 0, 0, 0, 59652324, 0, 0, 0, 0, 59652324, 0, 0, 0, 0, 0] j := itr_next stw_1 (by decide +kernel)
theorem stw_3 : ∀ j, j < 16 → itrF (hlfF (matF stw_S 2)) 3 j = ltF [1065418244, 0, 0, 0, 0, 4161790, 0, 0, 0, 0, 4161790, 0, 0, 0, 0, 0] j := itr_next stw_2 (by decide +kernel)
theorem stw_4 : ∀ j, j < 16 → itrF (hlfF (matF stw_S 2)) 4 j = ltF [1073709057, 0, 0, 0, 0, 16384, 0, 0, 0, 0, 16384, 0, 0, 0, 0, 0] j := itr_next stw_3 (by decide +kernel)
theorem stw_5 : ∀ j, j < 16 → itrF (hlfF (matF stw_S 2)) 5 j = ltF [1073741824, 0, 0, 0, 0, 0, 0, 0, 0, 0, 0, 0, 0, 0, 0, 0] j := itr_next stw_4 (by decide +kernel)
theorem stw_6 : ∀ j, j < 16 → itrF (hlfF (matF stw_S 2)) 6 j = ltF [1073741824, 0, 0, 0, 0, 0, 0, 0, 0, 0, 0, 0, 0, 0, 0, 0] j := itr_next stw_5 (by decide +kernel)
theorem stw_7 : ∀ j, j < 16 → itrF (hlfF (matF stw_S 2)) 7 j = ltF [1073741824, 0, 0, 0, 0, 0, 0, 0, 0, 0, 0, 0, 0, 0, 0, 0] j := itr_next stw_6 (by decide +kernel)
theorem stw_8 : ∀ j, j < 16 → itrF (hlfF (matF stw_S 2)) 8 j = ltF [1073741824, 0, 0, 0, 0, 0, 0, 0, 0, 0, 0, 0, 0, 0, 0, 0] j := itr_next stw_7 (by decide +kernel)
theorem stw_9 : ∀ j, j < 16 → itrF (hlfF (matF stw_S 2)) 9 j = ltF [1073741824, 0, 0, 0, 0, 0, 0, 0, 0, 0, 0, 0, 0, 0, 0, 0] j := itr_next stw_8 (by decide +kernel)
theorem stw_10 : ∀ j, j < 16 → itrF (hlfF (matF stw_S 2)) 10 j = ltF [1073741824, 0, 0, 0, 0, 0, 0, 0, 0, 0, 0, 0, 0, 0, 0, 0] j := itr_next stw_9 (by decide +kernel)
theorem stw_11 : ∀ j, j < 16 → itrF (hlfF (matF stw_S 2)) 11 j = ltF [1073741824, 0, 0, 0, 0, 0, 0, 0, 0, 0, 0, 0, 0, 0, 0, 0] j := itr_next stw_10 (by decide +kernel)
theorem stw_12 : ∀ j, j < 16 → itrF (hlfF (matF stw_S 2)) 12 j = ltF [1073741824, 0, 0, 0, 0, 0, 0, 0, 0, 0, 0, 0, 0, 0, 0, 0] j := itr_next stw_11 (by decide +kernel)
theorem stw_slv : qfn (slvV stw_S 2) = qfn (of4 1073741824 0 0 0) := by
  unfold slvV slvOk
  rw [stw_val, stw_spr, if_pos (by decide), sol_congr stw_12]
  exact qfn_congr (by decide +kernel)
theorem stw_slvE : slvE stw_S 2 = 0 := by
  unfold slvE
  rw [stw_val, stw_spr]; rfl
theorem stw_tb : tbn (matV stw_S 2) = tbn (ltF [1073741824, 0, 0, 0, 0, 0, 0, 0, 0, 0, 0, 0, 0, 0, 0, (-1073741824)]) := by
  unfold matV
  rw [stw_val, if_pos rfl]
  exact tbn_congr stw_mat
theorem stw_mE : matE stw_S 2 = 0 := by unfold matE; rw [stw_val]; rfl
theorem stw_sp : sprV stw_S 2 = 1073741824 := by unfold sprV; rw [stw_val, if_pos rfl]; exact stw_spr
end Go.Proofs.Ytkmelddejdikgaa
