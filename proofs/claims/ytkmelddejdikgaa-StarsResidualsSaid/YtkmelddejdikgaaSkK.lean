/-
  Chapter 20: the examples, reckoned.
-/
import Derived.Test.YtkmelddejdikgaaSkJ
import Derived.Test.YtkmelddejdikgaaSkD
import Derived.Test.YtkmelddejdikgaaLawVec
import Derived.Test.YtkmelddejdikgaaQEq
set_option linter.unusedSimpArgs false
set_option linter.unusedVariables false
namespace Go.Proofs.Ytkmelddejdikgaa
open Go.RowKit PM Dt
def ltF (l : List Int) : Nat → Int := fun j => l.getD j 0
theorem prd_congr {m L : Nat → Int} (h : ∀ j, j < 16 → m j = L j) : ∀ j, j < 16 → prdF m j = prdF L j := fun j hj => by
  unfold prdF
  rw [h _ (by omega), h _ (by omega), h _ (by omega), h _ (by omega), h _ (by omega), h _ (by omega), h _ (by omega), h _ (by omega)]
theorem sqr_congr {m L : Nat → Int} (h : ∀ j, j < 16 → m j = L j) : ∀ j, j < 16 → sqrF m j = sqrF L j := fun j hj => by
  have p := prd_congr h
  unfold sqrF divF trcF
  rw [p j hj, p 0 (by omega), p 5 (by omega), p 10 (by omega), p 15 (by omega)]
theorem itr_next {m L L' : Nat → Int} {k : Nat} (h : ∀ j, j < 16 → itrF m k j = L j) (hs : ∀ j, j < 16 → sqrF L j = L' j) : ∀ j, j < 16 → itrF m (k + 1) j = L' j := fun j hj =>
  (sqr_congr h j hj).trans (hs j hj)
theorem hlf_congr {m L : Nat → Int} (h : ∀ j, j < 16 → m j = L j) : ∀ j, j < 16 → hlfF m j = hlfF L j := fun j hj => by
  unfold hlfF; rw [h j hj]
theorem bst_congr {m L : Nat → Int} (h : ∀ j, j < 16 → m j = L j) : ∀ k, k ≤ 4 → bstF m k = bstF L k
  | 0, _ => rfl
  | k + 1, hk => by
    have e := bst_congr h k (by omega)
    have l := bst_lt L k (by omega)
    unfold bstF
    rw [e, h _ (by omega), h _ (by omega)]
theorem sol_congr {m L : Nat → Int} (h : ∀ j, j < 16 → m j = L j) : solF m = solF L := by
  have e := bst_congr h 4 (Nat.le_refl _)
  have l := bst_lt L 4 (Nat.le_refl _)
  unfold solF
  rw [e]
  have : colF m (bstF L 4) = colF L (bstF L 4) := by
    unfold colF
    funext i
    split <;> exact h _ (by omega)
  rw [this]
def ls1 (s : Sgt) : Nat → Sgt := fun _ => s
def ls2 (s u : Sgt) : Nat → Sgt := fun k => if k = 0 then s else u
theorem el_1 {w : World} {b : Nat} {s : Sgt} {t : TypeId} {cs : Array Value} (h : blk w b cs t) (hc : cs = sgc s) : ElemsA w (some ⟨b, 0, none⟩) 1 7 (fun k => (sgc (ls1 s k)).toList) := fun k hk => by
  obtain rfl : k = 0 := by omega
  subst hc
  exact ⟨b, 0, rfl, h.lt, fun j v hj => h.cellIs (by simpa [ls1] using hj)⟩
theorem el_2 {w : World} {b : Nat} {s u : Sgt} {t : TypeId} {cs : Array Value} (h : blk w b cs t) (hc : cs = sgc s ++ sgc u) : ElemsA w (some ⟨b, 0, none⟩) 2 7 (fun k => (sgc (ls2 s u k)).toList) := fun k hk => by
  subst hc
  refine ⟨b, 0, rfl, h.lt, fun j v hj => h.cellIs ?_⟩
  have hj7 : j < 7 := by
    have := (List.getElem?_eq_some_iff.1 hj).1
    simpa [sgc] using this
  rcases (show k = 0 ∨ k = 1 by omega) with rfl | rfl
  · rw [Array.getElem?_append_left (by rw [sgc_size]; omega)]
    simpa [ls2] using hj
  · rw [Array.getElem?_append_right (by rw [sgc_size]; omega), sgc_size, show 0 + 1 * 7 + j - 7 = j by omega]
    simpa [ls2] using hj
theorem el_fewer {w : World} {a : Option Addr} {n m sz : Nat} {C : Nat → List Value} (h : ElemsA w a n sz C) (hm : m ≤ n) : ElemsA w a m sz C := fun k hk => h k (by omega)
theorem el_none {w : World} {a : Option Addr} {sz : Nat} {C : Nat → List Value} : ElemsA w a 0 sz C := fun k hk => by omega
def stw_S : Nat → Sgt := ls2 ⟨(of3 1073741824 0 0), (of3 1073741824 0 0), 1⟩ ⟨(of3 0 1073741824 0), (of3 0 1073741824 0), 1⟩
theorem stw_val : valS stw_S 2 = true := by decide +kernel
theorem stw_spr : sprI stw_S 2 2 = 1073741824 := by decide +kernel
theorem stw_mat : ∀ j, j < 16 → matF stw_S 2 j = ltF [1073741824, 0, 0, 0, 0, 0, 0, 0, 0, 0, 0, 0, 0, 0, 0, (-1073741824)] j := by decide +kernel
theorem stw_0 : ∀ j, j < 16 → itrF (hlfF (matF stw_S 2)) 0 j = ltF [1073741824, 0, 0, 0, 0, 536870912, 0, 0, 0, 0, 536870912, 0, 0, 0, 0, 0] j := fun j hj => (hlf_congr stw_mat j hj).trans ((by decide +kernel : ∀ j, j < 16 → hlfF (ltF [1073741824, 0, 0, 0, 0, 0, 0, 0, 0, 0, 0, 0, 0, 0, 0, (-1073741824)]) j = ltF [1073741824, 0, 0, 0, 0, 536870912, 0, 0, 0, 0, 536870912, 0, 0, 0, 0, 0] j) j hj)
theorem stw_1 : ∀ j, j < 16 → itrF (hlfF (matF stw_S 2)) 1 j = ltF [715827883, 0, 0, 0, 0, 178956971, 0, 0, 0, 0, 178956971, 0, 0, 0, 0, 0] j := itr_next stw_0 (by decide +kernel)
theorem stw_2 : ∀ j, j < 16 → itrF (hlfF (matF stw_S 2)) 2 j = ltF [954437176, 0, 0, 0, 0, 59652324, 0, 0, 0, 0, 59652324, 0, 0, 0, 0, 0] j := itr_next stw_1 (by decide +kernel)
theorem stw_3 : ∀ j, j < 16 → itrF (hlfF (matF stw_S 2)) 3 j = ltF [1065418244, 0, 0, 0, 0, 4161790, 0, 0, 0, 0, 4161790, 0, 0, 0, 0, 0] j := itr_next stw_2 (by decide +kernel)
theorem stw_4 : ∀ j, j < 16 → itrF (hlfF (matF stw_S 2)) 4 j = ltF [1073709057, 0, 0, 0, 0, 16384, 0, 0, 0, 0, 16384, 0, 0, 0, 0, 0] j := itr_next stw_3 (by decide +kernel)
theorem stw_5 : ∀ j, j < 16 → itrF (hlfF (matF stw_S 2)) 5 j = ltF [1073741824, 0, 0, 0, 0, 0, 0, 0, 0, 0, 0, 0, 0, 0, 0, 0] j := itr_next stw_4 (by decide +kernel)
theorem stw_6 : ∀ j, j < 16 → itrF (hlfF (matF stw_S 2)) 6 j = ltF [1073741824, 0, 0, 0, 0, 0, 0, 0, 0, 0, 0, 0, 0, 0, 0, 0] j := itr_next stw_5 (by decide +kernel)
theorem stw_7 : ∀ j, j < 16 → itrF (hlfF (matF stw_S 2)) 7 j = ltF [1073741824, 0, 0, 0, 0, 0, 0, 0, 0, 0, 0, 0, 0, 0, 0, 0] j := itr_next stw_6 (by decide +kernel)
theorem stw_8 : ∀ j, j < 16 → itrF (hlfF (matF stw_S 2)) 8 j = ltF [1073741824, 0, 0, 0, 0, 0, 0, 0, 0, 0, 0, 0, 0, 0, 0, 0] j := itr_next stw_7 (by decide +kernel)
theorem stw_9 : ∀ j, j < 16 → itrF (hlfF (matF stw_S 2)) 9 j = ltF [1073741824, 0, 0, 0, 0, 0, 0, 0, 0, 0, 0, 0, 0, 0, 0, 0] j := itr_next stw_8 (by decide +kernel)
theorem stw_10 : ∀ j, j < 16 → itrF (hlfF (matF stw_S 2)) 10 j = ltF [1073741824, 0, 0, 0, 0, 0, 0, 0, 0, 0, 0, 0, 0, 0, 0, 0] j := itr_next stw_9 (by decide +kernel)
theorem stw_11 : ∀ j, j < 16 → itrF (hlfF (matF stw_S 2)) 11 j = ltF [1073741824, 0, 0, 0, 0, 0, 0, 0, 0, 0, 0, 0, 0, 0, 0, 0] j := itr_next stw_10 (by decide +kernel)
theorem stw_12 : ∀ j, j < 16 → itrF (hlfF (matF stw_S 2)) 12 j = ltF [1073741824, 0, 0, 0, 0, 0, 0, 0, 0, 0, 0, 0, 0, 0, 0, 0] j := itr_next stw_11 (by decide +kernel)
theorem stw_slv : qfn (slvV stw_S 2) = qfn (of4 1073741824 0 0 0) := by
  unfold slvV slvOk
  rw [stw_val, stw_spr, if_pos (by decide), sol_congr stw_12]
  exact qfn_congr (by decide +kernel)
theorem stw_slvE : slvE stw_S 2 = 0 := by
  unfold slvE
  rw [stw_val, stw_spr]; rfl
def stx_S : Nat → Sgt := ls2 ⟨(of3 0 1073741824 0), (of3 1073741824 0 0), 1⟩ ⟨(of3 0 0 1073741824), (of3 0 0 1073741824), 1⟩
theorem stx_val : valS stx_S 2 = true := by decide +kernel
theorem stx_spr : sprI stx_S 2 2 = 1073741824 := by decide +kernel
theorem stx_mat : ∀ j, j < 16 → matF stx_S 2 j = ltF [536870912, 0, 0, 536870912, 0, (-536870912), 536870912, 0, 0, 536870912, (-536870912), 0, 536870912, 0, 0, 536870912] j := by decide +kernel
theorem stx_0 : ∀ j, j < 16 → itrF (hlfF (matF stx_S 2)) 0 j = ltF [805306368, 0, 0, 268435456, 0, 268435456, 268435456, 0, 0, 268435456, 268435456, 0, 268435456, 0, 0, 805306368] j := fun j hj => (hlf_congr stx_mat j hj).trans ((by decide +kernel : ∀ j, j < 16 → hlfF (ltF [536870912, 0, 0, 536870912, 0, (-536870912), 536870912, 0, 0, 536870912, (-536870912), 0, 536870912, 0, 0, 536870912]) j = ltF [805306368, 0, 0, 268435456, 0, 268435456, 268435456, 0, 0, 268435456, 268435456, 0, 268435456, 0, 0, 805306368] j) j hj)
theorem stx_1 : ∀ j, j < 16 → itrF (hlfF (matF stx_S 2)) 1 j = ltF [447392427, 0, 0, 268435456, 0, 89478485, 89478485, 0, 0, 89478485, 89478485, 0, 268435456, 0, 0, 447392427] j := itr_next stx_0 (by decide +kernel)
theorem stx_2 : ∀ j, j < 16 → itrF (hlfF (matF stx_S 2)) 2 j = ltF [507044750, 0, 0, 447392428, 0, 29826162, 29826162, 0, 0, 29826162, 29826162, 0, 447392428, 0, 0, 507044750] j := itr_next stx_1 (by decide +kernel)
theorem stx_3 : ∀ j, j < 16 → itrF (hlfF (matF stx_S 2)) 3 j = ltF [534790017, 0, 0, 530628227, 0, 2080895, 2080895, 0, 0, 2080895, 2080895, 0, 530628227, 0, 0, 534790017] j := itr_next stx_2 (by decide +kernel)
theorem stx_4 : ∀ j, j < 16 → itrF (hlfF (matF stx_S 2)) 4 j = ltF [536862721, 0, 0, 536846337, 0, 8191, 8191, 0, 0, 8191, 8191, 0, 536846337, 0, 0, 536862721] j := itr_next stx_3 (by decide +kernel)
theorem stx_5 : ∀ j, j < 16 → itrF (hlfF (matF stx_S 2)) 5 j = ltF [536870912, 0, 0, 536870911, 0, 0, 0, 0, 0, 0, 0, 0, 536870911, 0, 0, 536870912] j := itr_next stx_4 (by decide +kernel)
theorem stx_6 : ∀ j, j < 16 → itrF (hlfF (matF stx_S 2)) 6 j = ltF [536870912, 0, 0, 536870912, 0, 0, 0, 0, 0, 0, 0, 0, 536870912, 0, 0, 536870912] j := itr_next stx_5 (by decide +kernel)
theorem stx_7 : ∀ j, j < 16 → itrF (hlfF (matF stx_S 2)) 7 j = ltF [536870912, 0, 0, 536870912, 0, 0, 0, 0, 0, 0, 0, 0, 536870912, 0, 0, 536870912] j := itr_next stx_6 (by decide +kernel)
theorem stx_8 : ∀ j, j < 16 → itrF (hlfF (matF stx_S 2)) 8 j = ltF [536870912, 0, 0, 536870912, 0, 0, 0, 0, 0, 0, 0, 0, 536870912, 0, 0, 536870912] j := itr_next stx_7 (by decide +kernel)
theorem stx_9 : ∀ j, j < 16 → itrF (hlfF (matF stx_S 2)) 9 j = ltF [536870912, 0, 0, 536870912, 0, 0, 0, 0, 0, 0, 0, 0, 536870912, 0, 0, 536870912] j := itr_next stx_8 (by decide +kernel)
theorem stx_10 : ∀ j, j < 16 → itrF (hlfF (matF stx_S 2)) 10 j = ltF [536870912, 0, 0, 536870912, 0, 0, 0, 0, 0, 0, 0, 0, 536870912, 0, 0, 536870912] j := itr_next stx_9 (by decide +kernel)
theorem stx_11 : ∀ j, j < 16 → itrF (hlfF (matF stx_S 2)) 11 j = ltF [536870912, 0, 0, 536870912, 0, 0, 0, 0, 0, 0, 0, 0, 536870912, 0, 0, 536870912] j := itr_next stx_10 (by decide +kernel)
theorem stx_12 : ∀ j, j < 16 → itrF (hlfF (matF stx_S 2)) 12 j = ltF [536870912, 0, 0, 536870912, 0, 0, 0, 0, 0, 0, 0, 0, 536870912, 0, 0, 536870912] j := itr_next stx_11 (by decide +kernel)
theorem stx_slv : qfn (slvV stx_S 2) = qfn (of4 759250125 0 0 759250125) := by
  unfold slvV slvOk
  rw [stx_val, stx_spr, if_pos (by decide), sol_congr stx_12]
  exact qfn_congr (by decide +kernel)
theorem stx_slvE : slvE stx_S 2 = 0 := by
  unfold slvE
  rw [stx_val, stx_spr]; rfl
theorem stw_tb : tbn (matV stw_S 2) = tbn (ltF [1073741824, 0, 0, 0, 0, 0, 0, 0, 0, 0, 0, 0, 0, 0, 0, (-1073741824)]) := by
  unfold matV
  rw [stw_val, if_pos rfl]
  exact tbn_congr stw_mat
theorem stw_mE : matE stw_S 2 = 0 := by unfold matE; rw [stw_val]; rfl
theorem stw_sp : sprV stw_S 2 = 1073741824 := by unfold sprV; rw [stw_val, if_pos rfl]; exact stw_spr
theorem stw_v1 : valS stw_S 1 = true := by decide +kernel
theorem stw_s1 : sprI stw_S 1 1 = 0 := by decide +kernel
theorem stw_E1 : slvE stw_S 1 = 4 := by unfold slvE; rw [stw_v1, stw_s1]; rfl
theorem stw_sp1 : sprV stw_S 1 = 0 := by unfold sprV; rw [stw_v1, if_pos rfl]; exact stw_s1
theorem stw_m1 : matE stw_S 1 = 0 := by unfold matE; rw [stw_v1]; rfl
theorem stn_E (S : Nat → Sgt) : slvE S 0 = 2 := rfl
theorem stw_q : validQ (of4 1073741824 0 0 0) = true := by decide +kernel
theorem stw_r : resV (of4 1073741824 0 0 0) stw_S 2 = 0 ∧ resE2 (of4 1073741824 0 0 0) stw_S 2 = 0 := by
  unfold resV resE2 resOk
  rw [stw_val, stw_q]
  exact ⟨by decide +kernel, rfl⟩
def sty_S : Nat → Sgt := ls1 ⟨of3 1073741824 0 0, of3 (-1073741824) 0 0, 7⟩
theorem sty_val : valS sty_S 1 = true := by decide +kernel
theorem sty_r : resV (of4 1073741824 0 0 0) sty_S 1 = 2147483648 ∧ resE2 (of4 1073741824 0 0 0) sty_S 1 = 0 := by
  unfold resV resE2 resOk
  rw [sty_val, stw_q]
  exact ⟨by decide +kernel, rfl⟩
def stz_S : Nat → Sgt := ls1 ⟨of3 1073741824 0 0, of3 1073741824 0 0, 0⟩
theorem stz_E : matE stz_S 1 = 2 := by
  have : valS stz_S 1 = false := by decide +kernel
  unfold matE; rw [this]; rfl
end Go.Proofs.Ytkmelddejdikgaa
