/-
  Sines and cosines of package fixed and of its specification: what they return.
-/
import Derived.Test.YtkmelddejdikgaaHyp
set_option linter.unusedSimpArgs false
set_option linter.unusedVariables false
namespace Go.Proofs.Ytkmelddejdikgaa
open Go.RowKit PM Dt
/-- A product. -/
def mulV (a b : Int) : Int := ratioV a b 1073741824
theorem fitV_I (q : Int) : I64 (fitV q) := by
  unfold fitV inI I64
  split
  · rename_i h; simp at h; omega
  · omega
theorem ratioV_I (a b c : Int) : I64 (ratioV a b c) := by
  unfold ratioV
  split
  · unfold I64; omega
  · exact fitV_I _
theorem mulV_I (a b : Int) : I64 (mulV a b) := ratioV_I _ _ _
theorem wrap_I (a : Int) : I64 (wrap64 a) := by unfold I64 wrap64; omega
set_option maxRecDepth 100000 in
theorem mulc_any (a b : Int) (w : World) (ha : I64 a) (hb : I64 b) :
    Calls Try.prog 193 #[.int .i64 a, .int .i64 b] w fun e w' => e = .returned (.int .i64 (mulV a b)) ∧ Below w.heap.size w w' := by
  go_enter Try.func193, Try.ntmps193
  go_wp2_with (go_at_call 177; refine (mul_any _ _ _ ha hb).mono ?_; rintro e w1 ⟨rfl, hw⟩)
  go_ret
  exact ⟨rfl, hw⟩
/-- A sum of five terms. -/
def poly (y a b c d e : Int) : Int := mulV y (wrap64 (a - mulV y (wrap64 (b - mulV y (wrap64 (c - mulV y (wrap64 (d - mulV y e))))))))
/-- The part of a turn in radians. -/
def arcV (r : Int) : Int := ratioV r 6746518852 4294967296
/-- The sine of a part of a quarter of a turn. -/
def waveV (r : Int) : Int :=
  if r ≤ 536870912 then mulV (arcV r) (wrap64 (1073741824 - poly (mulV (arcV r) (arcV r)) 178956971 8947849 213044 2959 27))
  else wrap64 (1073741824 - poly (mulV (arcV (1073741824 - r)) (arcV (1073741824 - r))) 536870912 44739243 1491308 26631 296)
/-- The sum of k terms, the last first. -/
def psum (y : Int) (t : Nat → Int) : Nat → Int
  | 0 => 0
  | k + 1 => mulV y (wrap64 (t (4 - k) - psum y t k))
theorem psum_succ (y : Int) (t : Nat → Int) (k : Nat) : psum y t (k + 1) = mulV y (wrap64 (t (4 - k) - psum y t k)) := rfl
theorem psum_zero (y : Int) (t : Nat → Int) : psum y t 0 = 0 := rfl
def tab (a b c d e : Int) : Nat → Int
  | 0 => a
  | 1 => b
  | 2 => c
  | 3 => d
  | _ => e
theorem wrap64_I {a : Int} (h : I64 a) : wrap64 a = a := by unfold I64 at h; unfold wrap64; omega
theorem psum_five (y a b c d e : Int) (h : I64 e) : psum y (tab a b c d e) 5 = poly y a b c d e := by
  have h0 : psum y (tab a b c d e) 1 = mulV y e := by
    rw [psum_succ, psum_zero, Int.sub_zero]
    show mulV y (wrap64 e) = _
    rw [wrap64_I h]
  rw [psum_succ, psum_succ, psum_succ, psum_succ, h0]
  rfl
theorem psum_I (y : Int) (t : Nat → Int) : ∀ k, I64 (psum y t k)
  | 0 => by unfold psum I64; omega
  | k + 1 => mulV_I _ _
attribute [irreducible] psum mulV
set_option maxRecDepth 100000 in
set_option maxHeartbeats 1000000 in
theorem wave_any (r : Int) (w : World) (h0 : 0 ≤ r) (h1 : r ≤ 1073741824) :
    Calls Try.prog 176 #[.int .i64 r] w fun e w' => e = .returned (.int .i64 (waveV r)) ∧ Below w.heap.size w w' := by
  by_cases hr : r ≤ 536870912
  · have hd : decide (536870912 < r) = false := decide_eq_false (by omega)
    have HI := Lib.hid (show I64 r by unfold I64; omega)
    unfold waveV
    rw [if_pos hr]
    clear hr h0 h1
    go_enter Try.func176, Try.ntmps176
    go_upto_region 2 with (refine wpList_store_row rfl _ _ _ rfl _ rfl _ rfl _ _ (blk.new _ _ _) (by kernel_rfl) (by kernel_rfl) rfl ?_)
    try rw [World.setRow_alloc_new]
    obtain ⟨v, hv⟩ : ∃ v, v = w.alloc (.cells #[.int .i64 178956971, .int .i64 8947849, .int .i64 213044, .int .i64 2959, .int .i64 27] 234) := ⟨_, rfl⟩
    have hT : blk v w.heap.size #[.int .i64 178956971, .int .i64 8947849, .int .i64 213044, .int .i64 2959, .int .i64 27] 234 := by rw [hv]; exact blk.new _ _ _
    have hB : More w v := by rw [hv]; exact Below.alloc (Below.refl _ _) (Nat.le_refl _) _
    rw [← hv]
    clear hv
    go_wp2_with (first | (go_at_call 58; refine (ratio_any _ _ _ _ HI.out (by unfold I64; omega) (by unfold I64; omega)).mono ?_; rintro e w1 ⟨rfl, hb⟩; replace hT := hT.below hb hT.lt; replace hB := More.trans hB hb; clear hb) | (go_at_call 193; refine (mulc_any _ _ _ (by first | exact HXI.out | exact HYI.out | exact ratioV_I _ _ _ | exact mulV_I _ _ | exact wrap_I _ | (unfold I64; omega)) (by first | exact HXI.out | exact HYI.out | exact ratioV_I _ _ _ | exact mulV_I _ _ | exact wrap_I _ | (unfold I64; omega))).mono ?_; rintro e w1 ⟨rfl, hb⟩; replace hT := hT.below hb hT.lt; replace hB := More.trans hB hb; clear hb))
    obtain ⟨x, hx⟩ : ∃ x, x = arcV r := ⟨_, rfl⟩
    obtain ⟨y, hy⟩ : ∃ y, y = mulV x x := ⟨_, rfl⟩
    have HX := Lib.hid (show ratioV r 6746518852 4294967296 = x from hx.symm)
    have HXI := Lib.hid (show I64 x by rw [hx]; exact ratioV_I _ _ _)
    have HY := Lib.hid hy
    have HYI := Lib.hid (show I64 y by rw [hy]; exact mulV_I _ _)
    rw [HX.out, ← hy]
    clear hx hy
    go_loopg [9, 28] 5 (fun g sv iv wr => ∃ k : Nat, sv = .int .i64 (psum y (tab 178956971 8947849 213044 2959 27) k) ∧ iv = .int .i64 k ∧ g + k = 5 ∧ blk wr w.heap.size #[.int .i64 178956971, .int .i64 8947849, .int .i64 213044, .int .i64 2959, .int .i64 27] 234 ∧ More w wr)
    case atStart => exact ⟨0, by rw [psum_zero], rfl, rfl, hT, hB⟩
    case round =>
      clear hT hB
      obtain ⟨k, rfl, rfl, hk, hT, hB⟩ := hrel
      have hs := psum_succ y (tab 178956971 8947849 213044 2959 27) k
      have HF := Lib.hid (psum_five y 178956971 8947849 213044 2959 27 (by unfold I64; omega))
      have HPI := Lib.hid (psum_I y (tab 178956971 8947849 213044 2959 27) k)
      obtain ⟨s, hs0⟩ : ∃ s, s = psum y (tab 178956971 8947849 213044 2959 27) k := ⟨_, rfl⟩
      rw [← hs0] at hs HPI ⊢
      have HS0 := Lib.hid hs0
      clear hs0
      rcases Nat.eq_or_lt_of_le (show 0 ≤ k by omega) with hk0 | hk0
      · obtain rfl : k = 0 := hk0.symm
        have hc : wr.cell? ⟨w.heap.size, 4, none⟩ = some (.int .i64 27) := hT.cellIs rfl
        have HS := Lib.hid hs
        clear hs HS0
        go_wp2_with (first | (go_at_call 58; refine (ratio_any _ _ _ _ HI.out (by unfold I64; omega) (by unfold I64; omega)).mono ?_; rintro e w1 ⟨rfl, hb⟩; replace hT := hT.below hb hT.lt; replace hB := More.trans hB hb; clear hb) | (go_at_call 193; refine (mulc_any _ _ _ (by first | exact HXI.out | exact HYI.out | exact ratioV_I _ _ _ | exact mulV_I _ _ | exact wrap_I _ | (unfold I64; omega)) (by first | exact HXI.out | exact HYI.out | exact ratioV_I _ _ _ | exact mulV_I _ _ | exact wrap_I _ | (unfold I64; omega))).mono ?_; rintro e w1 ⟨rfl, hb⟩; replace hT := hT.below hb hT.lt; replace hB := More.trans hB hb; clear hb))
        go_roundg 4
        case rel => exact ⟨1, by rw [HS.out]; rfl, rfl, rfl, hT, hB⟩
        case measure => omega
      rcases Nat.eq_or_lt_of_le (show 1 ≤ k by omega) with hk1 | hk1
      · obtain rfl : k = 1 := hk1.symm
        have hc : wr.cell? ⟨w.heap.size, 3, none⟩ = some (.int .i64 2959) := hT.cellIs rfl
        have HS := Lib.hid hs
        clear hs HS0
        go_wp2_with (first | (go_at_call 58; refine (ratio_any _ _ _ _ HI.out (by unfold I64; omega) (by unfold I64; omega)).mono ?_; rintro e w1 ⟨rfl, hb⟩; replace hT := hT.below hb hT.lt; replace hB := More.trans hB hb; clear hb) | (go_at_call 193; refine (mulc_any _ _ _ (by first | exact HXI.out | exact HYI.out | exact ratioV_I _ _ _ | exact mulV_I _ _ | exact wrap_I _ | (unfold I64; omega)) (by first | exact HXI.out | exact HYI.out | exact ratioV_I _ _ _ | exact mulV_I _ _ | exact wrap_I _ | (unfold I64; omega))).mono ?_; rintro e w1 ⟨rfl, hb⟩; replace hT := hT.below hb hT.lt; replace hB := More.trans hB hb; clear hb))
        go_roundg 3
        case rel => exact ⟨2, by rw [HS.out]; rfl, rfl, rfl, hT, hB⟩
        case measure => omega
      rcases Nat.eq_or_lt_of_le (show 2 ≤ k by omega) with hk2 | hk2
      · obtain rfl : k = 2 := hk2.symm
        have hc : wr.cell? ⟨w.heap.size, 2, none⟩ = some (.int .i64 213044) := hT.cellIs rfl
        have HS := Lib.hid hs
        clear hs HS0
        go_wp2_with (first | (go_at_call 58; refine (ratio_any _ _ _ _ HI.out (by unfold I64; omega) (by unfold I64; omega)).mono ?_; rintro e w1 ⟨rfl, hb⟩; replace hT := hT.below hb hT.lt; replace hB := More.trans hB hb; clear hb) | (go_at_call 193; refine (mulc_any _ _ _ (by first | exact HXI.out | exact HYI.out | exact ratioV_I _ _ _ | exact mulV_I _ _ | exact wrap_I _ | (unfold I64; omega)) (by first | exact HXI.out | exact HYI.out | exact ratioV_I _ _ _ | exact mulV_I _ _ | exact wrap_I _ | (unfold I64; omega))).mono ?_; rintro e w1 ⟨rfl, hb⟩; replace hT := hT.below hb hT.lt; replace hB := More.trans hB hb; clear hb))
        go_roundg 2
        case rel => exact ⟨3, by rw [HS.out]; rfl, rfl, rfl, hT, hB⟩
        case measure => omega
      rcases Nat.eq_or_lt_of_le (show 3 ≤ k by omega) with hk3 | hk3
      · obtain rfl : k = 3 := hk3.symm
        have hc : wr.cell? ⟨w.heap.size, 1, none⟩ = some (.int .i64 8947849) := hT.cellIs rfl
        have HS := Lib.hid hs
        clear hs HS0
        go_wp2_with (first | (go_at_call 58; refine (ratio_any _ _ _ _ HI.out (by unfold I64; omega) (by unfold I64; omega)).mono ?_; rintro e w1 ⟨rfl, hb⟩; replace hT := hT.below hb hT.lt; replace hB := More.trans hB hb; clear hb) | (go_at_call 193; refine (mulc_any _ _ _ (by first | exact HXI.out | exact HYI.out | exact ratioV_I _ _ _ | exact mulV_I _ _ | exact wrap_I _ | (unfold I64; omega)) (by first | exact HXI.out | exact HYI.out | exact ratioV_I _ _ _ | exact mulV_I _ _ | exact wrap_I _ | (unfold I64; omega))).mono ?_; rintro e w1 ⟨rfl, hb⟩; replace hT := hT.below hb hT.lt; replace hB := More.trans hB hb; clear hb))
        go_roundg 1
        case rel => exact ⟨4, by rw [HS.out]; rfl, rfl, rfl, hT, hB⟩
        case measure => omega
      rcases Nat.eq_or_lt_of_le (show 4 ≤ k by omega) with hk4 | hk4
      · obtain rfl : k = 4 := hk4.symm
        have hc : wr.cell? ⟨w.heap.size, 0, none⟩ = some (.int .i64 178956971) := hT.cellIs rfl
        have HS := Lib.hid hs
        clear hs HS0
        go_wp2_with (first | (go_at_call 58; refine (ratio_any _ _ _ _ HI.out (by unfold I64; omega) (by unfold I64; omega)).mono ?_; rintro e w1 ⟨rfl, hb⟩; replace hT := hT.below hb hT.lt; replace hB := More.trans hB hb; clear hb) | (go_at_call 193; refine (mulc_any _ _ _ (by first | exact HXI.out | exact HYI.out | exact ratioV_I _ _ _ | exact mulV_I _ _ | exact wrap_I _ | (unfold I64; omega)) (by first | exact HXI.out | exact HYI.out | exact ratioV_I _ _ _ | exact mulV_I _ _ | exact wrap_I _ | (unfold I64; omega))).mono ?_; rintro e w1 ⟨rfl, hb⟩; replace hT := hT.below hb hT.lt; replace hB := More.trans hB hb; clear hb))
        go_roundg 0
        case rel => exact ⟨5, by rw [HS.out]; rfl, rfl, rfl, hT, hB⟩
        case measure => omega
      obtain rfl : k = 5 := by omega
      have hs1 : s = poly y 178956971 8947849 213044 2959 27 := HS0.out.trans HF.out
      have HS1 := Lib.hid hs1
      clear hs hs1 HS0
      go_wp2_with (first | (go_at_call 58; refine (ratio_any _ _ _ _ HI.out (by unfold I64; omega) (by unfold I64; omega)).mono ?_; rintro e w1 ⟨rfl, hb⟩; replace hT := hT.below hb hT.lt; replace hB := More.trans hB hb; clear hb) | (go_at_call 193; refine (mulc_any _ _ _ (by first | exact HXI.out | exact HYI.out | exact ratioV_I _ _ _ | exact mulV_I _ _ | exact wrap_I _ | (unfold I64; omega)) (by first | exact HXI.out | exact HYI.out | exact ratioV_I _ _ _ | exact mulV_I _ _ | exact wrap_I _ | (unfold I64; omega))).mono ?_; rintro e w1 ⟨rfl, hb⟩; replace hT := hT.below hb hT.lt; replace hB := More.trans hB hb; clear hb))
      go_ret
      refine ⟨ret1I ?_, hB⟩
      rw [HS1.out, HY.out, ← HX.out]; rfl
  · have hd : decide (536870912 < r) = true := decide_eq_true (by omega)
    have HI := Lib.hid (show I64 (1073741824 - r) by unfold I64; omega)
    unfold waveV
    rw [if_neg hr]
    clear hr
    go_enter Try.func176, Try.ntmps176
    go_upto_region 2 with (refine wpList_store_row rfl _ _ _ rfl _ rfl _ rfl _ _ (blk.new _ _ _) (by kernel_rfl) (by kernel_rfl) rfl ?_)
    try rw [World.setRow_alloc_new]
    go_upto_region 5 with (refine wpList_store_row rfl _ _ _ rfl _ rfl _ rfl _ _ (blk.new _ _ _) (by kernel_rfl) (by kernel_rfl) rfl ?_)
    try rw [World.setRow_alloc_new]
    obtain ⟨v, hv⟩ : ∃ v, v = w.alloc (.cells #[.int .i64 536870912, .int .i64 44739243, .int .i64 1491308, .int .i64 26631, .int .i64 296] 234) := ⟨_, rfl⟩
    have hT : blk v w.heap.size #[.int .i64 536870912, .int .i64 44739243, .int .i64 1491308, .int .i64 26631, .int .i64 296] 234 := by rw [hv]; exact blk.new _ _ _
    have hB : More w v := by rw [hv]; exact Below.alloc (Below.refl _ _) (Nat.le_refl _) _
    rw [← hv]
    clear hv
    go_wp2_with (first | (go_at_call 58; refine (ratio_any _ _ _ _ HI.out (by unfold I64; omega) (by unfold I64; omega)).mono ?_; rintro e w1 ⟨rfl, hb⟩; replace hT := hT.below hb hT.lt; replace hB := More.trans hB hb; clear hb) | (go_at_call 193; refine (mulc_any _ _ _ (by first | exact HXI.out | exact HYI.out | exact ratioV_I _ _ _ | exact mulV_I _ _ | exact wrap_I _ | (unfold I64; omega)) (by first | exact HXI.out | exact HYI.out | exact ratioV_I _ _ _ | exact mulV_I _ _ | exact wrap_I _ | (unfold I64; omega))).mono ?_; rintro e w1 ⟨rfl, hb⟩; replace hT := hT.below hb hT.lt; replace hB := More.trans hB hb; clear hb))
    obtain ⟨x, hx⟩ : ∃ x, x = arcV (1073741824 - r) := ⟨_, rfl⟩
    obtain ⟨y, hy⟩ : ∃ y, y = mulV x x := ⟨_, rfl⟩
    have HX := Lib.hid (show ratioV (1073741824 - r) 6746518852 4294967296 = x from hx.symm)
    have HXI := Lib.hid (show I64 x by rw [hx]; exact ratioV_I _ _ _)
    have HY := Lib.hid hy
    have HYI := Lib.hid (show I64 y by rw [hy]; exact mulV_I _ _)
    rw [HX.out, ← hy]
    clear hx hy
    go_loopg [9, 28] 5 (fun g sv iv wr => ∃ k : Nat, sv = .int .i64 (psum y (tab 536870912 44739243 1491308 26631 296) k) ∧ iv = .int .i64 k ∧ g + k = 5 ∧ blk wr w.heap.size #[.int .i64 536870912, .int .i64 44739243, .int .i64 1491308, .int .i64 26631, .int .i64 296] 234 ∧ More w wr)
    case atStart => exact ⟨0, by rw [psum_zero], rfl, rfl, hT, hB⟩
    case round =>
      clear hT hB
      obtain ⟨k, rfl, rfl, hk, hT, hB⟩ := hrel
      have hs := psum_succ y (tab 536870912 44739243 1491308 26631 296) k
      have HF := Lib.hid (psum_five y 536870912 44739243 1491308 26631 296 (by unfold I64; omega))
      have HPI := Lib.hid (psum_I y (tab 536870912 44739243 1491308 26631 296) k)
      obtain ⟨s, hs0⟩ : ∃ s, s = psum y (tab 536870912 44739243 1491308 26631 296) k := ⟨_, rfl⟩
      rw [← hs0] at hs HPI ⊢
      have HS0 := Lib.hid hs0
      clear hs0
      rcases Nat.eq_or_lt_of_le (show 0 ≤ k by omega) with hk0 | hk0
      · obtain rfl : k = 0 := hk0.symm
        have hc : wr.cell? ⟨w.heap.size, 4, none⟩ = some (.int .i64 296) := hT.cellIs rfl
        have HS := Lib.hid hs
        clear hs HS0
        go_wp2_with (first | (go_at_call 58; refine (ratio_any _ _ _ _ HI.out (by unfold I64; omega) (by unfold I64; omega)).mono ?_; rintro e w1 ⟨rfl, hb⟩; replace hT := hT.below hb hT.lt; replace hB := More.trans hB hb; clear hb) | (go_at_call 193; refine (mulc_any _ _ _ (by first | exact HXI.out | exact HYI.out | exact ratioV_I _ _ _ | exact mulV_I _ _ | exact wrap_I _ | (unfold I64; omega)) (by first | exact HXI.out | exact HYI.out | exact ratioV_I _ _ _ | exact mulV_I _ _ | exact wrap_I _ | (unfold I64; omega))).mono ?_; rintro e w1 ⟨rfl, hb⟩; replace hT := hT.below hb hT.lt; replace hB := More.trans hB hb; clear hb))
        go_roundg 4
        case rel => exact ⟨1, by rw [HS.out]; rfl, rfl, rfl, hT, hB⟩
        case measure => omega
      rcases Nat.eq_or_lt_of_le (show 1 ≤ k by omega) with hk1 | hk1
      · obtain rfl : k = 1 := hk1.symm
        have hc : wr.cell? ⟨w.heap.size, 3, none⟩ = some (.int .i64 26631) := hT.cellIs rfl
        have HS := Lib.hid hs
        clear hs HS0
        go_wp2_with (first | (go_at_call 58; refine (ratio_any _ _ _ _ HI.out (by unfold I64; omega) (by unfold I64; omega)).mono ?_; rintro e w1 ⟨rfl, hb⟩; replace hT := hT.below hb hT.lt; replace hB := More.trans hB hb; clear hb) | (go_at_call 193; refine (mulc_any _ _ _ (by first | exact HXI.out | exact HYI.out | exact ratioV_I _ _ _ | exact mulV_I _ _ | exact wrap_I _ | (unfold I64; omega)) (by first | exact HXI.out | exact HYI.out | exact ratioV_I _ _ _ | exact mulV_I _ _ | exact wrap_I _ | (unfold I64; omega))).mono ?_; rintro e w1 ⟨rfl, hb⟩; replace hT := hT.below hb hT.lt; replace hB := More.trans hB hb; clear hb))
        go_roundg 3
        case rel => exact ⟨2, by rw [HS.out]; rfl, rfl, rfl, hT, hB⟩
        case measure => omega
      rcases Nat.eq_or_lt_of_le (show 2 ≤ k by omega) with hk2 | hk2
      · obtain rfl : k = 2 := hk2.symm
        have hc : wr.cell? ⟨w.heap.size, 2, none⟩ = some (.int .i64 1491308) := hT.cellIs rfl
        have HS := Lib.hid hs
        clear hs HS0
        go_wp2_with (first | (go_at_call 58; refine (ratio_any _ _ _ _ HI.out (by unfold I64; omega) (by unfold I64; omega)).mono ?_; rintro e w1 ⟨rfl, hb⟩; replace hT := hT.below hb hT.lt; replace hB := More.trans hB hb; clear hb) | (go_at_call 193; refine (mulc_any _ _ _ (by first | exact HXI.out | exact HYI.out | exact ratioV_I _ _ _ | exact mulV_I _ _ | exact wrap_I _ | (unfold I64; omega)) (by first | exact HXI.out | exact HYI.out | exact ratioV_I _ _ _ | exact mulV_I _ _ | exact wrap_I _ | (unfold I64; omega))).mono ?_; rintro e w1 ⟨rfl, hb⟩; replace hT := hT.below hb hT.lt; replace hB := More.trans hB hb; clear hb))
        go_roundg 2
        case rel => exact ⟨3, by rw [HS.out]; rfl, rfl, rfl, hT, hB⟩
        case measure => omega
      rcases Nat.eq_or_lt_of_le (show 3 ≤ k by omega) with hk3 | hk3
      · obtain rfl : k = 3 := hk3.symm
        have hc : wr.cell? ⟨w.heap.size, 1, none⟩ = some (.int .i64 44739243) := hT.cellIs rfl
        have HS := Lib.hid hs
        clear hs HS0
        go_wp2_with (first | (go_at_call 58; refine (ratio_any _ _ _ _ HI.out (by unfold I64; omega) (by unfold I64; omega)).mono ?_; rintro e w1 ⟨rfl, hb⟩; replace hT := hT.below hb hT.lt; replace hB := More.trans hB hb; clear hb) | (go_at_call 193; refine (mulc_any _ _ _ (by first | exact HXI.out | exact HYI.out | exact ratioV_I _ _ _ | exact mulV_I _ _ | exact wrap_I _ | (unfold I64; omega)) (by first | exact HXI.out | exact HYI.out | exact ratioV_I _ _ _ | exact mulV_I _ _ | exact wrap_I _ | (unfold I64; omega))).mono ?_; rintro e w1 ⟨rfl, hb⟩; replace hT := hT.below hb hT.lt; replace hB := More.trans hB hb; clear hb))
        go_roundg 1
        case rel => exact ⟨4, by rw [HS.out]; rfl, rfl, rfl, hT, hB⟩
        case measure => omega
      rcases Nat.eq_or_lt_of_le (show 4 ≤ k by omega) with hk4 | hk4
      · obtain rfl : k = 4 := hk4.symm
        have hc : wr.cell? ⟨w.heap.size, 0, none⟩ = some (.int .i64 536870912) := hT.cellIs rfl
        have HS := Lib.hid hs
        clear hs HS0
        go_wp2_with (first | (go_at_call 58; refine (ratio_any _ _ _ _ HI.out (by unfold I64; omega) (by unfold I64; omega)).mono ?_; rintro e w1 ⟨rfl, hb⟩; replace hT := hT.below hb hT.lt; replace hB := More.trans hB hb; clear hb) | (go_at_call 193; refine (mulc_any _ _ _ (by first | exact HXI.out | exact HYI.out | exact ratioV_I _ _ _ | exact mulV_I _ _ | exact wrap_I _ | (unfold I64; omega)) (by first | exact HXI.out | exact HYI.out | exact ratioV_I _ _ _ | exact mulV_I _ _ | exact wrap_I _ | (unfold I64; omega))).mono ?_; rintro e w1 ⟨rfl, hb⟩; replace hT := hT.below hb hT.lt; replace hB := More.trans hB hb; clear hb))
        go_roundg 0
        case rel => exact ⟨5, by rw [HS.out]; rfl, rfl, rfl, hT, hB⟩
        case measure => omega
      obtain rfl : k = 5 := by omega
      have hs1 : s = poly y 536870912 44739243 1491308 26631 296 := HS0.out.trans HF.out
      have HS1 := Lib.hid hs1
      clear hs hs1 HS0
      go_wp2_with (first | (go_at_call 58; refine (ratio_any _ _ _ _ HI.out (by unfold I64; omega) (by unfold I64; omega)).mono ?_; rintro e w1 ⟨rfl, hb⟩; replace hT := hT.below hb hT.lt; replace hB := More.trans hB hb; clear hb) | (go_at_call 193; refine (mulc_any _ _ _ (by first | exact HXI.out | exact HYI.out | exact ratioV_I _ _ _ | exact mulV_I _ _ | exact wrap_I _ | (unfold I64; omega)) (by first | exact HXI.out | exact HYI.out | exact ratioV_I _ _ _ | exact mulV_I _ _ | exact wrap_I _ | (unfold I64; omega))).mono ?_; rintro e w1 ⟨rfl, hb⟩; replace hT := hT.below hb hT.lt; replace hB := More.trans hB hb; clear hb))
      go_ret
      refine ⟨ret1I ?_, hB⟩
      rw [HS1.out, HY.out, ← HX.out]; rfl
end Go.Proofs.Ytkmelddejdikgaa
