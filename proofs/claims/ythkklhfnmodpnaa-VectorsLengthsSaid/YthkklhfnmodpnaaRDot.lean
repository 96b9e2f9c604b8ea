/-
  Sums of products by the specification's own numbers (package perigeeref01): Dot.
-/
import Derived.Test.YthkklhfnmodpnaaHyp
import Derived.Test.YthkklhfnmodpnaaNear2
import Derived.Test.YthkklhfnmodpnaaDotM
import Derived.Test.YthkklhfnmodpnaaRefR
set_option linter.unusedSimpArgs false
set_option linter.unusedVariables false
namespace Go.Proofs.Ythkklhfnmodpnaa
open Go.RowKit PM Dt
/-- What Dot returns: the nearest integer of the sum divided by 2^30. -/
def dotV (xs ys : List Int) : Int := if xs.length ≠ ys.length ∨ 8 < xs.length then 0 else fitV (rnd (dotS xs ys))
def dotE (xs ys : List Int) : Int := if xs.length ≠ ys.length ∨ 8 < xs.length then 2 else fitE (rnd (dotS xs ys))
theorem sign_same {x y : Int} (h : (decide (x < 0) == decide (y < 0)) = true) : x * y = ((x.natAbs * y.natAbs : Nat) : Int) := by
  rw [Int.natCast_mul]
  by_cases hx : x < 0 <;> by_cases hy : y < 0 <;> simp [hx, hy] at h
  · rw [show (x.natAbs : Int) = -x by omega, show (y.natAbs : Int) = -y by omega, Int.neg_mul_neg]
  · rw [show (x.natAbs : Int) = x by omega, show (y.natAbs : Int) = y by omega]
theorem sign_other {x y : Int} (h : (decide (x < 0) == decide (y < 0)) = false) : x * y = -((x.natAbs * y.natAbs : Nat) : Int) := by
  rw [Int.natCast_mul]
  by_cases hx : x < 0 <;> by_cases hy : y < 0 <;> simp [hx, hy] at h
  · rw [show (x.natAbs : Int) = -x by omega, show (y.natAbs : Int) = y by omega, Int.neg_mul, Int.neg_neg]
  · rw [show (x.natAbs : Int) = x by omega, show (y.natAbs : Int) = -y by omega, Int.mul_neg, Int.neg_neg]
theorem Ints.slice {w : World} {v : Value} {xs : List Int} (h : Ints w v xs) : ∃ a c, v = .slice a xs.length c := by
  rcases h with ⟨rfl, a, c, h⟩ | ⟨_, b, off, cap, h, _⟩
  · exact ⟨a, c, h⟩
  · exact ⟨_, _, h⟩
theorem Ints.at {w : World} {a : Option Addr} {n c : Nat} {xs : List Int} (h : Ints w (.slice a n c) xs) {k : Nat} (hk : k < n) :
    ∃ b off, a = some ⟨b, off, none⟩ ∧ b < w.heap.size ∧ w.cell? ⟨b, off + k, none⟩ = some (.int .i64 (xs.getD k 0)) := by
  rcases h with ⟨_, a', c', hh⟩ | ⟨_, b, off, cap, hh, hbw, hc⟩
  · cases hh; omega
  · cases hh; exact ⟨b, off, rfl, hbw, hc k hk⟩
theorem prod_le {x y : Int} (hx : I64 x) (hy : I64 y) : x.natAbs * y.natAbs ≤ 85070591730234615865843651857942052864 := by
  have h1 : x.natAbs ≤ 9223372036854775808 := by obtain ⟨_, _⟩ := hx; omega
  have h2 : y.natAbs ≤ 9223372036854775808 := by obtain ⟨_, _⟩ := hy; omega
  exact Nat.le_trans (Nat.mul_le_mul h1 h2) (by decide)
set_option maxRecDepth 100000 in
set_option maxHeartbeats 4000000 in
theorem rdot_good (xs ys : List Int) (va ua : Option Addr) (vc uc n : Nat) (w : World) (hv : Ints w (.slice va n vc) xs) (hu : Ints w (.slice ua n uc) ys) (hn : n = xs.length) (hm : n = ys.length) (h8 : n ≤ 8)
    (hx : ∀ k, k < xs.length → I64 (xs.getD k 0)) (hy : ∀ k, k < ys.length → I64 (ys.getD k 0)) :
    Calls Try.prog 107 #[.slice va n vc, .slice ua n uc] w fun e w' => e = .returned (.tuple #[.int .i64 (fitV (rnd (dotS xs ys))), .int .i64 (fitE (rnd (dotS xs ys)))]) ∧ Below w.heap.size w w' := by
  have hd0 : ((n : Int) != (n : Int)) = false := by simp
  have hd' : decide ((8 : Int) < (n : Int)) = false := decide_eq_false (by omega)
  have HN := Lib.hid hn
  have HM := Lib.hid hm
  have HV := Lib.hid hv
  have HU := Lib.hid hu
  have HX := Lib.hid hx
  have HY := Lib.hid hy
  clear hn hm hv hu hx hy
  go_enter Try.func107, Try.ntmps107
  go_wp2_with (fail)
  rw [zero_eq_big]
  go_loopg [8] n (fun g iv wr => ∃ k U D : Nat, g + k = n ∧ iv = .int .i64 k ∧ Hid ((U : Int) - (D : Int) = dotS (xs.take k) (ys.take k)) ∧ Hid (U ≤ k * 85070591730234615865843651857942052864) ∧ Hid (D ≤ k * 85070591730234615865843651857942052864) ∧
    blk wr w.heap.size (bigC U) 76 ∧ blk wr (w.heap.size + 1) (bigC D) 76 ∧ Below w.heap.size w wr)
  case atStart => exact ⟨0, 0, 0, rfl, rfl, by show _ = _; rw [List.take_zero, dotS_nil]; rfl, Nat.zero_le _, Nat.zero_le _, (blk.new _ _ _).alloc _, blk.new' (by simp), by go_grown⟩
  case round =>
    obtain ⟨k, U, D, hk, rfl, hUD, hU, hD, pu, pd, hB⟩ := hrel
    by_cases hkn : k < n
    · have hdk : decide ((k : Int) < (n : Int)) = true := decide_eq_true (by omega)
      have hdk' : decide (k < n) = true := decide_eq_true (by omega)
      obtain ⟨b, off, rfl, hbw, hcell⟩ := HV.out.at hkn
      obtain ⟨b2, off2, rfl, hbw2, hcell2⟩ := HU.out.at hkn
      have hI := HX.out k (by have := HN.out; omega)
      have hJ := HY.out k (by have := HM.out; omega)
      have hsx := dotS_take_succ xs ys k (by have := HN.out; omega) (by have := HM.out; omega)
      obtain ⟨x, hxx⟩ : ∃ x, x = xs.getD k 0 := ⟨_, rfl⟩
      obtain ⟨y, hyy⟩ : ∃ y, y = ys.getD k 0 := ⟨_, rfl⟩
      rw [← hxx] at hI hsx hcell
      rw [← hyy] at hJ hsx hcell2
      obtain ⟨A, hA⟩ : ∃ A, A = x.natAbs := ⟨_, rfl⟩
      obtain ⟨B, hBB⟩ : ∃ B, B = y.natAbs := ⟨_, rfl⟩
      have HP := Lib.hid (show A * B ≤ 85070591730234615865843651857942052864 by rw [hA, hBB]; exact prod_le hI hJ)
      have HSX := Lib.hid hsx
      have HA := Lib.hid hA
      have HBB := Lib.hid hBB
      have HA8 := Lib.hid (show A < 65536 ^ 8 by rw [hA]; have := hI.1; have := hI.2; omega)
      have HB8 := Lib.hid (show B < 65536 ^ 8 by rw [hBB]; have := hJ.1; have := hJ.2; omega)
      have HI1 := Lib.hid hI.1
      have HI2 := Lib.hid hI.2
      have HJ1 := Lib.hid hJ.1
      have HJ2 := Lib.hid hJ.2
      have hw3 : IntKind.i64.wrap ((k : Int) + 1) = ((k + 1 : Nat) : Int) := by rw [IntKind.wrap_i64]; omega
      have cellX : Hid (∀ w1, Below w.heap.size w w1 → w1.cell? ⟨b, off + k, none⟩ = some (.int .i64 x)) := by
        intro w1 h1
        rw [h1.cell (p := ⟨b, off + k, none⟩) hbw]; exact hcell
      have cellY : Hid (∀ w1, Below w.heap.size w w1 → w1.cell? ⟨b2, off2 + k, none⟩ = some (.int .i64 y)) := by
        intro w1 h1
        rw [h1.cell (p := ⟨b2, off2 + k, none⟩) hbw2]; exact hcell2
      clear hI hJ hsx hcell hcell2 hxx hyy hA hBB hbw hbw2
      go_upto_region 7 with (fail)
      refine wp_region_X 12 (by kernel_rfl) (by kernel_rfl) ?_
      replace pu := pu.drew
      replace pd := pd.drew
      replace hB : Below w.heap.size w wr.drew := hB.drew
      generalize wr.drew = wo at *
      refine wpX_take 0 (.slice (some ⟨b, off, none⟩) n vc) rfl rfl (by kernel_rfl) (fun w1 h1 => by go_simp; exact ⟨rfl, Below.refl _ _⟩) ?_
      simp only [Act.put, List.setIfInBounds_toArray, List.set_cons_zero, List.set_cons_succ]
      refine wpX_take 1 (.int .i64 k) rfl rfl (by kernel_rfl) (fun w1 h1 => by go_simp; exact ⟨rfl, Below.refl _ _⟩) ?_
      simp only [Act.put, List.setIfInBounds_toArray, List.set_cons_zero, List.set_cons_succ]
      refine wpX_take 2 (.pointer (some ⟨b, off + k, none⟩)) rfl rfl (by kernel_rfl) (fun w1 h1 => by go_simp; exact ⟨rfl, Below.refl _ _⟩) ?_
      simp only [Act.put, List.setIfInBounds_toArray, List.set_cons_zero, List.set_cons_succ]
      refine wpX_take 3 (.int .i64 x) rfl rfl (by kernel_rfl) (fun w1 h1 => by have hc := cellX.out w1 (hB.trans (h1.mono (by have := pu.lt; omega))); go_simp; exact ⟨rfl, Below.refl _ _⟩) ?_
      simp only [Act.put, List.setIfInBounds_toArray, List.set_cons_zero, List.set_cons_succ]
      refine wpX_take 4 (.agg (bigC A)) rfl rfl (by kernel_rfl) (fun w1 h1 => ?_) ?_
      · go_simp
        refine (abs_any x _ HI1.out HI2.out).mono ?_
        rintro e w2 ⟨rfl, h2⟩
        exact ⟨by rw [← HA.out], h2⟩
      simp only [Act.put, List.setIfInBounds_toArray, List.set_cons_zero, List.set_cons_succ]
      refine wpX_take 5 (.slice (some ⟨b2, off2, none⟩) n uc) rfl rfl (by kernel_rfl) (fun w1 h1 => by go_simp; exact ⟨rfl, Below.refl _ _⟩) ?_
      simp only [Act.put, List.setIfInBounds_toArray, List.set_cons_zero, List.set_cons_succ]
      refine wpX_take 6 (.int .i64 k) rfl rfl (by kernel_rfl) (fun w1 h1 => by go_simp; exact ⟨rfl, Below.refl _ _⟩) ?_
      simp only [Act.put, List.setIfInBounds_toArray, List.set_cons_zero, List.set_cons_succ]
      refine wpX_take 7 (.pointer (some ⟨b2, off2 + k, none⟩)) rfl rfl (by kernel_rfl) (fun w1 h1 => by go_simp; exact ⟨rfl, Below.refl _ _⟩) ?_
      simp only [Act.put, List.setIfInBounds_toArray, List.set_cons_zero, List.set_cons_succ]
      refine wpX_take 8 (.int .i64 y) rfl rfl (by kernel_rfl) (fun w1 h1 => by have hc := cellY.out w1 (hB.trans (h1.mono (by have := pu.lt; omega))); go_simp; exact ⟨rfl, Below.refl _ _⟩) ?_
      simp only [Act.put, List.setIfInBounds_toArray, List.set_cons_zero, List.set_cons_succ]
      refine wpX_take 9 (.agg (bigC B)) rfl rfl (by kernel_rfl) (fun w1 h1 => ?_) ?_
      · go_simp
        refine (abs_any y _ HJ1.out HJ2.out).mono ?_
        rintro e w2 ⟨rfl, h2⟩
        exact ⟨by rw [← HBB.out], h2⟩
      simp only [Act.put, List.setIfInBounds_toArray, List.set_cons_zero, List.set_cons_succ]
      refine wpX_take 10 (.agg (bigC (A * B))) rfl rfl (by kernel_rfl) (fun w1 h1 => ?_) ?_
      · go_simp
        refine (times_any A B _ HA8.out HB8.out).mono ?_
        rintro e w2 ⟨rfl, h2⟩
        exact ⟨rfl, h2⟩
      simp only [Act.put, List.setIfInBounds_toArray, List.set_cons_zero, List.set_cons_succ]
      refine wpX_one 11 rfl rfl (by omega) (by kernel_rfl) (fun w1 h1 K hK => ?_)
      go_simp
      rw [zero_eq_big]
      refine hK _ _ ((Below.refl _ _).alloc (Nat.le_refl _) _) ?_
      replace hB : Below w.heap.size w (w1.alloc (.cells (bigC 0) 76)) := (hB.trans (h1.mono (by have := pu.lt; omega))).alloc (by have := pu.lt; have := h1.size; omega) _
      have pp := blk.new w1 (bigC 0) 76
      have l0 : w.heap.size + 1 < w1.heap.size := by have := pd.lt; have := h1.size; omega
      replace pu := (pu.below h1 pu.lt).alloc (.cells (bigC 0) 76)
      replace pd := (pd.below h1 pd.lt).alloc (.cells (bigC 0) 76)
      clear hK K h1
      generalize w1.heap.size = b9 at *
      generalize w1.alloc (.cells (bigC 0) 76) = w2 at *
      try simp only [Act.put, List.setIfInBounds_toArray, List.set_cons_zero, List.set_cons_succ]
      refine wpX_tail (by kernel_rfl) (fun wt ht => ?_)
      simp only [List.drop_succ_cons, List.drop_zero]
      replace hB := hB.trans (ht.mono (by have := pu.lt; omega))
      replace pu := pu.below ht pu.lt
      replace pd := pd.below ht pd.lt
      replace pp := pp.below ht pp.lt
      clear ht
      go_upto_region 8 with (refine wpList_store_row rfl _ _ _ rfl _ rfl _ rfl _ _ pp (by rw [bigC_size]; kernel_rfl) (by rw [bigC_size, bigC_size]) (fnC_one _) ?_)
      replace hB := Below.setRow hB (g := b9) (by omega) (bigC (A * B))
      replace pu := pu.rowOther (g := b9) (by omega) (bigC (A * B))
      replace pd := pd.rowOther (g := b9) (by omega) (bigC (A * B))
      replace pp := pp.row (bigC (A * B))
      simp only [Act.put, List.setIfInBounds_toArray, List.set_cons_zero, List.set_cons_succ]
      generalize wt.setRow b9 (bigC (A * B)) = w3 at *
      refine wp_region_X 10 (by kernel_rfl) (by kernel_rfl) ?_
      replace pu := pu.drew
      replace pd := pd.drew
      replace pp := pp.drew
      replace hB : Below w.heap.size w w3.drew := hB.drew
      generalize w3.drew = wo at *
      refine wpX_take 0 (.slice (some ⟨b, off, none⟩) n vc) rfl rfl (by kernel_rfl) (fun w1 h1 => by go_simp; exact ⟨rfl, Below.refl _ _⟩) ?_
      simp only [Act.put, List.setIfInBounds_toArray, List.set_cons_zero, List.set_cons_succ]
      refine wpX_take 1 (.int .i64 k) rfl rfl (by kernel_rfl) (fun w1 h1 => by go_simp; exact ⟨rfl, Below.refl _ _⟩) ?_
      simp only [Act.put, List.setIfInBounds_toArray, List.set_cons_zero, List.set_cons_succ]
      refine wpX_take 2 (.pointer (some ⟨b, off + k, none⟩)) rfl rfl (by kernel_rfl) (fun w1 h1 => by go_simp; exact ⟨rfl, Below.refl _ _⟩) ?_
      simp only [Act.put, List.setIfInBounds_toArray, List.set_cons_zero, List.set_cons_succ]
      refine wpX_take 3 (.int .i64 x) rfl rfl (by kernel_rfl) (fun w1 h1 => by have hc := cellX.out w1 (hB.trans (h1.mono (by have := pu.lt; omega))); go_simp; exact ⟨rfl, Below.refl _ _⟩) ?_
      simp only [Act.put, List.setIfInBounds_toArray, List.set_cons_zero, List.set_cons_succ]
      refine wpX_take 4 (.bool (decide (x < 0))) rfl rfl (by kernel_rfl) (fun w1 h1 => by go_simp; exact ⟨rfl, Below.refl _ _⟩) ?_
      simp only [Act.put, List.setIfInBounds_toArray, List.set_cons_zero, List.set_cons_succ]
      refine wpX_take 5 (.slice (some ⟨b2, off2, none⟩) n uc) rfl rfl (by kernel_rfl) (fun w1 h1 => by go_simp; exact ⟨rfl, Below.refl _ _⟩) ?_
      simp only [Act.put, List.setIfInBounds_toArray, List.set_cons_zero, List.set_cons_succ]
      refine wpX_take 6 (.int .i64 k) rfl rfl (by kernel_rfl) (fun w1 h1 => by go_simp; exact ⟨rfl, Below.refl _ _⟩) ?_
      simp only [Act.put, List.setIfInBounds_toArray, List.set_cons_zero, List.set_cons_succ]
      refine wpX_take 7 (.pointer (some ⟨b2, off2 + k, none⟩)) rfl rfl (by kernel_rfl) (fun w1 h1 => by go_simp; exact ⟨rfl, Below.refl _ _⟩) ?_
      simp only [Act.put, List.setIfInBounds_toArray, List.set_cons_zero, List.set_cons_succ]
      refine wpX_take 8 (.int .i64 y) rfl rfl (by kernel_rfl) (fun w1 h1 => by have hc := cellY.out w1 (hB.trans (h1.mono (by have := pu.lt; omega))); go_simp; exact ⟨rfl, Below.refl _ _⟩) ?_
      simp only [Act.put, List.setIfInBounds_toArray, List.set_cons_zero, List.set_cons_succ]
      refine wpX_take 9 (.bool (decide (y < 0))) rfl rfl (by kernel_rfl) (fun w1 h1 => by go_simp; exact ⟨rfl, Below.refl _ _⟩) ?_
      simp only [Act.put, List.setIfInBounds_toArray, List.set_cons_zero, List.set_cons_succ]
      refine wpX_tail (by kernel_rfl) (fun wt ht => ?_)
      simp only [List.drop_succ_cons, List.drop_zero]
      replace hB := hB.trans (ht.mono (by have := pu.lt; omega))
      replace pu := pu.below ht pu.lt
      replace pd := pd.below ht pd.lt
      replace pp := pp.below ht pp.lt
      clear ht cellX cellY
      by_cases hs : (decide (x < 0) == decide (y < 0)) = true
      · have HS := Lib.hid (sign_same hs)
        go_upto_region 9 with (fail)
        clear hs
        go_wp2_with (first | (refine wpList_load_row rfl _ _ rfl _ rfl _ _ _ _ pu Try.underlying76 rfl (by rw [bigC_size]; kernel_rfl) ?_) | (refine wpList_load_row rfl _ _ rfl _ rfl _ _ _ _ pp Try.underlying76 rfl (by rw [bigC_size]; kernel_rfl) ?_) | (go_at_call 110; refine (add_any U (A * B) _).mono ?_; rintro e w4 ⟨rfl, hb⟩; replace hB := hB.trans (hb.mono hB.size); replace pu := pu.below hb pu.lt; replace pd := pd.below hb pd.lt; clear hb) | (refine wpList_store_row rfl _ _ _ rfl _ rfl _ rfl _ _ pu (by rw [bigC_size]; kernel_rfl) (by rw [bigC_size, bigC_size]) (fnC_one _) ?_))
        go_roundg (n - (k + 1))
        case rel =>
          refine ⟨k + 1, U + A * B, D, by omega, rfl, ?_, ?_, ?_, pu.row _, pd.rowOther (by omega) _, Below.setRow hB (Nat.le_refl _) _⟩
          · show _ = _
            have h1 := hUD.out
            have h2 := HS.out
            rw [← HA.out, ← HBB.out] at h2
            rw [HSX.out, h2, ← h1]; omega
          · show _ ≤ _; exact Nat.le_trans (Nat.add_le_add hU.out HP.out) (Nat.le_of_eq (Nat.succ_mul _ _).symm)
          · show _ ≤ _; exact Nat.le_trans hD.out (Nat.mul_le_mul_right _ (Nat.le_succ k))
        case measure => omega
      · have hs' : (decide (x < 0) == decide (y < 0)) = false := by simpa using hs
        have HS := Lib.hid (sign_other hs')
        clear hs
        go_upto_region 10 with (fail)
        clear hs'
        go_wp2_with (first | (refine wpList_load_row rfl _ _ rfl _ rfl _ _ _ _ pd Try.underlying76 rfl (by rw [bigC_size]; kernel_rfl) ?_) | (refine wpList_load_row rfl _ _ rfl _ rfl _ _ _ _ pp Try.underlying76 rfl (by rw [bigC_size]; kernel_rfl) ?_) | (go_at_call 110; refine (add_any D (A * B) _).mono ?_; rintro e w4 ⟨rfl, hb⟩; replace hB := hB.trans (hb.mono hB.size); replace pu := pu.below hb pu.lt; replace pd := pd.below hb pd.lt; clear hb) | (refine wpList_store_row rfl _ _ _ rfl _ rfl _ rfl _ _ pd (by rw [bigC_size]; kernel_rfl) (by rw [bigC_size, bigC_size]) (fnC_one _) ?_))
        go_roundg (n - (k + 1))
        case rel =>
          refine ⟨k + 1, U, D + A * B, by omega, rfl, ?_, ?_, ?_, pu.rowOther (by omega) _, pd.row _, Below.setRow hB (Nat.le_succ _) _⟩
          · show _ = _
            have h1 := hUD.out
            have h2 := HS.out
            rw [← HA.out, ← HBB.out] at h2
            rw [HSX.out, h2, ← h1]; omega
          · show _ ≤ _; exact Nat.le_trans hU.out (Nat.mul_le_mul_right _ (Nat.le_succ k))
          · show _ ≤ _; exact Nat.le_trans (Nat.add_le_add hD.out HP.out) (Nat.le_of_eq (Nat.succ_mul _ _).symm)
        case measure => omega
    · obtain rfl : k = n := by omega
      have hdk : decide ((k : Int) < (k : Int)) = false := decide_eq_false (by omega)
      have hS : (U : Int) - (D : Int) = dotS xs ys := by
        have h1 := hUD.out
        rwa [show xs.take k = xs by rw [HN.out, List.take_length], show ys.take k = ys by rw [HM.out, List.take_length]] at h1
      have HU2 := Lib.hid (show U ≤ 680564733841876926926749214863536422912 by have := hU.out; have : k * 85070591730234615865843651857942052864 ≤ 8 * 85070591730234615865843651857942052864 := Nat.mul_le_mul_right _ h8; omega)
      have HD2 := Lib.hid (show D ≤ 680564733841876926926749214863536422912 by have := hD.out; have : k * 85070591730234615865843651857942052864 ≤ 8 * 85070591730234615865843651857942052864 := Nat.mul_le_mul_right _ h8; omega)
      have HU17 := Lib.hid (show U < 65536 ^ 17 by have := HU2.out; omega)
      have HD17 := Lib.hid (show D < 65536 ^ 17 by have := HD2.out; omega)
      have e1 : (1073741824 : Int).natAbs = 1073741824 := rfl
      by_cases hlt : U < D
      · have hd : decide (U < D) = true := decide_eq_true hlt
        have HLE := Lib.hid (Nat.le_of_lt hlt)
        have HQ := Lib.hid (show nearest (sgn true (D - U)) ((1073741824 : Nat) : Int) = rnd (dotS xs ys) by
          show nearest (-((D - U : Nat) : Int)) 1073741824 = _
          rw [nearest_one, show -((D - U : Nat) : Int) = (U : Int) - (D : Int) by omega, hS])
        have HB1 := Lib.hid (show D - U < 65536 ^ 15 by have := HD2.out; omega)
        have HB2 := Lib.hid (show D - U < 1073741824 * 170141183460469231731687303715884105728 by have := HD2.out; omega)
        clear hlt hS hU hD hUD
        go_wp2_with (first
          | (refine wpList_load_row rfl _ _ rfl _ rfl _ _ _ _ pu Try.underlying76 rfl (by rw [bigC_size]; kernel_rfl) ?_)
          | (refine wpList_load_row rfl _ _ rfl _ rfl _ _ _ _ pd Try.underlying76 rfl (by rw [bigC_size]; kernel_rfl) ?_)
          | (go_at_call 117; refine (less_any U D _ HU17.out HD17.out).mono ?_; rintro e w1 ⟨rfl, hb⟩; replace hB := hB.trans (hb.mono hB.size); replace pu := pu.below hb pu.lt; replace pd := pd.below hb pd.lt; clear hb)
          | (go_at_call 120; refine (sub_any D U _ HD17.out HLE.out).mono ?_; rintro e w1 ⟨rfl, hb⟩; replace hB := hB.trans (hb.mono hB.size); clear hb)
          | (go_at_call 95; refine (abs_any 1073741824 _ (by omega) (by omega)).mono ?_; rintro e w1 ⟨rfl, hb⟩; rw [e1]; replace hB := hB.trans (hb.mono hB.size); clear hb)
          | (go_at_call 115; refine (nearest_any2 true (D - U) 1073741824 _ HB1.out HB2.out (by omega) (by omega)).mono ?_; rintro e w1 ⟨rfl, hb⟩; rw [HQ.out]; replace hB := hB.trans (hb.mono hB.size); clear hb))
        go_ret2
        exact ⟨rfl, hB⟩
      · have hd : decide (U < D) = false := decide_eq_false hlt
        have HLE := Lib.hid (Nat.le_of_not_lt hlt)
        have HQ := Lib.hid (show nearest (sgn false (U - D)) ((1073741824 : Nat) : Int) = rnd (dotS xs ys) by
          show nearest ((U - D : Nat) : Int) 1073741824 = _
          rw [nearest_one, show ((U - D : Nat) : Int) = (U : Int) - (D : Int) by omega, hS])
        have HB1 := Lib.hid (show U - D < 65536 ^ 15 by have := HU2.out; omega)
        have HB2 := Lib.hid (show U - D < 1073741824 * 170141183460469231731687303715884105728 by have := HU2.out; omega)
        clear hlt hS hU hD hUD
        go_wp2_with (first
          | (refine wpList_load_row rfl _ _ rfl _ rfl _ _ _ _ pu Try.underlying76 rfl (by rw [bigC_size]; kernel_rfl) ?_)
          | (refine wpList_load_row rfl _ _ rfl _ rfl _ _ _ _ pd Try.underlying76 rfl (by rw [bigC_size]; kernel_rfl) ?_)
          | (go_at_call 117; refine (less_any U D _ HU17.out HD17.out).mono ?_; rintro e w1 ⟨rfl, hb⟩; replace hB := hB.trans (hb.mono hB.size); replace pu := pu.below hb pu.lt; replace pd := pd.below hb pd.lt; clear hb)
          | (go_at_call 120; refine (sub_any U D _ HU17.out HLE.out).mono ?_; rintro e w1 ⟨rfl, hb⟩; replace hB := hB.trans (hb.mono hB.size); clear hb)
          | (go_at_call 95; refine (abs_any 1073741824 _ (by omega) (by omega)).mono ?_; rintro e w1 ⟨rfl, hb⟩; rw [e1]; replace hB := hB.trans (hb.mono hB.size); clear hb)
          | (go_at_call 115; refine (nearest_any2 false (U - D) 1073741824 _ HB1.out HB2.out (by omega) (by omega)).mono ?_; rintro e w1 ⟨rfl, hb⟩; rw [HQ.out]; replace hB := hB.trans (hb.mono hB.size); clear hb))
        go_ret2
        exact ⟨rfl, hB⟩
set_option maxRecDepth 100000 in
set_option maxHeartbeats 1000000 in
theorem rdot_any (xs ys : List Int) (v u : Value) (w : World) (hv : Ints w v xs) (hu : Ints w u ys) (hx : ∀ k, k < xs.length → I64 (xs.getD k 0)) (hy : ∀ k, k < ys.length → I64 (ys.getD k 0)) :
    Calls Try.prog 107 #[v, u] w fun e w' => e = .returned (.tuple #[.int .i64 (dotV xs ys), .int .i64 (dotE xs ys)]) ∧ Below w.heap.size w w' := by
  obtain ⟨va, vc, rfl⟩ := hv.slice
  obtain ⟨ua, uc, rfl⟩ := hu.slice
  unfold dotV dotE
  by_cases hbad : xs.length ≠ ys.length ∨ 8 < xs.length
  · rw [if_pos hbad, if_pos hbad]
    generalize xs.length = n at *
    generalize ys.length = m at *
    clear hv hu hx hy
    by_cases hnm : n = m
    · subst hnm
      have h8 : 8 < n := by omega
      have hd0 : ((n : Int) != (n : Int)) = false := by simp
      have hd' : decide ((8 : Int) < (n : Int)) = true := decide_eq_true (by omega)
      clear hbad h8
      go_enter Try.func107, Try.ntmps107
      go_wp2_with (fail)
      go_ret2
      exact ⟨rfl, Below.refl _ _⟩
    · have hd0 : ((n : Int) != (m : Int)) = true := by simp; omega
      clear hbad hnm
      go_enter Try.func107, Try.ntmps107
      go_wp2_with (fail)
      go_ret2
      exact ⟨rfl, Below.refl _ _⟩
  · rw [if_neg hbad, if_neg hbad]
    have e : ys.length = xs.length := by omega
    rw [e] at hu ⊢
    exact rdot_good xs ys va ua vc uc xs.length w hv hu rfl e.symm (by omega) hx hy
end Go.Proofs.Ythkklhfnmodpnaa
