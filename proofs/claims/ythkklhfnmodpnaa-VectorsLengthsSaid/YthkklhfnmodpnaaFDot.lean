/-
  Sums of products of package fixed: Dot.
-/
import Derived.Test.YthkklhfnmodpnaaWideB
import Derived.Test.YthkklhfnmodpnaaRDot
set_option linter.unusedSimpArgs false
set_option linter.unusedVariables false
namespace Go.Proofs.Ythkklhfnmodpnaa
open Go.RowKit PM Dt
theorem Oth.into {g B : Nat} {a w w' : World} (h : Oth g w w') (hg : B ≤ g) (hB : Below B a w) (hs : B ≤ w.heap.size) : Below B a w' :=
  hB.trans ⟨h.1.os, h.1.tape, h.1.output, h.2.1, fun k hk => h.2.2 k (by omega) (by omega)⟩
theorem step_lo {k M : Nat} {S z : Int} (h1 : -(((k * M : Nat)) : Int) ≤ S) (h2 : -(M : Int) ≤ z) : -((((k + 1) * M : Nat)) : Int) ≤ S + z := by
  rw [Nat.succ_mul, Int.natCast_add]; generalize ((k * M : Nat) : Int) = q at *; omega
theorem step_hi {k M : Nat} {S z : Int} (h1 : S ≤ (((k * M : Nat)) : Int)) (h2 : z ≤ (M : Int)) : S + z ≤ ((((k + 1) * M : Nat)) : Int) := by
  rw [Nat.succ_mul, Int.natCast_add]; generalize ((k * M : Nat) : Int) = q at *; omega
theorem or_words (a0 a1 : Nat) (h0 : a0 < 18446744073709551616) (h1 : a1 < 18446744073709551616) :
    bits .or .u64 ((a0 : Int) / 1073741824) (IntKind.u64.wrap ((a1 : Int) * 17179869184)) = ((a0 / 1073741824 + a1 % 1073741824 * 17179869184 : Nat) : Int) := by
  have e1 : (a0 : Int) / 1073741824 = ((a0 / 1073741824 : Nat) : Int) := by omega
  have e2 : IntKind.u64.wrap ((a1 : Int) * 17179869184) = ((a1 % 1073741824 * 17179869184 : Nat) : Int) := by rw [IntKind.wrap_u64]; omega
  rw [e1, e2, bits_or_u64_nat _ _ (by omega) (by omega), Nat.or_comm]
  have e3 := Nat.two_pow_add_eq_or_of_lt (i := 34) (b := a0 / 1073741824) (by omega) (a1 % 1073741824)
  rw [show a1 % 1073741824 * 17179869184 = 2 ^ 34 * (a1 % 1073741824) by omega, ← e3, Nat.add_comm]
theorem or_wrap (a0 a1 : Nat) (h0 : a0 < 18446744073709551616) (h1 : a1 < 18446744073709551616) :
    wrap64 (bits .or .u64 ((a0 : Int) / 1073741824) (IntKind.u64.wrap ((a1 : Int) * 17179869184))) = ((a0 : Int) / 1073741824 + (a1 : Int) % 1073741824 * 17179869184 + 9223372036854775808) % 18446744073709551616 - 9223372036854775808 := by
  rw [or_words a0 a1 h0 h1]
  unfold wrap64; omega
theorem dot_words {T : Int} {a0 a1 a2 : Nat} (h0 : (a0 : Int) = T % 18446744073709551616) (h1 : (a1 : Int) = T / 18446744073709551616 % 18446744073709551616) (h2 : (a2 : Int) = T / 340282366920938463463374607431768211456 % 18446744073709551616)
    (b0 : a0 < 18446744073709551616) (b1 : a1 < 18446744073709551616) (b2 : a2 < 18446744073709551616) (t0 : -1569275433846670190958947355801916604025588861116008628224 ≤ T) (t1 : T < 1569275433846670190958947355801916604025588861116008628224) :
    ∃ N H A : Int, wrap64 (bits .or .u64 ((a0 : Int) / 1073741824) (IntKind.u64.wrap ((a1 : Int) * 17179869184))) = N ∧ wrap64 (bits .or .u64 ((a1 : Int) / 1073741824) (IntKind.u64.wrap ((a2 : Int) * 17179869184))) = H ∧ wrap64 (a2 : Int) = A ∧
      ((inI (T / 1073741824) = true ∧ N = T / 1073741824 ∧ (H != N / 9223372036854775808) = false ∧ (A / 1073741824 != N / 9223372036854775808) = false) ∨
       (inI (T / 1073741824) = false ∧ (H != N / 9223372036854775808) = true) ∨ (inI (T / 1073741824) = false ∧ (H != N / 9223372036854775808) = false ∧ (A / 1073741824 != N / 9223372036854775808) = true)) := by
  refine ⟨_, _, _, rfl, rfl, rfl, ?_⟩
  have key := wide_words (T := T) (w0 := a0) (w1 := a1) (w2 := a2) t0 t1 (nat_bd b0) (nat_bd b1) (nat_bd b2) (by omega) (or_wrap a0 a1 b0 b1) (or_wrap a1 a2 b1 b2) (s := wrap64 (a2 : Int) / 1073741824) (by unfold wrap64; rfl)
  generalize wrap64 (bits .or .u64 ((a0 : Int) / 1073741824) (IntKind.u64.wrap ((a1 : Int) * 17179869184))) = N at *
  generalize wrap64 (bits .or .u64 ((a1 : Int) / 1073741824) (IntKind.u64.wrap ((a2 : Int) * 17179869184))) = H at *
  generalize wrap64 (a2 : Int) = A at *
  generalize N / 9223372036854775808 = s at *
  rcases key with ⟨k1, k2, k3, k4⟩ | ⟨k1, k2⟩
  · exact Or.inl ⟨k1, k2, by simp [k3], by simp [k4]⟩
  · by_cases hs : H = s
    · refine Or.inr (Or.inr ⟨k1, by simp [hs], ?_⟩)
      rcases k2 with k2 | k2
      · exact absurd hs k2
      · simpa using k2
    · exact Or.inr (Or.inl ⟨k1, by simpa using hs⟩)
theorem dot_bounds {k : Nat} {S T : Int} (h8 : k ≤ 8) (l1 : -(((k * 85070591730234615865843651857942052864 : Nat)) : Int) ≤ S) (l2 : S ≤ (((k * 85070591730234615865843651857942052864 : Nat)) : Int)) (hT : T = 536870912 + S) :
    -1569275433846670190958947355801916604025588861116008628224 ≤ T ∧ T < 1569275433846670190958947355801916604025588861116008628224 := by
  have hb : k * 85070591730234615865843651857942052864 ≤ 8 * 85070591730234615865843651857942052864 := Nat.mul_le_mul_right _ h8
  obtain ⟨q, hq⟩ : ∃ q, q = k * 85070591730234615865843651857942052864 := ⟨_, rfl⟩
  rw [← hq] at hb l1 l2
  have hb2 : (q : Int) ≤ 680564733841876926926749214863536422912 := by
    have := Int.ofNat_le.2 hb
    exact Int.le_trans this (by decide)
  clear hb hq h8
  generalize (q : Int) = z at *
  omega
theorem wideC_start : #[Value.int .u64 536870912, .int .u64 0, .int .u64 0] = wideC 536870912 := by unfold wideC; rfl
set_option maxRecDepth 100000 in
set_option maxHeartbeats 4000000 in
theorem dot_good (xs ys : List Int) (va ua : Option Addr) (vc uc n : Nat) (w : World) (hv : Ints w (.slice va n vc) xs) (hu : Ints w (.slice ua n uc) ys) (hn : n = xs.length) (hm : n = ys.length) (h8 : n ≤ 8)
    (hx : ∀ k, k < xs.length → I64 (xs.getD k 0)) (hy : ∀ k, k < ys.length → I64 (ys.getD k 0)) :
    Calls Try.prog 61 #[.slice va n vc, .slice ua n uc] w fun e w' => e = .returned (.tuple #[.int .i64 (fitV (rnd (dotS xs ys))), .int .i64 (fitE (rnd (dotS xs ys)))]) ∧ Below w.heap.size w w' := by
  have hd0 : ((n : Int) != (n : Int)) = false := by simp
  have hd' : decide ((8 : Int) < (n : Int)) = false := decide_eq_false (by omega)
  have HN := Lib.hid hn
  have HM := Lib.hid hm
  have HV := Lib.hid hv
  have HU := Lib.hid hu
  have HX := Lib.hid hx
  have HY := Lib.hid hy
  clear hn hm hv hu hx hy
  go_enter Try.func61, Try.ntmps61
  go_upto_region 4 with (fail)
  have pw := blk.new w #[Value.int .u64 536870912, .int .u64 0, .int .u64 0] 83
  rw [wideC_start] at pw ⊢
  have hB : Below w.heap.size w (w.alloc (.cells (wideC 536870912) 83)) := by go_grown
  generalize w.alloc (.cells (wideC 536870912) 83) = w0 at *
  go_wp2_with (fail)
  go_loopg [26] n (fun g iv wr => ∃ k : Nat, g + k = n ∧ iv = .int .i64 k ∧ blk wr w.heap.size (wideC (536870912 + dotS (xs.take k) (ys.take k))) 83 ∧ Hid (-(((k * 85070591730234615865843651857942052864 : Nat)) : Int) ≤ dotS (xs.take k) (ys.take k)) ∧ Hid (dotS (xs.take k) (ys.take k) ≤ ((k * 85070591730234615865843651857942052864 : Nat) : Int)) ∧ Below w.heap.size w wr)
  case atStart => exact ⟨0, rfl, rfl, by rw [List.take_zero, dotS_nil]; exact pw, by show _ ≤ _; rw [List.take_zero, dotS_nil]; decide, by show _ ≤ _; rw [List.take_zero, dotS_nil]; decide, hB⟩
  case round =>
    clear pw hB
    obtain ⟨k, hk, rfl, pw, hlo, hhi, hB⟩ := hrel
    by_cases hkn : k < n
    · have hdk : decide ((k : Int) < (n : Int)) = true := decide_eq_true (by omega)
      have hdk' : decide (k < n) = true := decide_eq_true (by omega)
      obtain ⟨b, off, rfl, hbw, hcell⟩ := HV.out.at hkn
      obtain ⟨b2, off2, rfl, hbw2, hcell2⟩ := HU.out.at hkn
      have hI := HX.out k (by have := HN.out; omega)
      have hJ := HY.out k (by have := HM.out; omega)
      have hsx := dotS_take_succ xs ys k (by have := HN.out; omega) (by have := HM.out; omega)
      obtain ⟨x, hxx⟩ : ∃ x, x = xs.getD k 0 := ⟨_, rfl⟩
      obtain ⟨y, hyy⟩ : ∃ y, y = ys.getD k 0 := ⟨_, rfl⟩
      rw [← hxx] at hI hsx hcell
      rw [← hyy] at hJ hsx hcell2
      obtain ⟨A, hA⟩ : ∃ A, A = x.natAbs := ⟨_, rfl⟩
      obtain ⟨B, hBB⟩ : ∃ B, B = y.natAbs := ⟨_, rfl⟩
      obtain ⟨S, hS⟩ : ∃ S, S = dotS (xs.take k) (ys.take k) := ⟨_, rfl⟩
      rw [← hS] at hsx pw hlo hhi
      have HPL := Lib.hid (show A * B ≤ 85070591730234615865843651857942052864 by rw [hA, hBB]; exact prod_le hI hJ)
      obtain ⟨p, hp⟩ : ∃ p, p = A * B / 18446744073709551616 := ⟨_, rfl⟩
      obtain ⟨q, hq⟩ : ∃ q, q = A * B % 18446744073709551616 := ⟨_, rfl⟩
      have HP := Lib.hid hp
      have HQ := Lib.hid hq
      have HPQ := Lib.hid (show p * 18446744073709551616 + q = A * B by rw [hp, hq]; exact Nat.div_add_mod' _ _)
      have HQ64 := Lib.hid (show q < 18446744073709551616 by rw [hq]; exact Nat.mod_lt _ (by decide))
      have HP64 := Lib.hid (show p < 18446744073709551616 by
        rw [hp]; exact Nat.lt_of_le_of_lt (Nat.div_le_div_right HPL.out) (by decide))
      have HSX := Lib.hid hsx
      have HA := Lib.hid hA
      have HBB := Lib.hid hBB
      have HA64 := Lib.hid (show A < 18446744073709551616 by rw [hA]; have := hI.1; have := hI.2; omega)
      have HB64 := Lib.hid (show B < 18446744073709551616 by rw [hBB]; have := hJ.1; have := hJ.2; omega)
      have HI := Lib.hid hI
      have HJ := Lib.hid hJ
      have hw3 : IntKind.i64.wrap ((k : Int) + 1) = ((k + 1 : Nat) : Int) := by rw [IntKind.wrap_i64]; omega
      have cellX : Hid (∀ w1, Below w.heap.size w w1 → w1.cell? ⟨b, off + k, none⟩ = some (.int .i64 x)) := by
        intro w1 h1
        rw [h1.cell (p := ⟨b, off + k, none⟩) hbw]; exact hcell
      have cellY : Hid (∀ w1, Below w.heap.size w w1 → w1.cell? ⟨b2, off2 + k, none⟩ = some (.int .i64 y)) := by
        intro w1 h1
        rw [h1.cell (p := ⟨b2, off2 + k, none⟩) hbw2]; exact hcell2
      clear hI hJ hsx hcell hcell2 hxx hyy hA hBB hbw hbw2 hS hp hq
      go_upto_region 7 with (fail)
      refine wp_region_Y 99 16 rfl (by kernel_rfl) ?_
      replace pw := pw.drew
      replace hB : Below w.heap.size w wr.drew := hB.drew
      generalize wr.drew = wo at *
      refine wpY_takeB 0 (.slice (some ⟨b, off, none⟩) n vc) rfl rfl (by kernel_rfl) (fun w1 => by go_simp; exact ⟨rfl, Below.refl _ _⟩) ?_
      simp only [Act.put, List.setIfInBounds_toArray, List.set_cons_zero, List.set_cons_succ]
      refine wpY_takeB 1 (.int .i64 k) rfl rfl (by kernel_rfl) (fun w1 => by go_simp; exact ⟨rfl, Below.refl _ _⟩) ?_
      simp only [Act.put, List.setIfInBounds_toArray, List.set_cons_zero, List.set_cons_succ]
      refine wpY_takeB 2 (.pointer (some ⟨b, off + k, none⟩)) rfl rfl (by kernel_rfl) (fun w1 => by go_simp; exact ⟨rfl, Below.refl _ _⟩) ?_
      simp only [Act.put, List.setIfInBounds_toArray, List.set_cons_zero, List.set_cons_succ]
      refine wpY_takeA 3 (.int .i64 x) rfl rfl (by kernel_rfl) (by kernel_rfl) (fun w1 h1 => by have hc := cellX.out w1 (hB.trans (h1.mono (by have := pw.lt; omega))); go_simp; exact ⟨rfl, Below.refl _ _⟩) ?_
      simp only [Act.put, List.setIfInBounds_toArray, List.set_cons_zero, List.set_cons_succ]
      refine wpY_takeA 4 (.int .u64 (A : Nat)) rfl rfl (by kernel_rfl) (by kernel_rfl) (fun w1 h1 => ?_) ?_
      · go_simp
        refine (size_any x _ HI.out).mono ?_
        rintro e w2 ⟨rfl, rfl⟩
        exact ⟨by rw [← HA.out], Below.refl _ _⟩
      simp only [Act.put, List.setIfInBounds_toArray, List.set_cons_zero, List.set_cons_succ]
      refine wpY_takeB 5 (.slice (some ⟨b2, off2, none⟩) n uc) rfl rfl (by kernel_rfl) (fun w1 => by go_simp; exact ⟨rfl, Below.refl _ _⟩) ?_
      simp only [Act.put, List.setIfInBounds_toArray, List.set_cons_zero, List.set_cons_succ]
      refine wpY_takeB 6 (.int .i64 k) rfl rfl (by kernel_rfl) (fun w1 => by go_simp; exact ⟨rfl, Below.refl _ _⟩) ?_
      simp only [Act.put, List.setIfInBounds_toArray, List.set_cons_zero, List.set_cons_succ]
      refine wpY_takeB 7 (.pointer (some ⟨b2, off2 + k, none⟩)) rfl rfl (by kernel_rfl) (fun w1 => by go_simp; exact ⟨rfl, Below.refl _ _⟩) ?_
      simp only [Act.put, List.setIfInBounds_toArray, List.set_cons_zero, List.set_cons_succ]
      refine wpY_takeA 8 (.int .i64 y) rfl rfl (by kernel_rfl) (by kernel_rfl) (fun w1 h1 => by have hc := cellY.out w1 (hB.trans (h1.mono (by have := pw.lt; omega))); go_simp; exact ⟨rfl, Below.refl _ _⟩) ?_
      simp only [Act.put, List.setIfInBounds_toArray, List.set_cons_zero, List.set_cons_succ]
      refine wpY_takeA 9 (.int .u64 (B : Nat)) rfl rfl (by kernel_rfl) (by kernel_rfl) (fun w1 h1 => ?_) ?_
      · go_simp
        refine (size_any y _ HJ.out).mono ?_
        rintro e w2 ⟨rfl, rfl⟩
        exact ⟨by rw [← HBB.out], Below.refl _ _⟩
      simp only [Act.put, List.setIfInBounds_toArray, List.set_cons_zero, List.set_cons_succ]
      refine wpY_takeA 10 (.tuple #[.int .u64 (p : Nat), .int .u64 (q : Nat)]) rfl rfl (by kernel_rfl) (by kernel_rfl) (fun w1 h1 => ?_) ?_
      · go_simp
        refine (mul64_any A B _ HA64.out HB64.out).mono ?_
        rintro e w2 ⟨rfl, rfl⟩
        exact ⟨by rw [← HP.out, ← HQ.out], Below.refl _ _⟩
      simp only [Act.put, List.setIfInBounds_toArray, List.set_cons_zero, List.set_cons_succ]
      refine wpY_takeB 11 (.tuple #[.int .u64 (p : Nat), .int .u64 (q : Nat)]) rfl rfl (by kernel_rfl) (fun w1 => by go_simp; exact ⟨rfl, Below.refl _ _⟩) ?_
      simp only [Act.put, List.setIfInBounds_toArray, List.set_cons_zero, List.set_cons_succ]
      refine wpY_takeB 12 (.int .u64 (p : Nat)) rfl rfl (by kernel_rfl) (fun w1 => by go_simp; exact ⟨rfl, Below.refl _ _⟩) ?_
      simp only [Act.put, List.setIfInBounds_toArray, List.set_cons_zero, List.set_cons_succ]
      refine wpY_takeB 13 (.int .u64 (q : Nat)) rfl rfl (by kernel_rfl) (fun w1 => by go_simp; exact ⟨rfl, Below.refl _ _⟩) ?_
      simp only [Act.put, List.setIfInBounds_toArray, List.set_cons_zero, List.set_cons_succ]
      refine wpY_takeB 14 (.int .u64 (p : Nat)) rfl rfl (by kernel_rfl) (fun w1 => by go_simp; exact ⟨rfl, Below.refl _ _⟩) ?_
      simp only [Act.put, List.setIfInBounds_toArray, List.set_cons_zero, List.set_cons_succ]
      refine wpY_takeB 15 (.int .u64 (q : Nat)) rfl rfl (by kernel_rfl) (fun w1 => by go_simp; exact ⟨rfl, Below.refl _ _⟩) ?_
      simp only [Act.put, List.setIfInBounds_toArray, List.set_cons_zero, List.set_cons_succ]
      refine wpY_end (by kernel_rfl) (fun w3 h3 => ?_)
      replace hB := hB.trans (h3.mono (by have := pw.lt; omega))
      replace pw := pw.below h3 pw.lt
      clear h3
      go_upto_region 8 with (fail)
      refine wp_region_X 13 (by kernel_rfl) (by kernel_rfl) ?_
      replace pw := pw.drew
      replace hB : Below w.heap.size w w3.drew := hB.drew
      generalize w3.drew = wo at *
      refine wpX_take 0 (.slice (some ⟨b, off, none⟩) n vc) rfl rfl (by kernel_rfl) (fun w1 h1 => by go_simp; exact ⟨rfl, Below.refl _ _⟩) ?_
      simp only [Act.put, List.setIfInBounds_toArray, List.set_cons_zero, List.set_cons_succ]
      refine wpX_take 1 (.int .i64 k) rfl rfl (by kernel_rfl) (fun w1 h1 => by go_simp; exact ⟨rfl, Below.refl _ _⟩) ?_
      simp only [Act.put, List.setIfInBounds_toArray, List.set_cons_zero, List.set_cons_succ]
      refine wpX_take 2 (.pointer (some ⟨b, off + k, none⟩)) rfl rfl (by kernel_rfl) (fun w1 h1 => by go_simp; exact ⟨rfl, Below.refl _ _⟩) ?_
      simp only [Act.put, List.setIfInBounds_toArray, List.set_cons_zero, List.set_cons_succ]
      refine wpX_take 3 (.int .i64 x) rfl rfl (by kernel_rfl) (fun w1 h1 => by have hc := cellX.out w1 (hB.trans (h1.mono (by have := pw.lt; omega))); go_simp; exact ⟨rfl, Below.refl _ _⟩) ?_
      simp only [Act.put, List.setIfInBounds_toArray, List.set_cons_zero, List.set_cons_succ]
      refine wpX_take 4 (.bool (decide (x < 0))) rfl rfl (by kernel_rfl) (fun w1 h1 => by go_simp; exact ⟨rfl, Below.refl _ _⟩) ?_
      simp only [Act.put, List.setIfInBounds_toArray, List.set_cons_zero, List.set_cons_succ]
      refine wpX_take 5 (.slice (some ⟨b2, off2, none⟩) n uc) rfl rfl (by kernel_rfl) (fun w1 h1 => by go_simp; exact ⟨rfl, Below.refl _ _⟩) ?_
      simp only [Act.put, List.setIfInBounds_toArray, List.set_cons_zero, List.set_cons_succ]
      refine wpX_take 6 (.int .i64 k) rfl rfl (by kernel_rfl) (fun w1 h1 => by go_simp; exact ⟨rfl, Below.refl _ _⟩) ?_
      simp only [Act.put, List.setIfInBounds_toArray, List.set_cons_zero, List.set_cons_succ]
      refine wpX_take 7 (.pointer (some ⟨b2, off2 + k, none⟩)) rfl rfl (by kernel_rfl) (fun w1 h1 => by go_simp; exact ⟨rfl, Below.refl _ _⟩) ?_
      simp only [Act.put, List.setIfInBounds_toArray, List.set_cons_zero, List.set_cons_succ]
      refine wpX_take 8 (.int .i64 y) rfl rfl (by kernel_rfl) (fun w1 h1 => by have hc := cellY.out w1 (hB.trans (h1.mono (by have := pw.lt; omega))); go_simp; exact ⟨rfl, Below.refl _ _⟩) ?_
      simp only [Act.put, List.setIfInBounds_toArray, List.set_cons_zero, List.set_cons_succ]
      refine wpX_take 9 (.bool (decide (y < 0))) rfl rfl (by kernel_rfl) (fun w1 h1 => by go_simp; exact ⟨rfl, Below.refl _ _⟩) ?_
      simp only [Act.put, List.setIfInBounds_toArray, List.set_cons_zero, List.set_cons_succ]
      refine wpX_take 10 (.bool (decide (x < 0) != decide (y < 0))) rfl rfl (by kernel_rfl) (fun w1 h1 => by go_simp; exact ⟨rfl, Below.refl _ _⟩) ?_
      simp only [Act.put, List.setIfInBounds_toArray, List.set_cons_zero, List.set_cons_succ]
      refine wpX_take 11 (.int .u64 (p : Nat)) rfl rfl (by kernel_rfl) (fun w1 h1 => by go_simp; exact ⟨rfl, Below.refl _ _⟩) ?_
      simp only [Act.put, List.setIfInBounds_toArray, List.set_cons_zero, List.set_cons_succ]
      refine wpX_take 12 (.int .u64 (q : Nat)) rfl rfl (by kernel_rfl) (fun w1 h1 => by go_simp; exact ⟨rfl, Below.refl _ _⟩) ?_
      simp only [Act.put, List.setIfInBounds_toArray, List.set_cons_zero, List.set_cons_succ]
      refine wpX_tail (by kernel_rfl) (fun wt ht => ?_)
      simp only [List.drop_succ_cons, List.drop_zero]
      replace hB := hB.trans (ht.mono (by have := pw.lt; omega))
      replace pw := pw.below ht pw.lt
      clear ht cellX cellY
      have HSG := Lib.hid (show x * y = sgn (decide (x < 0) != decide (y < 0)) (p * 18446744073709551616 + q) by
        rw [HPQ.out, HA.out, HBB.out]
        cases hs : (decide (x < 0) == decide (y < 0)) with
        | true => rw [sign_same hs]; rw [show (decide (x < 0) != decide (y < 0)) = false by rw [bne, hs]; rfl]; rfl
        | false => rw [sign_other hs]; rw [show (decide (x < 0) != decide (y < 0)) = true by rw [bne, hs]; rfl]; rfl)
      have HBD := Lib.hid (show -((85070591730234615865843651857942052864 : Nat) : Int) ≤ x * y ∧ x * y ≤ ((85070591730234615865843651857942052864 : Nat) : Int) by
        have h1 := HPL.out
        have h2 : (x * y).natAbs = A * B := by rw [Int.natAbs_mul, HA.out, HBB.out]
        rw [← h2] at h1
        generalize x * y = z at *
        omega)
      generalize (decide (x < 0) != decide (y < 0)) = neg at *
      go_wp2_with (go_at_call 106; refine (wide_any w.heap.size p q neg _ _ HP64.out HQ64.out pw).mono ?_; rintro e w4 ⟨rfl, hO, pw4⟩)
      replace hB := Oth.into hO (Nat.le_refl _) hB hB.size
      go_roundg (n - (k + 1))
      case rel =>
        refine ⟨k + 1, by omega, rfl, ?_, ?_, ?_, hB⟩
        · rw [HSX.out, HSG.out, ← Int.add_assoc]; exact pw4
        · show _ ≤ _
          rw [HSX.out]; exact step_lo hlo.out HBD.out.1
        · show _ ≤ _
          rw [HSX.out]; exact step_hi hhi.out HBD.out.2
      case measure => omega
    · obtain rfl : k = n := by omega
      have hdk : decide ((k : Int) < (k : Int)) = false := decide_eq_false (by omega)
      have hS : dotS (xs.take k) (ys.take k) = dotS xs ys := by
        rw [show xs.take k = xs by rw [HN.out, List.take_length], show ys.take k = ys by rw [HM.out, List.take_length]]
      rw [hS] at pw hlo hhi
      obtain ⟨T, hT⟩ : ∃ T, T = 536870912 + dotS xs ys := ⟨_, rfl⟩
      rw [← hT] at pw
      obtain ⟨a0, h0, b0⟩ := word_of T
      obtain ⟨a1, h1, b1⟩ := word_of (T / 18446744073709551616)
      obtain ⟨a2, h2, b2⟩ := word_of (T / 340282366920938463463374607431768211456)
      rw [wideC_nat h0 h1 h2] at pw
      have c0 : wr.cell? ⟨w.heap.size, 0, none⟩ = some (.int .u64 (a0 : Nat)) := pw.cellIs rfl
      have c1 : wr.cell? ⟨w.heap.size, 1, none⟩ = some (.int .u64 (a1 : Nat)) := pw.cellIs rfl
      have c2 : wr.cell? ⟨w.heap.size, 2, none⟩ = some (.int .u64 (a2 : Nat)) := pw.cellIs rfl
      obtain ⟨t0, t1⟩ := dot_bounds h8 hlo.out hhi.out hT
      obtain ⟨N, H, A, f1, f2, f3, key⟩ := dot_words h0 h1 h2 b0 b1 b2 t0 t1
      have HR : Hid (rnd (dotS xs ys) = T / 1073741824) := by show _ = _; unfold rnd; rw [hT, Int.add_comm]
      clear h0 h1 h2 b0 b1 b2 hT pw t0 t1 hlo hhi hS
      rcases key with ⟨k1, k2, d1, d2⟩ | ⟨k1, d1⟩ | ⟨k1, d1, d2⟩
      · have K1 := Lib.hid k1
        have K2 := Lib.hid k2
        clear k1 k2
        go_wp2_with (fail)
        go_ret2
        exact ⟨ret2I (by rw [HR.out, fitV_yes K1.out]; first | done | exact K2.out | (rw [f1]; exact K2.out)) (by rw [HR.out, fitE_yes K1.out]), hB⟩
      · have K1 := Lib.hid k1
        clear k1
        go_wp2_with (fail)
        go_ret2
        exact ⟨ret2I (by rw [HR.out, fitV_no K1.out]) (by rw [HR.out, fitE_no K1.out]), hB⟩
      · have K1 := Lib.hid k1
        clear k1
        go_wp2_with (fail)
        go_ret2
        exact ⟨ret2I (by rw [HR.out, fitV_no K1.out]) (by rw [HR.out, fitE_no K1.out]), hB⟩
set_option maxRecDepth 100000 in
set_option maxHeartbeats 1000000 in
theorem dot_any (xs ys : List Int) (v u : Value) (w : World) (hv : Ints w v xs) (hu : Ints w u ys) (hx : ∀ k, k < xs.length → I64 (xs.getD k 0)) (hy : ∀ k, k < ys.length → I64 (ys.getD k 0)) :
    Calls Try.prog 61 #[v, u] w fun e w' => e = .returned (.tuple #[.int .i64 (dotV xs ys), .int .i64 (dotE xs ys)]) ∧ Below w.heap.size w w' := by
  obtain ⟨va, vc, rfl⟩ := hv.slice
  obtain ⟨ua, uc, rfl⟩ := hu.slice
  unfold dotV dotE
  by_cases hbad : xs.length ≠ ys.length ∨ 8 < xs.length
  · rw [if_pos hbad, if_pos hbad]
    generalize xs.length = n at *
    generalize ys.length = m at *
    clear hv hu hx hy
    by_cases hnm : n = m
    · subst hnm
      have h8 : 8 < n := by omega
      have hd0 : ((n : Int) != (n : Int)) = false := by simp
      have hd' : decide ((8 : Int) < (n : Int)) = true := decide_eq_true (by omega)
      clear hbad h8
      go_enter Try.func61, Try.ntmps61
      go_wp2_with (fail)
      go_ret2
      exact ⟨rfl, Below.refl _ _⟩
    · have hd0 : ((n : Int) != (m : Int)) = true := by simp; omega
      clear hbad hnm
      go_enter Try.func61, Try.ntmps61
      go_wp2_with (fail)
      go_ret2
      exact ⟨rfl, Below.refl _ _⟩
  · rw [if_neg hbad, if_neg hbad]
    have e : ys.length = xs.length := by omega
    rw [e] at hu ⊢
    exact dot_good xs ys va ua vc uc xs.length w hv hu rfl e.symm (by omega) hx hy
end Go.Proofs.Ythkklhfnmodpnaa
