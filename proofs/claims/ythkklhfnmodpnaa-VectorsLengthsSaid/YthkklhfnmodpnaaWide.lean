/-
  The sum of 192 bits in package fixed: (*wide).add adds or subtracts a number of two words.
-/
import Derived.Test.YthkklhfnmodpnaaHyp
import Derived.Test.YthkklhfnmodpnaaDet2
set_option linter.unusedSimpArgs false
set_option linter.unusedVariables false
namespace Go.Proofs.Ythkklhfnmodpnaa
open Go.RowKit PM Dt
def subE : Array Value → Sem Value := (Extern.MathBitsCarry.rows.getD 1 ("", fun _ => default)).2
theorem subE_run {P : Program} (x y k : Nat) (hk : k ≤ 1) (w : World) :
    (subE #[.int .u64 (x : Int), .int .u64 (y : Int), .int .u64 (k : Int)]).run P w = .ok (.tuple #[.int .u64 (((x + 18446744073709551616 - y - k) % 18446744073709551616 : Nat) : Int), .int .u64 (((if x < y + k then 1 else 0 : Nat)) : Int)]) w := by
  have : k = 0 ∨ k = 1 := by omega
  rcases this with rfl | rfl <;> rfl
theorem sub64_run (x y b r c : Nat) (hx : x < 18446744073709551616) (hy : y < 18446744073709551616) (hb : b ≤ 1) (h : x + c * 18446744073709551616 = r + y + b) (hr : r < 18446744073709551616) (w : World) :
    (callFunc 121 #[.int .u64 x, .int .u64 y, .int .u64 b]).run Try.prog w = .ok (.value (.tuple #[.int .u64 (r : Int), .int .u64 (c : Int)])) w := by
  rw [run_callFunc_extern Try.func121 (by kernel_rfl) (by kernel_rfl) (by kernel_rfl) (e := subE) (by kernel_rfl), subE_run x y b hb]
  have h1 : (x + 18446744073709551616 - y - b) % 18446744073709551616 = r := by omega
  have h2 : (if x < y + b then 1 else 0 : Nat) = c := by split <;> omega
  rw [h1, h2]; rfl
theorem add64c_run (x y b r c : Nat) (hx : x < 18446744073709551616) (hy : y < 18446744073709551616) (hb : b ≤ 1) (h : x + y + b = c * 18446744073709551616 + r) (hr : r < 18446744073709551616) (w : World) :
    (callFunc 108 #[.int .u64 x, .int .u64 y, .int .u64 b]).run Try.prog w = .ok (.value (.tuple #[.int .u64 (r : Int), .int .u64 (c : Int)])) w := by
  rw [run_callFunc_extern Try.func108 (by kernel_rfl) (by kernel_rfl) (by kernel_rfl) (e := add64Entry) (by kernel_rfl), run_add64 x y b (by omega) (by omega) (by omega) (by omega)]
  have h1 : ((x : Int) + (y : Int) + (b : Int)) % 18446744073709551616 = (r : Int) := by omega
  have h2 : ((x : Int) + (y : Int) + (b : Int)) / 18446744073709551616 = (c : Int) := by omega
  rw [h1, h2]; rfl
/-- The three words of a number in two's complement. -/
def wideC (T : Int) : Array Value := #[.int .u64 (T % 18446744073709551616), .int .u64 (T / 18446744073709551616 % 18446744073709551616), .int .u64 (T / 340282366920938463463374607431768211456 % 18446744073709551616)]
/-- Block g alone may have changed; memory may have been made. -/
def Oth (g : Nat) (w w' : World) : Prop := Below 0 w w' ∧ w.heap.size ≤ w'.heap.size ∧ ∀ k, k < w.heap.size → k ≠ g → w'.heap[k]? = w.heap[k]?
theorem Oth.of_more {g : Nat} {w w' : World} (h : More w w') : Oth g w w' := ⟨Below.mono h (Nat.zero_le _), h.size, fun k hk _ => h.block k hk⟩
theorem Oth.trans {g : Nat} {a b c : World} (h : Oth g a b) (k : Oth g b c) : Oth g a c :=
  ⟨h.1.trans k.1, Nat.le_trans h.2.1 k.2.1, fun i hi hne => (k.2.2 i (Nat.lt_of_lt_of_le hi h.2.1) hne).trans (h.2.2 i hi hne)⟩
theorem Oth.set {g i : Nat} {w : World} (v : Value) : Oth g w (w.setCell ⟨g, i, none⟩ v) :=
  ⟨(Below.refl 0 w).setCell (Nat.zero_le _) v, by simp, fun k hk hne => heap_setCell_other _ _ _ _ (by simpa using hne)⟩
theorem Oth.blk {g : Nat} {w w' : World} (h : Oth g w w') {b : Nat} {c : Array Value} {t : TypeId} (hb : blk w b c t) (hne : b ≠ g) : blk w' b c t := by
  have hl := hb.lt
  unfold Go.Proofs.Ythkklhfnmodpnaa.blk at *
  rw [h.2.2 b hl hne]; exact hb
/-- The words of the sum. -/
theorem wide_plus {T hi lo a0 a1 a2 r0 c0 r1 c1 r2 c2 : Int} (h0 : a0 = T % 18446744073709551616) (h1 : a1 = T / 18446744073709551616 % 18446744073709551616) (h2 : a2 = T / 340282366920938463463374607431768211456 % 18446744073709551616)
    (e0 : a0 + lo = c0 * 18446744073709551616 + r0) (e1 : a1 + hi + c0 = c1 * 18446744073709551616 + r1) (e2 : a2 + c1 = c2 * 18446744073709551616 + r2)
    (b0 : 0 ≤ r0 ∧ r0 < 18446744073709551616) (b1 : 0 ≤ r1 ∧ r1 < 18446744073709551616) (b2 : 0 ≤ r2 ∧ r2 < 18446744073709551616) :
    r0 = (T + (hi * 18446744073709551616 + lo)) % 18446744073709551616 ∧ r1 = (T + (hi * 18446744073709551616 + lo)) / 18446744073709551616 % 18446744073709551616 ∧ r2 = (T + (hi * 18446744073709551616 + lo)) / 340282366920938463463374607431768211456 % 18446744073709551616 := by
  refine ⟨?_, ?_, ?_⟩ <;> omega
theorem wide_minus {T hi lo a0 a1 a2 r0 c0 r1 c1 r2 c2 : Int} (h0 : a0 = T % 18446744073709551616) (h1 : a1 = T / 18446744073709551616 % 18446744073709551616) (h2 : a2 = T / 340282366920938463463374607431768211456 % 18446744073709551616)
    (e0 : a0 + c0 * 18446744073709551616 = r0 + lo) (e1 : a1 + c1 * 18446744073709551616 = r1 + hi + c0) (e2 : a2 + c2 * 18446744073709551616 = r2 + c1)
    (b0 : 0 ≤ r0 ∧ r0 < 18446744073709551616) (b1 : 0 ≤ r1 ∧ r1 < 18446744073709551616) (b2 : 0 ≤ r2 ∧ r2 < 18446744073709551616) :
    r0 = (T - (hi * 18446744073709551616 + lo)) % 18446744073709551616 ∧ r1 = (T - (hi * 18446744073709551616 + lo)) / 18446744073709551616 % 18446744073709551616 ∧ r2 = (T - (hi * 18446744073709551616 + lo)) / 340282366920938463463374607431768211456 % 18446744073709551616 := by
  refine ⟨?_, ?_, ?_⟩ <;> omega
set_option maxRecDepth 100000 in
set_option maxHeartbeats 2000000 in
theorem wideAdd_step (g hi lo a0 a1 a2 r0 c0 r1 c1 r2 c2 : Nat) (w : World)
    (R0 : Hid (∀ w1, (callFunc 108 #[.int .u64 a0, .int .u64 lo, .int .u64 0]).run Try.prog w1 = .ok (.value (.tuple #[.int .u64 (r0 : Int), .int .u64 (c0 : Int)])) w1))
    (R1 : Hid (∀ w1, (callFunc 108 #[.int .u64 a1, .int .u64 hi, .int .u64 c0]).run Try.prog w1 = .ok (.value (.tuple #[.int .u64 (r1 : Int), .int .u64 (c1 : Int)])) w1))
    (R2 : Hid (∀ w1, (callFunc 108 #[.int .u64 a2, .int .u64 0, .int .u64 c1]).run Try.prog w1 = .ok (.value (.tuple #[.int .u64 (r2 : Int), .int .u64 (c2 : Int)])) w1))
    (hb0 : blk w g #[.int .u64 (a0 : Nat), .int .u64 (a1 : Nat), .int .u64 (a2 : Nat)] 83) :
    Calls Try.prog 106 #[.pointer (some ⟨g, 0, none⟩), .bool false, .int .u64 hi, .int .u64 lo] w fun e w' => e = .returned (.tuple #[]) ∧ Oth g w w' ∧ blk w' g #[.int .u64 (r0 : Nat), .int .u64 (r1 : Nat), .int .u64 (r2 : Nat)] 83 := by
  go_enter Try.func106, Try.ntmps106
  go_upto_region 4 with (fail)
  have hO : Oth g w w := Oth.of_more (Below.refl _ _)
  obtain ⟨wo, hwo⟩ : ∃ wo, wo = w := ⟨_, rfl⟩
  rw [← hwo] at hb0
  have hO : Oth g w wo := by rw [hwo]; exact hO
  first | rw [← hwo] | skip
  clear hwo
  refine wp_region_Y 13 15 rfl (by kernel_rfl) ?_
  replace hb0 := hb0.drew
  replace hO : Oth g w _ := hO.trans (Oth.of_more (Below.drew (Below.refl _ wo)))
  generalize wo.drew = wd at *
  clear wo
  refine wpY_takeB 0 (.pointer (some ⟨g, 0, none⟩)) rfl rfl (by kernel_rfl) (fun w1 => by go_simp; exact ⟨rfl, Below.refl _ _⟩) ?_
  simp only [Act.put, List.setIfInBounds_toArray, List.set_cons_zero, List.set_cons_succ]
  refine wpY_takeB 1 (.func (.func 108) #[] #[]) rfl rfl (by kernel_rfl) (fun w1 => by go_simp; exact ⟨rfl, Below.refl _ _⟩) ?_
  simp only [Act.put, List.setIfInBounds_toArray, List.set_cons_zero, List.set_cons_succ]
  refine wpY_takeB 2 (.pointer (some ⟨g, 0, none⟩)) rfl rfl (by kernel_rfl) (fun w1 => by go_simp; exact ⟨rfl, Below.refl _ _⟩) ?_
  simp only [Act.put, List.setIfInBounds_toArray, List.set_cons_zero, List.set_cons_succ]
  refine wpY_takeB 3 (.pointer (some ⟨g, 0, none⟩)) rfl rfl (by kernel_rfl) (fun w1 => by go_simp; exact ⟨rfl, Below.refl _ _⟩) ?_
  simp only [Act.put, List.setIfInBounds_toArray, List.set_cons_zero, List.set_cons_succ]
  refine wpY_takeB 4 (.pointer (some ⟨g, 0, none⟩)) rfl rfl (by kernel_rfl) (fun w1 => by go_simp; exact ⟨rfl, Below.refl _ _⟩) ?_
  simp only [Act.put, List.setIfInBounds_toArray, List.set_cons_zero, List.set_cons_succ]
  refine wpY_takeA 5 (.int .u64 (a0 : Nat)) rfl rfl (by kernel_rfl) (by kernel_rfl) (fun w1 h1 => by have hc : w1.cell? ⟨g, 0, none⟩ = some (.int .u64 (a0 : Nat)) := (hb0.below h1 hb0.lt).cellIs rfl; go_simp; exact ⟨rfl, Below.refl _ _⟩) ?_
  simp only [Act.put, List.setIfInBounds_toArray, List.set_cons_zero, List.set_cons_succ]
  refine wpY_takeB 6 (.int .u64 (lo : Nat)) rfl rfl (by kernel_rfl) (fun w1 => by go_simp; exact ⟨rfl, Below.refl _ _⟩) ?_
  simp only [Act.put, List.setIfInBounds_toArray, List.set_cons_zero, List.set_cons_succ]
  refine wpY_takeA 7 (.tuple #[.int .u64 (r0 : Nat), .int .u64 (c0 : Nat)]) rfl rfl (by kernel_rfl) (by kernel_rfl) (fun w1 h1 => by go_simp; rw [R0.out]; exact ⟨rfl, Below.refl _ _⟩) ?_
  simp only [Act.put, List.setIfInBounds_toArray, List.set_cons_zero, List.set_cons_succ]
  refine wpY_takeB 8 (.tuple #[.int .u64 (r0 : Nat), .int .u64 (c0 : Nat)]) rfl rfl (by kernel_rfl) (fun w1 => by go_simp; exact ⟨rfl, Below.refl _ _⟩) ?_
  simp only [Act.put, List.setIfInBounds_toArray, List.set_cons_zero, List.set_cons_succ]
  refine wpY_takeB 9 (.int .u64 (r0 : Nat)) rfl rfl (by kernel_rfl) (fun w1 => by go_simp; exact ⟨rfl, Below.refl _ _⟩) ?_
  simp only [Act.put, List.setIfInBounds_toArray, List.set_cons_zero, List.set_cons_succ]
  refine wpY_takeB 10 (.int .u64 (c0 : Nat)) rfl rfl (by kernel_rfl) (fun w1 => by go_simp; exact ⟨rfl, Below.refl _ _⟩) ?_
  simp only [Act.put, List.setIfInBounds_toArray, List.set_cons_zero, List.set_cons_succ]
  refine wpY_takeB 11 (.pointer (some ⟨g, 0, none⟩)) rfl rfl (by kernel_rfl) (fun w1 => by go_simp; exact ⟨rfl, Below.refl _ _⟩) ?_
  simp only [Act.put, List.setIfInBounds_toArray, List.set_cons_zero, List.set_cons_succ]
  refine wpY_takeB 12 (.pointer (some ⟨g, 0, none⟩)) rfl rfl (by kernel_rfl) (fun w1 => by go_simp; exact ⟨rfl, Below.refl _ _⟩) ?_
  simp only [Act.put, List.setIfInBounds_toArray, List.set_cons_zero, List.set_cons_succ]
  refine wpY_one rfl rfl (by kernel_rfl) (fun w1 h1 => ?_)
  replace hO := hO.trans (Oth.of_more h1)
  replace hb0 := hb0.below h1 hb0.lt
  clear h1
  have fz : w1.frozen? ⟨g, 0, none⟩ = false := hb0.free _
  have cz : w1.cell? ⟨g, 0, none⟩ = some (.int .u64 (a0 : Nat)) := hb0.cellIs rfl
  go_simp
  clear fz cz
  replace hO := hO.trans (Oth.set (i := 0) (.int .u64 (r0 : Nat)))
  replace hb0 := hb0.set' (i := 0) (v := .int .u64 (r0 : Nat)) (c' := #[.int .u64 (r0 : Nat), .int .u64 (a1 : Nat), .int .u64 (a2 : Nat)]) rfl
  generalize w1.setCell ⟨g, 0, none⟩ (.int .u64 (r0 : Nat)) = w2 at *
  clear wd
  refine wpY_takeB 14 (.int .u64 (c0 : Nat)) rfl rfl (by kernel_rfl) (fun w1 => by go_simp; exact ⟨rfl, Below.refl _ _⟩) ?_
  simp only [Act.put, List.setIfInBounds_toArray, List.set_cons_zero, List.set_cons_succ]
  refine wpY_end (by kernel_rfl) (fun w1 h1 => ?_)
  replace hO := hO.trans (Oth.of_more h1)
  replace hb0 := hb0.below h1 hb0.lt
  clear h1
  go_upto_region 5 with (fail)
  clear w2
  obtain ⟨wo, hwo⟩ : ∃ wo, wo = w1 := ⟨_, rfl⟩
  rw [← hwo] at hb0 hO ⊢
  clear hwo
  refine wp_region_Y 14 16 rfl (by kernel_rfl) ?_
  replace hb0 := hb0.drew
  replace hO : Oth g w _ := hO.trans (Oth.of_more (Below.drew (Below.refl _ wo)))
  generalize wo.drew = wd at *
  clear wo
  refine wpY_takeB 0 (.pointer (some ⟨g, 0, none⟩)) rfl rfl (by kernel_rfl) (fun w1 => by go_simp; exact ⟨rfl, Below.refl _ _⟩) ?_
  simp only [Act.put, List.setIfInBounds_toArray, List.set_cons_zero, List.set_cons_succ]
  refine wpY_takeB 1 (.func (.func 108) #[] #[]) rfl rfl (by kernel_rfl) (fun w1 => by go_simp; exact ⟨rfl, Below.refl _ _⟩) ?_
  simp only [Act.put, List.setIfInBounds_toArray, List.set_cons_zero, List.set_cons_succ]
  refine wpY_takeB 2 (.pointer (some ⟨g, 0, none⟩)) rfl rfl (by kernel_rfl) (fun w1 => by go_simp; exact ⟨rfl, Below.refl _ _⟩) ?_
  simp only [Act.put, List.setIfInBounds_toArray, List.set_cons_zero, List.set_cons_succ]
  refine wpY_takeB 3 (.pointer (some ⟨g, 0, none⟩)) rfl rfl (by kernel_rfl) (fun w1 => by go_simp; exact ⟨rfl, Below.refl _ _⟩) ?_
  simp only [Act.put, List.setIfInBounds_toArray, List.set_cons_zero, List.set_cons_succ]
  refine wpY_takeB 4 (.pointer (some ⟨g, 1, none⟩)) rfl rfl (by kernel_rfl) (fun w1 => by go_simp; exact ⟨rfl, Below.refl _ _⟩) ?_
  simp only [Act.put, List.setIfInBounds_toArray, List.set_cons_zero, List.set_cons_succ]
  refine wpY_takeA 5 (.int .u64 (a1 : Nat)) rfl rfl (by kernel_rfl) (by kernel_rfl) (fun w1 h1 => by have hc : w1.cell? ⟨g, 1, none⟩ = some (.int .u64 (a1 : Nat)) := (hb0.below h1 hb0.lt).cellIs rfl; go_simp; exact ⟨rfl, Below.refl _ _⟩) ?_
  simp only [Act.put, List.setIfInBounds_toArray, List.set_cons_zero, List.set_cons_succ]
  refine wpY_takeB 6 (.int .u64 (hi : Nat)) rfl rfl (by kernel_rfl) (fun w1 => by go_simp; exact ⟨rfl, Below.refl _ _⟩) ?_
  simp only [Act.put, List.setIfInBounds_toArray, List.set_cons_zero, List.set_cons_succ]
  refine wpY_takeB 7 (.int .u64 (c0 : Nat)) rfl rfl (by kernel_rfl) (fun w1 => by go_simp; exact ⟨rfl, Below.refl _ _⟩) ?_
  simp only [Act.put, List.setIfInBounds_toArray, List.set_cons_zero, List.set_cons_succ]
  refine wpY_takeA 8 (.tuple #[.int .u64 (r1 : Nat), .int .u64 (c1 : Nat)]) rfl rfl (by kernel_rfl) (by kernel_rfl) (fun w1 h1 => by go_simp; rw [R1.out]; exact ⟨rfl, Below.refl _ _⟩) ?_
  simp only [Act.put, List.setIfInBounds_toArray, List.set_cons_zero, List.set_cons_succ]
  refine wpY_takeB 9 (.tuple #[.int .u64 (r1 : Nat), .int .u64 (c1 : Nat)]) rfl rfl (by kernel_rfl) (fun w1 => by go_simp; exact ⟨rfl, Below.refl _ _⟩) ?_
  simp only [Act.put, List.setIfInBounds_toArray, List.set_cons_zero, List.set_cons_succ]
  refine wpY_takeB 10 (.int .u64 (r1 : Nat)) rfl rfl (by kernel_rfl) (fun w1 => by go_simp; exact ⟨rfl, Below.refl _ _⟩) ?_
  simp only [Act.put, List.setIfInBounds_toArray, List.set_cons_zero, List.set_cons_succ]
  refine wpY_takeB 11 (.int .u64 (c1 : Nat)) rfl rfl (by kernel_rfl) (fun w1 => by go_simp; exact ⟨rfl, Below.refl _ _⟩) ?_
  simp only [Act.put, List.setIfInBounds_toArray, List.set_cons_zero, List.set_cons_succ]
  refine wpY_takeB 12 (.pointer (some ⟨g, 0, none⟩)) rfl rfl (by kernel_rfl) (fun w1 => by go_simp; exact ⟨rfl, Below.refl _ _⟩) ?_
  simp only [Act.put, List.setIfInBounds_toArray, List.set_cons_zero, List.set_cons_succ]
  refine wpY_takeB 13 (.pointer (some ⟨g, 1, none⟩)) rfl rfl (by kernel_rfl) (fun w1 => by go_simp; exact ⟨rfl, Below.refl _ _⟩) ?_
  simp only [Act.put, List.setIfInBounds_toArray, List.set_cons_zero, List.set_cons_succ]
  refine wpY_one rfl rfl (by kernel_rfl) (fun w1 h1 => ?_)
  replace hO := hO.trans (Oth.of_more h1)
  replace hb0 := hb0.below h1 hb0.lt
  clear h1
  have fz : w1.frozen? ⟨g, 1, none⟩ = false := hb0.free _
  have cz : w1.cell? ⟨g, 1, none⟩ = some (.int .u64 (a1 : Nat)) := hb0.cellIs rfl
  go_simp
  clear fz cz
  replace hO := hO.trans (Oth.set (i := 1) (.int .u64 (r1 : Nat)))
  replace hb0 := hb0.set' (i := 1) (v := .int .u64 (r1 : Nat)) (c' := #[.int .u64 (r0 : Nat), .int .u64 (r1 : Nat), .int .u64 (a2 : Nat)]) rfl
  generalize w1.setCell ⟨g, 1, none⟩ (.int .u64 (r1 : Nat)) = w2 at *
  clear wd
  refine wpY_takeB 15 (.int .u64 (c1 : Nat)) rfl rfl (by kernel_rfl) (fun w1 => by go_simp; exact ⟨rfl, Below.refl _ _⟩) ?_
  simp only [Act.put, List.setIfInBounds_toArray, List.set_cons_zero, List.set_cons_succ]
  refine wpY_end (by kernel_rfl) (fun w1 h1 => ?_)
  replace hO := hO.trans (Oth.of_more h1)
  replace hb0 := hb0.below h1 hb0.lt
  clear h1
  go_upto_region 6 with (fail)
  clear w2
  obtain ⟨wo, hwo⟩ : ∃ wo, wo = w1 := ⟨_, rfl⟩
  rw [← hwo] at hb0 hO ⊢
  clear hwo
  refine wp_region_Y 13 14 rfl (by kernel_rfl) ?_
  replace hb0 := hb0.drew
  replace hO : Oth g w _ := hO.trans (Oth.of_more (Below.drew (Below.refl _ wo)))
  generalize wo.drew = wd at *
  clear wo
  refine wpY_takeB 0 (.pointer (some ⟨g, 0, none⟩)) rfl rfl (by kernel_rfl) (fun w1 => by go_simp; exact ⟨rfl, Below.refl _ _⟩) ?_
  simp only [Act.put, List.setIfInBounds_toArray, List.set_cons_zero, List.set_cons_succ]
  refine wpY_takeB 1 (.func (.func 108) #[] #[]) rfl rfl (by kernel_rfl) (fun w1 => by go_simp; exact ⟨rfl, Below.refl _ _⟩) ?_
  simp only [Act.put, List.setIfInBounds_toArray, List.set_cons_zero, List.set_cons_succ]
  refine wpY_takeB 2 (.pointer (some ⟨g, 0, none⟩)) rfl rfl (by kernel_rfl) (fun w1 => by go_simp; exact ⟨rfl, Below.refl _ _⟩) ?_
  simp only [Act.put, List.setIfInBounds_toArray, List.set_cons_zero, List.set_cons_succ]
  refine wpY_takeB 3 (.pointer (some ⟨g, 0, none⟩)) rfl rfl (by kernel_rfl) (fun w1 => by go_simp; exact ⟨rfl, Below.refl _ _⟩) ?_
  simp only [Act.put, List.setIfInBounds_toArray, List.set_cons_zero, List.set_cons_succ]
  refine wpY_takeB 4 (.pointer (some ⟨g, 2, none⟩)) rfl rfl (by kernel_rfl) (fun w1 => by go_simp; exact ⟨rfl, Below.refl _ _⟩) ?_
  simp only [Act.put, List.setIfInBounds_toArray, List.set_cons_zero, List.set_cons_succ]
  refine wpY_takeA 5 (.int .u64 (a2 : Nat)) rfl rfl (by kernel_rfl) (by kernel_rfl) (fun w1 h1 => by have hc : w1.cell? ⟨g, 2, none⟩ = some (.int .u64 (a2 : Nat)) := (hb0.below h1 hb0.lt).cellIs rfl; go_simp; exact ⟨rfl, Below.refl _ _⟩) ?_
  simp only [Act.put, List.setIfInBounds_toArray, List.set_cons_zero, List.set_cons_succ]
  refine wpY_takeB 6 (.int .u64 (c1 : Nat)) rfl rfl (by kernel_rfl) (fun w1 => by go_simp; exact ⟨rfl, Below.refl _ _⟩) ?_
  simp only [Act.put, List.setIfInBounds_toArray, List.set_cons_zero, List.set_cons_succ]
  refine wpY_takeA 7 (.tuple #[.int .u64 (r2 : Nat), .int .u64 (c2 : Nat)]) rfl rfl (by kernel_rfl) (by kernel_rfl) (fun w1 h1 => by go_simp; rw [R2.out]; exact ⟨rfl, Below.refl _ _⟩) ?_
  simp only [Act.put, List.setIfInBounds_toArray, List.set_cons_zero, List.set_cons_succ]
  refine wpY_takeB 8 (.tuple #[.int .u64 (r2 : Nat), .int .u64 (c2 : Nat)]) rfl rfl (by kernel_rfl) (fun w1 => by go_simp; exact ⟨rfl, Below.refl _ _⟩) ?_
  simp only [Act.put, List.setIfInBounds_toArray, List.set_cons_zero, List.set_cons_succ]
  refine wpY_takeB 9 (.int .u64 (r2 : Nat)) rfl rfl (by kernel_rfl) (fun w1 => by go_simp; exact ⟨rfl, Below.refl _ _⟩) ?_
  simp only [Act.put, List.setIfInBounds_toArray, List.set_cons_zero, List.set_cons_succ]
  refine wpY_takeB 10 (.int .u64 (c2 : Nat)) rfl rfl (by kernel_rfl) (fun w1 => by go_simp; exact ⟨rfl, Below.refl _ _⟩) ?_
  simp only [Act.put, List.setIfInBounds_toArray, List.set_cons_zero, List.set_cons_succ]
  refine wpY_takeB 11 (.pointer (some ⟨g, 0, none⟩)) rfl rfl (by kernel_rfl) (fun w1 => by go_simp; exact ⟨rfl, Below.refl _ _⟩) ?_
  simp only [Act.put, List.setIfInBounds_toArray, List.set_cons_zero, List.set_cons_succ]
  refine wpY_takeB 12 (.pointer (some ⟨g, 2, none⟩)) rfl rfl (by kernel_rfl) (fun w1 => by go_simp; exact ⟨rfl, Below.refl _ _⟩) ?_
  simp only [Act.put, List.setIfInBounds_toArray, List.set_cons_zero, List.set_cons_succ]
  refine wpY_one rfl rfl (by kernel_rfl) (fun w1 h1 => ?_)
  replace hO := hO.trans (Oth.of_more h1)
  replace hb0 := hb0.below h1 hb0.lt
  clear h1
  have fz : w1.frozen? ⟨g, 2, none⟩ = false := hb0.free _
  have cz : w1.cell? ⟨g, 2, none⟩ = some (.int .u64 (a2 : Nat)) := hb0.cellIs rfl
  go_simp
  clear fz cz
  replace hO := hO.trans (Oth.set (i := 2) (.int .u64 (r2 : Nat)))
  replace hb0 := hb0.set' (i := 2) (v := .int .u64 (r2 : Nat)) (c' := #[.int .u64 (r0 : Nat), .int .u64 (r1 : Nat), .int .u64 (r2 : Nat)]) rfl
  generalize w1.setCell ⟨g, 2, none⟩ (.int .u64 (r2 : Nat)) = w2 at *
  clear wd
  refine wpY_end (by kernel_rfl) (fun w1 h1 => ?_)
  replace hO := hO.trans (Oth.of_more h1)
  replace hb0 := hb0.below h1 hb0.lt
  clear h1
  go_wp2_with (fail)
  go_end0
  exact ⟨rfl, hO, hb0⟩
set_option maxRecDepth 100000 in
set_option maxHeartbeats 2000000 in
theorem wideSub_step (g hi lo a0 a1 a2 r0 c0 r1 c1 r2 c2 : Nat) (w : World)
    (R0 : Hid (∀ w1, (callFunc 121 #[.int .u64 a0, .int .u64 lo, .int .u64 0]).run Try.prog w1 = .ok (.value (.tuple #[.int .u64 (r0 : Int), .int .u64 (c0 : Int)])) w1))
    (R1 : Hid (∀ w1, (callFunc 121 #[.int .u64 a1, .int .u64 hi, .int .u64 c0]).run Try.prog w1 = .ok (.value (.tuple #[.int .u64 (r1 : Int), .int .u64 (c1 : Int)])) w1))
    (R2 : Hid (∀ w1, (callFunc 121 #[.int .u64 a2, .int .u64 0, .int .u64 c1]).run Try.prog w1 = .ok (.value (.tuple #[.int .u64 (r2 : Int), .int .u64 (c2 : Int)])) w1))
    (hb0 : blk w g #[.int .u64 (a0 : Nat), .int .u64 (a1 : Nat), .int .u64 (a2 : Nat)] 83) :
    Calls Try.prog 106 #[.pointer (some ⟨g, 0, none⟩), .bool true, .int .u64 hi, .int .u64 lo] w fun e w' => e = .returned (.tuple #[]) ∧ Oth g w w' ∧ blk w' g #[.int .u64 (r0 : Nat), .int .u64 (r1 : Nat), .int .u64 (r2 : Nat)] 83 := by
  go_enter Try.func106, Try.ntmps106
  go_upto_region 4 with (fail)
  have hO : Oth g w w := Oth.of_more (Below.refl _ _)
  obtain ⟨wo, hwo⟩ : ∃ wo, wo = w := ⟨_, rfl⟩
  rw [← hwo] at hb0
  have hO : Oth g w wo := by rw [hwo]; exact hO
  first | rw [← hwo] | skip
  clear hwo
  refine wp_region_Y 13 15 rfl (by kernel_rfl) ?_
  replace hb0 := hb0.drew
  replace hO : Oth g w _ := hO.trans (Oth.of_more (Below.drew (Below.refl _ wo)))
  generalize wo.drew = wd at *
  clear wo
  refine wpY_takeB 0 (.pointer (some ⟨g, 0, none⟩)) rfl rfl (by kernel_rfl) (fun w1 => by go_simp; exact ⟨rfl, Below.refl _ _⟩) ?_
  simp only [Act.put, List.setIfInBounds_toArray, List.set_cons_zero, List.set_cons_succ]
  refine wpY_takeB 1 (.func (.func 121) #[] #[]) rfl rfl (by kernel_rfl) (fun w1 => by go_simp; exact ⟨rfl, Below.refl _ _⟩) ?_
  simp only [Act.put, List.setIfInBounds_toArray, List.set_cons_zero, List.set_cons_succ]
  refine wpY_takeB 2 (.pointer (some ⟨g, 0, none⟩)) rfl rfl (by kernel_rfl) (fun w1 => by go_simp; exact ⟨rfl, Below.refl _ _⟩) ?_
  simp only [Act.put, List.setIfInBounds_toArray, List.set_cons_zero, List.set_cons_succ]
  refine wpY_takeB 3 (.pointer (some ⟨g, 0, none⟩)) rfl rfl (by kernel_rfl) (fun w1 => by go_simp; exact ⟨rfl, Below.refl _ _⟩) ?_
  simp only [Act.put, List.setIfInBounds_toArray, List.set_cons_zero, List.set_cons_succ]
  refine wpY_takeB 4 (.pointer (some ⟨g, 0, none⟩)) rfl rfl (by kernel_rfl) (fun w1 => by go_simp; exact ⟨rfl, Below.refl _ _⟩) ?_
  simp only [Act.put, List.setIfInBounds_toArray, List.set_cons_zero, List.set_cons_succ]
  refine wpY_takeA 5 (.int .u64 (a0 : Nat)) rfl rfl (by kernel_rfl) (by kernel_rfl) (fun w1 h1 => by have hc : w1.cell? ⟨g, 0, none⟩ = some (.int .u64 (a0 : Nat)) := (hb0.below h1 hb0.lt).cellIs rfl; go_simp; exact ⟨rfl, Below.refl _ _⟩) ?_
  simp only [Act.put, List.setIfInBounds_toArray, List.set_cons_zero, List.set_cons_succ]
  refine wpY_takeB 6 (.int .u64 (lo : Nat)) rfl rfl (by kernel_rfl) (fun w1 => by go_simp; exact ⟨rfl, Below.refl _ _⟩) ?_
  simp only [Act.put, List.setIfInBounds_toArray, List.set_cons_zero, List.set_cons_succ]
  refine wpY_takeA 7 (.tuple #[.int .u64 (r0 : Nat), .int .u64 (c0 : Nat)]) rfl rfl (by kernel_rfl) (by kernel_rfl) (fun w1 h1 => by go_simp; rw [R0.out]; exact ⟨rfl, Below.refl _ _⟩) ?_
  simp only [Act.put, List.setIfInBounds_toArray, List.set_cons_zero, List.set_cons_succ]
  refine wpY_takeB 8 (.tuple #[.int .u64 (r0 : Nat), .int .u64 (c0 : Nat)]) rfl rfl (by kernel_rfl) (fun w1 => by go_simp; exact ⟨rfl, Below.refl _ _⟩) ?_
  simp only [Act.put, List.setIfInBounds_toArray, List.set_cons_zero, List.set_cons_succ]
  refine wpY_takeB 9 (.int .u64 (r0 : Nat)) rfl rfl (by kernel_rfl) (fun w1 => by go_simp; exact ⟨rfl, Below.refl _ _⟩) ?_
  simp only [Act.put, List.setIfInBounds_toArray, List.set_cons_zero, List.set_cons_succ]
  refine wpY_takeB 10 (.int .u64 (c0 : Nat)) rfl rfl (by kernel_rfl) (fun w1 => by go_simp; exact ⟨rfl, Below.refl _ _⟩) ?_
  simp only [Act.put, List.setIfInBounds_toArray, List.set_cons_zero, List.set_cons_succ]
  refine wpY_takeB 11 (.pointer (some ⟨g, 0, none⟩)) rfl rfl (by kernel_rfl) (fun w1 => by go_simp; exact ⟨rfl, Below.refl _ _⟩) ?_
  simp only [Act.put, List.setIfInBounds_toArray, List.set_cons_zero, List.set_cons_succ]
  refine wpY_takeB 12 (.pointer (some ⟨g, 0, none⟩)) rfl rfl (by kernel_rfl) (fun w1 => by go_simp; exact ⟨rfl, Below.refl _ _⟩) ?_
  simp only [Act.put, List.setIfInBounds_toArray, List.set_cons_zero, List.set_cons_succ]
  refine wpY_one rfl rfl (by kernel_rfl) (fun w1 h1 => ?_)
  replace hO := hO.trans (Oth.of_more h1)
  replace hb0 := hb0.below h1 hb0.lt
  clear h1
  have fz : w1.frozen? ⟨g, 0, none⟩ = false := hb0.free _
  have cz : w1.cell? ⟨g, 0, none⟩ = some (.int .u64 (a0 : Nat)) := hb0.cellIs rfl
  go_simp
  clear fz cz
  replace hO := hO.trans (Oth.set (i := 0) (.int .u64 (r0 : Nat)))
  replace hb0 := hb0.set' (i := 0) (v := .int .u64 (r0 : Nat)) (c' := #[.int .u64 (r0 : Nat), .int .u64 (a1 : Nat), .int .u64 (a2 : Nat)]) rfl
  generalize w1.setCell ⟨g, 0, none⟩ (.int .u64 (r0 : Nat)) = w2 at *
  clear wd
  refine wpY_takeB 14 (.int .u64 (c0 : Nat)) rfl rfl (by kernel_rfl) (fun w1 => by go_simp; exact ⟨rfl, Below.refl _ _⟩) ?_
  simp only [Act.put, List.setIfInBounds_toArray, List.set_cons_zero, List.set_cons_succ]
  refine wpY_end (by kernel_rfl) (fun w1 h1 => ?_)
  replace hO := hO.trans (Oth.of_more h1)
  replace hb0 := hb0.below h1 hb0.lt
  clear h1
  go_upto_region 5 with (fail)
  clear w2
  obtain ⟨wo, hwo⟩ : ∃ wo, wo = w1 := ⟨_, rfl⟩
  rw [← hwo] at hb0 hO ⊢
  clear hwo
  refine wp_region_Y 14 16 rfl (by kernel_rfl) ?_
  replace hb0 := hb0.drew
  replace hO : Oth g w _ := hO.trans (Oth.of_more (Below.drew (Below.refl _ wo)))
  generalize wo.drew = wd at *
  clear wo
  refine wpY_takeB 0 (.pointer (some ⟨g, 0, none⟩)) rfl rfl (by kernel_rfl) (fun w1 => by go_simp; exact ⟨rfl, Below.refl _ _⟩) ?_
  simp only [Act.put, List.setIfInBounds_toArray, List.set_cons_zero, List.set_cons_succ]
  refine wpY_takeB 1 (.func (.func 121) #[] #[]) rfl rfl (by kernel_rfl) (fun w1 => by go_simp; exact ⟨rfl, Below.refl _ _⟩) ?_
  simp only [Act.put, List.setIfInBounds_toArray, List.set_cons_zero, List.set_cons_succ]
  refine wpY_takeB 2 (.pointer (some ⟨g, 0, none⟩)) rfl rfl (by kernel_rfl) (fun w1 => by go_simp; exact ⟨rfl, Below.refl _ _⟩) ?_
  simp only [Act.put, List.setIfInBounds_toArray, List.set_cons_zero, List.set_cons_succ]
  refine wpY_takeB 3 (.pointer (some ⟨g, 0, none⟩)) rfl rfl (by kernel_rfl) (fun w1 => by go_simp; exact ⟨rfl, Below.refl _ _⟩) ?_
  simp only [Act.put, List.setIfInBounds_toArray, List.set_cons_zero, List.set_cons_succ]
  refine wpY_takeB 4 (.pointer (some ⟨g, 1, none⟩)) rfl rfl (by kernel_rfl) (fun w1 => by go_simp; exact ⟨rfl, Below.refl _ _⟩) ?_
  simp only [Act.put, List.setIfInBounds_toArray, List.set_cons_zero, List.set_cons_succ]
  refine wpY_takeA 5 (.int .u64 (a1 : Nat)) rfl rfl (by kernel_rfl) (by kernel_rfl) (fun w1 h1 => by have hc : w1.cell? ⟨g, 1, none⟩ = some (.int .u64 (a1 : Nat)) := (hb0.below h1 hb0.lt).cellIs rfl; go_simp; exact ⟨rfl, Below.refl _ _⟩) ?_
  simp only [Act.put, List.setIfInBounds_toArray, List.set_cons_zero, List.set_cons_succ]
  refine wpY_takeB 6 (.int .u64 (hi : Nat)) rfl rfl (by kernel_rfl) (fun w1 => by go_simp; exact ⟨rfl, Below.refl _ _⟩) ?_
  simp only [Act.put, List.setIfInBounds_toArray, List.set_cons_zero, List.set_cons_succ]
  refine wpY_takeB 7 (.int .u64 (c0 : Nat)) rfl rfl (by kernel_rfl) (fun w1 => by go_simp; exact ⟨rfl, Below.refl _ _⟩) ?_
  simp only [Act.put, List.setIfInBounds_toArray, List.set_cons_zero, List.set_cons_succ]
  refine wpY_takeA 8 (.tuple #[.int .u64 (r1 : Nat), .int .u64 (c1 : Nat)]) rfl rfl (by kernel_rfl) (by kernel_rfl) (fun w1 h1 => by go_simp; rw [R1.out]; exact ⟨rfl, Below.refl _ _⟩) ?_
  simp only [Act.put, List.setIfInBounds_toArray, List.set_cons_zero, List.set_cons_succ]
  refine wpY_takeB 9 (.tuple #[.int .u64 (r1 : Nat), .int .u64 (c1 : Nat)]) rfl rfl (by kernel_rfl) (fun w1 => by go_simp; exact ⟨rfl, Below.refl _ _⟩) ?_
  simp only [Act.put, List.setIfInBounds_toArray, List.set_cons_zero, List.set_cons_succ]
  refine wpY_takeB 10 (.int .u64 (r1 : Nat)) rfl rfl (by kernel_rfl) (fun w1 => by go_simp; exact ⟨rfl, Below.refl _ _⟩) ?_
  simp only [Act.put, List.setIfInBounds_toArray, List.set_cons_zero, List.set_cons_succ]
  refine wpY_takeB 11 (.int .u64 (c1 : Nat)) rfl rfl (by kernel_rfl) (fun w1 => by go_simp; exact ⟨rfl, Below.refl _ _⟩) ?_
  simp only [Act.put, List.setIfInBounds_toArray, List.set_cons_zero, List.set_cons_succ]
  refine wpY_takeB 12 (.pointer (some ⟨g, 0, none⟩)) rfl rfl (by kernel_rfl) (fun w1 => by go_simp; exact ⟨rfl, Below.refl _ _⟩) ?_
  simp only [Act.put, List.setIfInBounds_toArray, List.set_cons_zero, List.set_cons_succ]
  refine wpY_takeB 13 (.pointer (some ⟨g, 1, none⟩)) rfl rfl (by kernel_rfl) (fun w1 => by go_simp; exact ⟨rfl, Below.refl _ _⟩) ?_
  simp only [Act.put, List.setIfInBounds_toArray, List.set_cons_zero, List.set_cons_succ]
  refine wpY_one rfl rfl (by kernel_rfl) (fun w1 h1 => ?_)
  replace hO := hO.trans (Oth.of_more h1)
  replace hb0 := hb0.below h1 hb0.lt
  clear h1
  have fz : w1.frozen? ⟨g, 1, none⟩ = false := hb0.free _
  have cz : w1.cell? ⟨g, 1, none⟩ = some (.int .u64 (a1 : Nat)) := hb0.cellIs rfl
  go_simp
  clear fz cz
  replace hO := hO.trans (Oth.set (i := 1) (.int .u64 (r1 : Nat)))
  replace hb0 := hb0.set' (i := 1) (v := .int .u64 (r1 : Nat)) (c' := #[.int .u64 (r0 : Nat), .int .u64 (r1 : Nat), .int .u64 (a2 : Nat)]) rfl
  generalize w1.setCell ⟨g, 1, none⟩ (.int .u64 (r1 : Nat)) = w2 at *
  clear wd
  refine wpY_takeB 15 (.int .u64 (c1 : Nat)) rfl rfl (by kernel_rfl) (fun w1 => by go_simp; exact ⟨rfl, Below.refl _ _⟩) ?_
  simp only [Act.put, List.setIfInBounds_toArray, List.set_cons_zero, List.set_cons_succ]
  refine wpY_end (by kernel_rfl) (fun w1 h1 => ?_)
  replace hO := hO.trans (Oth.of_more h1)
  replace hb0 := hb0.below h1 hb0.lt
  clear h1
  go_upto_region 6 with (fail)
  clear w2
  obtain ⟨wo, hwo⟩ : ∃ wo, wo = w1 := ⟨_, rfl⟩
  rw [← hwo] at hb0 hO ⊢
  clear hwo
  refine wp_region_Y 13 14 rfl (by kernel_rfl) ?_
  replace hb0 := hb0.drew
  replace hO : Oth g w _ := hO.trans (Oth.of_more (Below.drew (Below.refl _ wo)))
  generalize wo.drew = wd at *
  clear wo
  refine wpY_takeB 0 (.pointer (some ⟨g, 0, none⟩)) rfl rfl (by kernel_rfl) (fun w1 => by go_simp; exact ⟨rfl, Below.refl _ _⟩) ?_
  simp only [Act.put, List.setIfInBounds_toArray, List.set_cons_zero, List.set_cons_succ]
  refine wpY_takeB 1 (.func (.func 121) #[] #[]) rfl rfl (by kernel_rfl) (fun w1 => by go_simp; exact ⟨rfl, Below.refl _ _⟩) ?_
  simp only [Act.put, List.setIfInBounds_toArray, List.set_cons_zero, List.set_cons_succ]
  refine wpY_takeB 2 (.pointer (some ⟨g, 0, none⟩)) rfl rfl (by kernel_rfl) (fun w1 => by go_simp; exact ⟨rfl, Below.refl _ _⟩) ?_
  simp only [Act.put, List.setIfInBounds_toArray, List.set_cons_zero, List.set_cons_succ]
  refine wpY_takeB 3 (.pointer (some ⟨g, 0, none⟩)) rfl rfl (by kernel_rfl) (fun w1 => by go_simp; exact ⟨rfl, Below.refl _ _⟩) ?_
  simp only [Act.put, List.setIfInBounds_toArray, List.set_cons_zero, List.set_cons_succ]
  refine wpY_takeB 4 (.pointer (some ⟨g, 2, none⟩)) rfl rfl (by kernel_rfl) (fun w1 => by go_simp; exact ⟨rfl, Below.refl _ _⟩) ?_
  simp only [Act.put, List.setIfInBounds_toArray, List.set_cons_zero, List.set_cons_succ]
  refine wpY_takeA 5 (.int .u64 (a2 : Nat)) rfl rfl (by kernel_rfl) (by kernel_rfl) (fun w1 h1 => by have hc : w1.cell? ⟨g, 2, none⟩ = some (.int .u64 (a2 : Nat)) := (hb0.below h1 hb0.lt).cellIs rfl; go_simp; exact ⟨rfl, Below.refl _ _⟩) ?_
  simp only [Act.put, List.setIfInBounds_toArray, List.set_cons_zero, List.set_cons_succ]
  refine wpY_takeB 6 (.int .u64 (c1 : Nat)) rfl rfl (by kernel_rfl) (fun w1 => by go_simp; exact ⟨rfl, Below.refl _ _⟩) ?_
  simp only [Act.put, List.setIfInBounds_toArray, List.set_cons_zero, List.set_cons_succ]
  refine wpY_takeA 7 (.tuple #[.int .u64 (r2 : Nat), .int .u64 (c2 : Nat)]) rfl rfl (by kernel_rfl) (by kernel_rfl) (fun w1 h1 => by go_simp; rw [R2.out]; exact ⟨rfl, Below.refl _ _⟩) ?_
  simp only [Act.put, List.setIfInBounds_toArray, List.set_cons_zero, List.set_cons_succ]
  refine wpY_takeB 8 (.tuple #[.int .u64 (r2 : Nat), .int .u64 (c2 : Nat)]) rfl rfl (by kernel_rfl) (fun w1 => by go_simp; exact ⟨rfl, Below.refl _ _⟩) ?_
  simp only [Act.put, List.setIfInBounds_toArray, List.set_cons_zero, List.set_cons_succ]
  refine wpY_takeB 9 (.int .u64 (r2 : Nat)) rfl rfl (by kernel_rfl) (fun w1 => by go_simp; exact ⟨rfl, Below.refl _ _⟩) ?_
  simp only [Act.put, List.setIfInBounds_toArray, List.set_cons_zero, List.set_cons_succ]
  refine wpY_takeB 10 (.int .u64 (c2 : Nat)) rfl rfl (by kernel_rfl) (fun w1 => by go_simp; exact ⟨rfl, Below.refl _ _⟩) ?_
  simp only [Act.put, List.setIfInBounds_toArray, List.set_cons_zero, List.set_cons_succ]
  refine wpY_takeB 11 (.pointer (some ⟨g, 0, none⟩)) rfl rfl (by kernel_rfl) (fun w1 => by go_simp; exact ⟨rfl, Below.refl _ _⟩) ?_
  simp only [Act.put, List.setIfInBounds_toArray, List.set_cons_zero, List.set_cons_succ]
  refine wpY_takeB 12 (.pointer (some ⟨g, 2, none⟩)) rfl rfl (by kernel_rfl) (fun w1 => by go_simp; exact ⟨rfl, Below.refl _ _⟩) ?_
  simp only [Act.put, List.setIfInBounds_toArray, List.set_cons_zero, List.set_cons_succ]
  refine wpY_one rfl rfl (by kernel_rfl) (fun w1 h1 => ?_)
  replace hO := hO.trans (Oth.of_more h1)
  replace hb0 := hb0.below h1 hb0.lt
  clear h1
  have fz : w1.frozen? ⟨g, 2, none⟩ = false := hb0.free _
  have cz : w1.cell? ⟨g, 2, none⟩ = some (.int .u64 (a2 : Nat)) := hb0.cellIs rfl
  go_simp
  clear fz cz
  replace hO := hO.trans (Oth.set (i := 2) (.int .u64 (r2 : Nat)))
  replace hb0 := hb0.set' (i := 2) (v := .int .u64 (r2 : Nat)) (c' := #[.int .u64 (r0 : Nat), .int .u64 (r1 : Nat), .int .u64 (r2 : Nat)]) rfl
  generalize w1.setCell ⟨g, 2, none⟩ (.int .u64 (r2 : Nat)) = w2 at *
  clear wd
  refine wpY_end (by kernel_rfl) (fun w1 h1 => ?_)
  replace hO := hO.trans (Oth.of_more h1)
  replace hb0 := hb0.below h1 hb0.lt
  clear h1
  go_wp2_with (fail)
  go_end0
  exact ⟨rfl, hO, hb0⟩
end Go.Proofs.Ythkklhfnmodpnaa
