/-
  The sum of 192 bits in package fixed: (*wide).add adds or subtracts a number of two words. (*wide).add of package fixed: what it leaves, as a number. Sums of products by the specification's own numbers (package perigeeref01): Dot. Sums of products of package fixed: Dot. Square roots by the specification's own numbers (package perigeeref01): Root. Square roots and norms by the specification's own numbers (package perigeeref01): Sqrt, Hypot. Vectors of three numbers: what it is that one is valid, in the package and in its specification. Products and norms of vectors of three numbers, in the package and in its specification. A vector component by component: each, with the function that gives the components. Sines and cosines of package fixed and of its specification: what they return. The same of the specification of vectors: dot, two, Dot, Norm, result, Cross. Vector products, in the package and in its specification. Vector products as a whole, in the package and in its specification.
-/
import Derived.Test.YtkmelddejdikgaaHyp
import Derived.Test.YtkmelddejdikgaaBase
import Derived.Test.YtkmelddejdikgaaBigQ
import Derived.Test.YtkmelddejdikgaaAlg
import Derived.Laws.ResultCell
set_option linter.unusedSimpArgs false
set_option linter.unusedVariables false
namespace Go.Proofs.Ytkmelddejdikgaa
open Go.RowKit PM Dt
def subE : Array Value → Sem Value := (Extern.MathBitsCarry.rows.getD 1 ("", fun _ => default)).2
theorem subE_run {P : Program} (x y k : Nat) (hk : k ≤ 1) (w : World) :
    (subE #[.int .u64 (x : Int), .int .u64 (y : Int), .int .u64 (k : Int)]).run P w = .ok (.tuple #[.int .u64 (((x + 18446744073709551616 - y - k) % 18446744073709551616 : Nat) : Int), .int .u64 (((if x < y + k then 1 else 0 : Nat)) : Int)]) w := by
  have : k = 0 ∨ k = 1 := by omega
  rcases this with rfl | rfl <;> rfl
theorem sub64_run (x y b r c : Nat) (hx : x < 18446744073709551616) (hy : y < 18446744073709551616) (hb : b ≤ 1) (h : x + c * 18446744073709551616 = r + y + b) (hr : r < 18446744073709551616) (w : World) :
    (callFunc 171 #[.int .u64 x, .int .u64 y, .int .u64 b]).run Try.prog w = .ok (.value (.tuple #[.int .u64 (r : Int), .int .u64 (c : Int)])) w := by
  rw [run_callFunc_extern Try.func171 (by kernel_rfl) (by kernel_rfl) (by kernel_rfl) (e := subE) (by kernel_rfl), subE_run x y b hb]
  have h1 : (x + 18446744073709551616 - y - b) % 18446744073709551616 = r := by omega
  have h2 : (if x < y + b then 1 else 0 : Nat) = c := by split <;> omega
  rw [h1, h2]; rfl
theorem add64c_run (x y b r c : Nat) (hx : x < 18446744073709551616) (hy : y < 18446744073709551616) (hb : b ≤ 1) (h : x + y + b = c * 18446744073709551616 + r) (hr : r < 18446744073709551616) (w : World) :
    (callFunc 138 #[.int .u64 x, .int .u64 y, .int .u64 b]).run Try.prog w = .ok (.value (.tuple #[.int .u64 (r : Int), .int .u64 (c : Int)])) w := by
  rw [run_callFunc_extern Try.func138 (by kernel_rfl) (by kernel_rfl) (by kernel_rfl) (e := add64Entry) (by kernel_rfl), run_add64 x y b (by omega) (by omega) (by omega) (by omega)]
  have h1 : ((x : Int) + (y : Int) + (b : Int)) % 18446744073709551616 = (r : Int) := by omega
  have h2 : ((x : Int) + (y : Int) + (b : Int)) / 18446744073709551616 = (c : Int) := by omega
  rw [h1, h2]; rfl
def wideC (T : Int) : Array Value := #[.int .u64 (T % 18446744073709551616), .int .u64 (T / 18446744073709551616 % 18446744073709551616), .int .u64 (T / 340282366920938463463374607431768211456 % 18446744073709551616)]
def Oth (g : Nat) (w w' : World) : Prop := Below 0 w w' ∧ w.heap.size ≤ w'.heap.size ∧ ∀ k, k < w.heap.size → k ≠ g → w'.heap[k]? = w.heap[k]?
theorem Oth.of_more {g : Nat} {w w' : World} (h : More w w') : Oth g w w' := ⟨Below.mono h (Nat.zero_le _), h.size, fun k hk _ => h.block k hk⟩
theorem Oth.trans {g : Nat} {a b c : World} (h : Oth g a b) (k : Oth g b c) : Oth g a c :=
  ⟨h.1.trans k.1, Nat.le_trans h.2.1 k.2.1, fun i hi hne => (k.2.2 i (Nat.lt_of_lt_of_le hi h.2.1) hne).trans (h.2.2 i hi hne)⟩
theorem Oth.set {g i : Nat} {w : World} (v : Value) : Oth g w (w.setCell ⟨g, i, none⟩ v) :=
  ⟨(Below.refl 0 w).setCell (Nat.zero_le _) v, by simp, fun k hk hne => heap_setCell_other _ _ _ _ (by simpa using hne)⟩
theorem Oth.blk {g : Nat} {w w' : World} (h : Oth g w w') {b : Nat} {c : Array Value} {t : TypeId} (hb : blk w b c t) (hne : b ≠ g) : blk w' b c t := by
  have hl := hb.lt
  unfold Go.Proofs.Ytkmelddejdikgaa.blk at *
  rw [h.2.2 b hl hne]; exact hb
theorem wide_plus {T hi lo a0 a1 a2 r0 c0 r1 c1 r2 c2 : Int} (h0 : a0 = T % 18446744073709551616) (h1 : a1 = T / 18446744073709551616 % 18446744073709551616) (h2 : a2 = T / 340282366920938463463374607431768211456 % 18446744073709551616)
    (e0 : a0 + lo = c0 * 18446744073709551616 + r0) (e1 : a1 + hi + c0 = c1 * 18446744073709551616 + r1) (e2 : a2 + c1 = c2 * 18446744073709551616 + r2)
    (b0 : 0 ≤ r0 ∧ r0 < 18446744073709551616) (b1 : 0 ≤ r1 ∧ r1 < 18446744073709551616) (b2 : 0 ≤ r2 ∧ r2 < 18446744073709551616) :
    r0 = (T + (hi * 18446744073709551616 + lo)) % 18446744073709551616 ∧ r1 = (T + (hi * 18446744073709551616 + lo)) / 18446744073709551616 % 18446744073709551616 ∧ r2 = (T + (hi * 18446744073709551616 + lo)) / 340282366920938463463374607431768211456 % 18446744073709551616 := by
  refine ⟨?_, ?_, ?_⟩ <;> omega
theorem wide_minus {T hi lo a0 a1 a2 r0 c0 r1 c1 r2 c2 : Int} (h0 : a0 = T % 18446744073709551616) (h1 : a1 = T / 18446744073709551616 % 18446744073709551616) (h2 : a2 = T / 340282366920938463463374607431768211456 % 18446744073709551616)
    (e0 : a0 + c0 * 18446744073709551616 = r0 + lo) (e1 : a1 + c1 * 18446744073709551616 = r1 + hi + c0) (e2 : a2 + c2 * 18446744073709551616 = r2 + c1)
    (b0 : 0 ≤ r0 ∧ r0 < 18446744073709551616) (b1 : 0 ≤ r1 ∧ r1 < 18446744073709551616) (b2 : 0 ≤ r2 ∧ r2 < 18446744073709551616) :
    r0 = (T - (hi * 18446744073709551616 + lo)) % 18446744073709551616 ∧ r1 = (T - (hi * 18446744073709551616 + lo)) / 18446744073709551616 % 18446744073709551616 ∧ r2 = (T - (hi * 18446744073709551616 + lo)) / 340282366920938463463374607431768211456 % 18446744073709551616 := by
  refine ⟨?_, ?_, ?_⟩ <;> omega
set_option maxRecDepth 100000 in
set_option maxHeartbeats 2000000 in
theorem wideAdd_step (g hi lo a0 a1 a2 r0 c0 r1 c1 r2 c2 : Nat) (w : World)
    (R0 : Hid (∀ w1, (callFunc 138 #[.int .u64 a0, .int .u64 lo, .int .u64 0]).run Try.prog w1 = .ok (.value (.tuple #[.int .u64 (r0 : Int), .int .u64 (c0 : Int)])) w1))
    (R1 : Hid (∀ w1, (callFunc 138 #[.int .u64 a1, .int .u64 hi, .int .u64 c0]).run Try.prog w1 = .ok (.value (.tuple #[.int .u64 (r1 : Int), .int .u64 (c1 : Int)])) w1))
    (R2 : Hid (∀ w1, (callFunc 138 #[.int .u64 a2, .int .u64 0, .int .u64 c1]).run Try.prog w1 = .ok (.value (.tuple #[.int .u64 (r2 : Int), .int .u64 (c2 : Int)])) w1))
    (hb0 : blk w g #[.int .u64 (a0 : Nat), .int .u64 (a1 : Nat), .int .u64 (a2 : Nat)] 185) :
    Calls Try.prog 123 #[.pointer (some ⟨g, 0, none⟩), .bool false, .int .u64 hi, .int .u64 lo] w fun e w' => e = .returned (.tuple #[]) ∧ Oth g w w' ∧ blk w' g #[.int .u64 (r0 : Nat), .int .u64 (r1 : Nat), .int .u64 (r2 : Nat)] 185 := by
  go_enter Try.func123, Try.ntmps123
  go_upto_region 4 with (fail)
  have hO : Oth g w w := Oth.of_more (Below.refl _ _)
  obtain ⟨wo, hwo⟩ : ∃ wo, wo = w := ⟨_, rfl⟩
  rw [← hwo] at hb0
  have hO : Oth g w wo := by rw [hwo]; exact hO
  first | rw [← hwo] | skip
  clear hwo
  refine wp_region_Y 13 15 rfl (by kernel_rfl) ?_
  replace hb0 := hb0.drew
  replace hO : Oth g w _ := hO.trans (Oth.of_more (Below.drew (Below.refl _ wo)))
  generalize wo.drew = wd at *
  clear wo
  refine wpY_takeB 0 (.pointer (some ⟨g, 0, none⟩)) rfl rfl (by kernel_rfl) (fun w1 => by go_simp; exact ⟨rfl, Below.refl _ _⟩) ?_
  simp only [Act.put, sIT, sCZ, sCS]
  refine wpY_takeB 1 (.func (.func 138) #[] #[]) rfl rfl (by kernel_rfl) (fun w1 => by go_simp; exact ⟨rfl, Below.refl _ _⟩) ?_
  simp only [Act.put, sIT, sCZ, sCS]
  refine wpY_takeB 2 (.pointer (some ⟨g, 0, none⟩)) rfl rfl (by kernel_rfl) (fun w1 => by go_simp; exact ⟨rfl, Below.refl _ _⟩) ?_
  simp only [Act.put, sIT, sCZ, sCS]
  refine wpY_takeB 3 (.pointer (some ⟨g, 0, none⟩)) rfl rfl (by kernel_rfl) (fun w1 => by go_simp; exact ⟨rfl, Below.refl _ _⟩) ?_
  simp only [Act.put, sIT, sCZ, sCS]
  refine wpY_takeB 4 (.pointer (some ⟨g, 0, none⟩)) rfl rfl (by kernel_rfl) (fun w1 => by go_simp; exact ⟨rfl, Below.refl _ _⟩) ?_
  simp only [Act.put, sIT, sCZ, sCS]
  refine wpY_takeA 5 (.int .u64 (a0 : Nat)) rfl rfl (by kernel_rfl) (by kernel_rfl) (fun w1 h1 => by have hc : w1.cell? ⟨g, 0, none⟩ = some (.int .u64 (a0 : Nat)) := (hb0.below h1 hb0.lt).cellIs rfl; go_simp; exact ⟨rfl, Below.refl _ _⟩) ?_
  simp only [Act.put, sIT, sCZ, sCS]
  refine wpY_takeB 6 (.int .u64 (lo : Nat)) rfl rfl (by kernel_rfl) (fun w1 => by go_simp; exact ⟨rfl, Below.refl _ _⟩) ?_
  simp only [Act.put, sIT, sCZ, sCS]
  refine wpY_takeA 7 (.tuple #[.int .u64 (r0 : Nat), .int .u64 (c0 : Nat)]) rfl rfl (by kernel_rfl) (by kernel_rfl) (fun w1 h1 => by go_simp; rw [R0.out]; exact ⟨rfl, Below.refl _ _⟩) ?_
  simp only [Act.put, sIT, sCZ, sCS]
  refine wpY_takeB 8 (.tuple #[.int .u64 (r0 : Nat), .int .u64 (c0 : Nat)]) rfl rfl (by kernel_rfl) (fun w1 => by go_simp; exact ⟨rfl, Below.refl _ _⟩) ?_
  simp only [Act.put, sIT, sCZ, sCS]
  refine wpY_takeB 9 (.int .u64 (r0 : Nat)) rfl rfl (by kernel_rfl) (fun w1 => by go_simp; exact ⟨rfl, Below.refl _ _⟩) ?_
  simp only [Act.put, sIT, sCZ, sCS]
  refine wpY_takeB 10 (.int .u64 (c0 : Nat)) rfl rfl (by kernel_rfl) (fun w1 => by go_simp; exact ⟨rfl, Below.refl _ _⟩) ?_
  simp only [Act.put, sIT, sCZ, sCS]
  refine wpY_takeB 11 (.pointer (some ⟨g, 0, none⟩)) rfl rfl (by kernel_rfl) (fun w1 => by go_simp; exact ⟨rfl, Below.refl _ _⟩) ?_
  simp only [Act.put, sIT, sCZ, sCS]
  refine wpY_takeB 12 (.pointer (some ⟨g, 0, none⟩)) rfl rfl (by kernel_rfl) (fun w1 => by go_simp; exact ⟨rfl, Below.refl _ _⟩) ?_
  simp only [Act.put, sIT, sCZ, sCS]
  refine wpY_one rfl rfl (by kernel_rfl) (fun w1 h1 => ?_)
  replace hO := hO.trans (Oth.of_more h1)
  replace hb0 := hb0.below h1 hb0.lt
  clear h1
  have fz : w1.frozen? ⟨g, 0, none⟩ = false := hb0.free _
  have cz : w1.cell? ⟨g, 0, none⟩ = some (.int .u64 (a0 : Nat)) := hb0.cellIs rfl
  go_simp
  clear fz cz
  replace hO := hO.trans (Oth.set (i := 0) (.int .u64 (r0 : Nat)))
  replace hb0 := hb0.set' (i := 0) (v := .int .u64 (r0 : Nat)) (c' := #[.int .u64 (r0 : Nat), .int .u64 (a1 : Nat), .int .u64 (a2 : Nat)]) rfl
  generalize w1.setCell ⟨g, 0, none⟩ (.int .u64 (r0 : Nat)) = w2 at *
  clear wd
  refine wpY_takeB 14 (.int .u64 (c0 : Nat)) rfl rfl (by kernel_rfl) (fun w1 => by go_simp; exact ⟨rfl, Below.refl _ _⟩) ?_
  simp only [Act.put, sIT, sCZ, sCS]
  refine wpY_end (by kernel_rfl) (fun w1 h1 => ?_)
  replace hO := hO.trans (Oth.of_more h1)
  replace hb0 := hb0.below h1 hb0.lt
  clear h1
  go_upto_region 5 with (fail)
  clear w2
  obtain ⟨wo, hwo⟩ : ∃ wo, wo = w1 := ⟨_, rfl⟩
  rw [← hwo] at hb0 hO ⊢
  clear hwo
  refine wp_region_Y 14 16 rfl (by kernel_rfl) ?_
  replace hb0 := hb0.drew
  replace hO : Oth g w _ := hO.trans (Oth.of_more (Below.drew (Below.refl _ wo)))
  generalize wo.drew = wd at *
  clear wo
  refine wpY_takeB 0 (.pointer (some ⟨g, 0, none⟩)) rfl rfl (by kernel_rfl) (fun w1 => by go_simp; exact ⟨rfl, Below.refl _ _⟩) ?_
  simp only [Act.put, sIT, sCZ, sCS]
  refine wpY_takeB 1 (.func (.func 138) #[] #[]) rfl rfl (by kernel_rfl) (fun w1 => by go_simp; exact ⟨rfl, Below.refl _ _⟩) ?_
  simp only [Act.put, sIT, sCZ, sCS]
  refine wpY_takeB 2 (.pointer (some ⟨g, 0, none⟩)) rfl rfl (by kernel_rfl) (fun w1 => by go_simp; exact ⟨rfl, Below.refl _ _⟩) ?_
  simp only [Act.put, sIT, sCZ, sCS]
  refine wpY_takeB 3 (.pointer (some ⟨g, 0, none⟩)) rfl rfl (by kernel_rfl) (fun w1 => by go_simp; exact ⟨rfl, Below.refl _ _⟩) ?_
  simp only [Act.put, sIT, sCZ, sCS]
  refine wpY_takeB 4 (.pointer (some ⟨g, 1, none⟩)) rfl rfl (by kernel_rfl) (fun w1 => by go_simp; exact ⟨rfl, Below.refl _ _⟩) ?_
  simp only [Act.put, sIT, sCZ, sCS]
  refine wpY_takeA 5 (.int .u64 (a1 : Nat)) rfl rfl (by kernel_rfl) (by kernel_rfl) (fun w1 h1 => by have hc : w1.cell? ⟨g, 1, none⟩ = some (.int .u64 (a1 : Nat)) := (hb0.below h1 hb0.lt).cellIs rfl; go_simp; exact ⟨rfl, Below.refl _ _⟩) ?_
  simp only [Act.put, sIT, sCZ, sCS]
  refine wpY_takeB 6 (.int .u64 (hi : Nat)) rfl rfl (by kernel_rfl) (fun w1 => by go_simp; exact ⟨rfl, Below.refl _ _⟩) ?_
  simp only [Act.put, sIT, sCZ, sCS]
  refine wpY_takeB 7 (.int .u64 (c0 : Nat)) rfl rfl (by kernel_rfl) (fun w1 => by go_simp; exact ⟨rfl, Below.refl _ _⟩) ?_
  simp only [Act.put, sIT, sCZ, sCS]
  refine wpY_takeA 8 (.tuple #[.int .u64 (r1 : Nat), .int .u64 (c1 : Nat)]) rfl rfl (by kernel_rfl) (by kernel_rfl) (fun w1 h1 => by go_simp; rw [R1.out]; exact ⟨rfl, Below.refl _ _⟩) ?_
  simp only [Act.put, sIT, sCZ, sCS]
  refine wpY_takeB 9 (.tuple #[.int .u64 (r1 : Nat), .int .u64 (c1 : Nat)]) rfl rfl (by kernel_rfl) (fun w1 => by go_simp; exact ⟨rfl, Below.refl _ _⟩) ?_
  simp only [Act.put, sIT, sCZ, sCS]
  refine wpY_takeB 10 (.int .u64 (r1 : Nat)) rfl rfl (by kernel_rfl) (fun w1 => by go_simp; exact ⟨rfl, Below.refl _ _⟩) ?_
  simp only [Act.put, sIT, sCZ, sCS]
  refine wpY_takeB 11 (.int .u64 (c1 : Nat)) rfl rfl (by kernel_rfl) (fun w1 => by go_simp; exact ⟨rfl, Below.refl _ _⟩) ?_
  simp only [Act.put, sIT, sCZ, sCS]
  refine wpY_takeB 12 (.pointer (some ⟨g, 0, none⟩)) rfl rfl (by kernel_rfl) (fun w1 => by go_simp; exact ⟨rfl, Below.refl _ _⟩) ?_
  simp only [Act.put, sIT, sCZ, sCS]
  refine wpY_takeB 13 (.pointer (some ⟨g, 1, none⟩)) rfl rfl (by kernel_rfl) (fun w1 => by go_simp; exact ⟨rfl, Below.refl _ _⟩) ?_
  simp only [Act.put, sIT, sCZ, sCS]
  refine wpY_one rfl rfl (by kernel_rfl) (fun w1 h1 => ?_)
  replace hO := hO.trans (Oth.of_more h1)
  replace hb0 := hb0.below h1 hb0.lt
  clear h1
  have fz : w1.frozen? ⟨g, 1, none⟩ = false := hb0.free _
  have cz : w1.cell? ⟨g, 1, none⟩ = some (.int .u64 (a1 : Nat)) := hb0.cellIs rfl
  go_simp
  clear fz cz
  replace hO := hO.trans (Oth.set (i := 1) (.int .u64 (r1 : Nat)))
  replace hb0 := hb0.set' (i := 1) (v := .int .u64 (r1 : Nat)) (c' := #[.int .u64 (r0 : Nat), .int .u64 (r1 : Nat), .int .u64 (a2 : Nat)]) rfl
  generalize w1.setCell ⟨g, 1, none⟩ (.int .u64 (r1 : Nat)) = w2 at *
  clear wd
  refine wpY_takeB 15 (.int .u64 (c1 : Nat)) rfl rfl (by kernel_rfl) (fun w1 => by go_simp; exact ⟨rfl, Below.refl _ _⟩) ?_
  simp only [Act.put, sIT, sCZ, sCS]
  refine wpY_end (by kernel_rfl) (fun w1 h1 => ?_)
  replace hO := hO.trans (Oth.of_more h1)
  replace hb0 := hb0.below h1 hb0.lt
  clear h1
  go_upto_region 6 with (fail)
  clear w2
  obtain ⟨wo, hwo⟩ : ∃ wo, wo = w1 := ⟨_, rfl⟩
  rw [← hwo] at hb0 hO ⊢
  clear hwo
  refine wp_region_Y 13 14 rfl (by kernel_rfl) ?_
  replace hb0 := hb0.drew
  replace hO : Oth g w _ := hO.trans (Oth.of_more (Below.drew (Below.refl _ wo)))
  generalize wo.drew = wd at *
  clear wo
  refine wpY_takeB 0 (.pointer (some ⟨g, 0, none⟩)) rfl rfl (by kernel_rfl) (fun w1 => by go_simp; exact ⟨rfl, Below.refl _ _⟩) ?_
  simp only [Act.put, sIT, sCZ, sCS]
  refine wpY_takeB 1 (.func (.func 138) #[] #[]) rfl rfl (by kernel_rfl) (fun w1 => by go_simp; exact ⟨rfl, Below.refl _ _⟩) ?_
  simp only [Act.put, sIT, sCZ, sCS]
  refine wpY_takeB 2 (.pointer (some ⟨g, 0, none⟩)) rfl rfl (by kernel_rfl) (fun w1 => by go_simp; exact ⟨rfl, Below.refl _ _⟩) ?_
  simp only [Act.put, sIT, sCZ, sCS]
  refine wpY_takeB 3 (.pointer (some ⟨g, 0, none⟩)) rfl rfl (by kernel_rfl) (fun w1 => by go_simp; exact ⟨rfl, Below.refl _ _⟩) ?_
  simp only [Act.put, sIT, sCZ, sCS]
  refine wpY_takeB 4 (.pointer (some ⟨g, 2, none⟩)) rfl rfl (by kernel_rfl) (fun w1 => by go_simp; exact ⟨rfl, Below.refl _ _⟩) ?_
  simp only [Act.put, sIT, sCZ, sCS]
  refine wpY_takeA 5 (.int .u64 (a2 : Nat)) rfl rfl (by kernel_rfl) (by kernel_rfl) (fun w1 h1 => by have hc : w1.cell? ⟨g, 2, none⟩ = some (.int .u64 (a2 : Nat)) := (hb0.below h1 hb0.lt).cellIs rfl; go_simp; exact ⟨rfl, Below.refl _ _⟩) ?_
  simp only [Act.put, sIT, sCZ, sCS]
  refine wpY_takeB 6 (.int .u64 (c1 : Nat)) rfl rfl (by kernel_rfl) (fun w1 => by go_simp; exact ⟨rfl, Below.refl _ _⟩) ?_
  simp only [Act.put, sIT, sCZ, sCS]
  refine wpY_takeA 7 (.tuple #[.int .u64 (r2 : Nat), .int .u64 (c2 : Nat)]) rfl rfl (by kernel_rfl) (by kernel_rfl) (fun w1 h1 => by go_simp; rw [R2.out]; exact ⟨rfl, Below.refl _ _⟩) ?_
  simp only [Act.put, sIT, sCZ, sCS]
  refine wpY_takeB 8 (.tuple #[.int .u64 (r2 : Nat), .int .u64 (c2 : Nat)]) rfl rfl (by kernel_rfl) (fun w1 => by go_simp; exact ⟨rfl, Below.refl _ _⟩) ?_
  simp only [Act.put, sIT, sCZ, sCS]
  refine wpY_takeB 9 (.int .u64 (r2 : Nat)) rfl rfl (by kernel_rfl) (fun w1 => by go_simp; exact ⟨rfl, Below.refl _ _⟩) ?_
  simp only [Act.put, sIT, sCZ, sCS]
  refine wpY_takeB 10 (.int .u64 (c2 : Nat)) rfl rfl (by kernel_rfl) (fun w1 => by go_simp; exact ⟨rfl, Below.refl _ _⟩) ?_
  simp only [Act.put, sIT, sCZ, sCS]
  refine wpY_takeB 11 (.pointer (some ⟨g, 0, none⟩)) rfl rfl (by kernel_rfl) (fun w1 => by go_simp; exact ⟨rfl, Below.refl _ _⟩) ?_
  simp only [Act.put, sIT, sCZ, sCS]
  refine wpY_takeB 12 (.pointer (some ⟨g, 2, none⟩)) rfl rfl (by kernel_rfl) (fun w1 => by go_simp; exact ⟨rfl, Below.refl _ _⟩) ?_
  simp only [Act.put, sIT, sCZ, sCS]
  refine wpY_one rfl rfl (by kernel_rfl) (fun w1 h1 => ?_)
  replace hO := hO.trans (Oth.of_more h1)
  replace hb0 := hb0.below h1 hb0.lt
  clear h1
  have fz : w1.frozen? ⟨g, 2, none⟩ = false := hb0.free _
  have cz : w1.cell? ⟨g, 2, none⟩ = some (.int .u64 (a2 : Nat)) := hb0.cellIs rfl
  go_simp
  clear fz cz
  replace hO := hO.trans (Oth.set (i := 2) (.int .u64 (r2 : Nat)))
  replace hb0 := hb0.set' (i := 2) (v := .int .u64 (r2 : Nat)) (c' := #[.int .u64 (r0 : Nat), .int .u64 (r1 : Nat), .int .u64 (r2 : Nat)]) rfl
  generalize w1.setCell ⟨g, 2, none⟩ (.int .u64 (r2 : Nat)) = w2 at *
  clear wd
  refine wpY_end (by kernel_rfl) (fun w1 h1 => ?_)
  replace hO := hO.trans (Oth.of_more h1)
  replace hb0 := hb0.below h1 hb0.lt
  clear h1
  go_wp2_with (fail)
  go_end0
  exact ⟨rfl, hO, hb0⟩
set_option maxRecDepth 100000 in
set_option maxHeartbeats 2000000 in
theorem wideSub_step (g hi lo a0 a1 a2 r0 c0 r1 c1 r2 c2 : Nat) (w : World)
    (R0 : Hid (∀ w1, (callFunc 171 #[.int .u64 a0, .int .u64 lo, .int .u64 0]).run Try.prog w1 = .ok (.value (.tuple #[.int .u64 (r0 : Int), .int .u64 (c0 : Int)])) w1))
    (R1 : Hid (∀ w1, (callFunc 171 #[.int .u64 a1, .int .u64 hi, .int .u64 c0]).run Try.prog w1 = .ok (.value (.tuple #[.int .u64 (r1 : Int), .int .u64 (c1 : Int)])) w1))
    (R2 : Hid (∀ w1, (callFunc 171 #[.int .u64 a2, .int .u64 0, .int .u64 c1]).run Try.prog w1 = .ok (.value (.tuple #[.int .u64 (r2 : Int), .int .u64 (c2 : Int)])) w1))
    (hb0 : blk w g #[.int .u64 (a0 : Nat), .int .u64 (a1 : Nat), .int .u64 (a2 : Nat)] 185) :
    Calls Try.prog 123 #[.pointer (some ⟨g, 0, none⟩), .bool true, .int .u64 hi, .int .u64 lo] w fun e w' => e = .returned (.tuple #[]) ∧ Oth g w w' ∧ blk w' g #[.int .u64 (r0 : Nat), .int .u64 (r1 : Nat), .int .u64 (r2 : Nat)] 185 := by
  go_enter Try.func123, Try.ntmps123
  go_upto_region 4 with (fail)
  have hO : Oth g w w := Oth.of_more (Below.refl _ _)
  obtain ⟨wo, hwo⟩ : ∃ wo, wo = w := ⟨_, rfl⟩
  rw [← hwo] at hb0
  have hO : Oth g w wo := by rw [hwo]; exact hO
  first | rw [← hwo] | skip
  clear hwo
  refine wp_region_Y 13 15 rfl (by kernel_rfl) ?_
  replace hb0 := hb0.drew
  replace hO : Oth g w _ := hO.trans (Oth.of_more (Below.drew (Below.refl _ wo)))
  generalize wo.drew = wd at *
  clear wo
  refine wpY_takeB 0 (.pointer (some ⟨g, 0, none⟩)) rfl rfl (by kernel_rfl) (fun w1 => by go_simp; exact ⟨rfl, Below.refl _ _⟩) ?_
  simp only [Act.put, sIT, sCZ, sCS]
  refine wpY_takeB 1 (.func (.func 171) #[] #[]) rfl rfl (by kernel_rfl) (fun w1 => by go_simp; exact ⟨rfl, Below.refl _ _⟩) ?_
  simp only [Act.put, sIT, sCZ, sCS]
  refine wpY_takeB 2 (.pointer (some ⟨g, 0, none⟩)) rfl rfl (by kernel_rfl) (fun w1 => by go_simp; exact ⟨rfl, Below.refl _ _⟩) ?_
  simp only [Act.put, sIT, sCZ, sCS]
  refine wpY_takeB 3 (.pointer (some ⟨g, 0, none⟩)) rfl rfl (by kernel_rfl) (fun w1 => by go_simp; exact ⟨rfl, Below.refl _ _⟩) ?_
  simp only [Act.put, sIT, sCZ, sCS]
  refine wpY_takeB 4 (.pointer (some ⟨g, 0, none⟩)) rfl rfl (by kernel_rfl) (fun w1 => by go_simp; exact ⟨rfl, Below.refl _ _⟩) ?_
  simp only [Act.put, sIT, sCZ, sCS]
  refine wpY_takeA 5 (.int .u64 (a0 : Nat)) rfl rfl (by kernel_rfl) (by kernel_rfl) (fun w1 h1 => by have hc : w1.cell? ⟨g, 0, none⟩ = some (.int .u64 (a0 : Nat)) := (hb0.below h1 hb0.lt).cellIs rfl; go_simp; exact ⟨rfl, Below.refl _ _⟩) ?_
  simp only [Act.put, sIT, sCZ, sCS]
  refine wpY_takeB 6 (.int .u64 (lo : Nat)) rfl rfl (by kernel_rfl) (fun w1 => by go_simp; exact ⟨rfl, Below.refl _ _⟩) ?_
  simp only [Act.put, sIT, sCZ, sCS]
  refine wpY_takeA 7 (.tuple #[.int .u64 (r0 : Nat), .int .u64 (c0 : Nat)]) rfl rfl (by kernel_rfl) (by kernel_rfl) (fun w1 h1 => by go_simp; rw [R0.out]; exact ⟨rfl, Below.refl _ _⟩) ?_
  simp only [Act.put, sIT, sCZ, sCS]
  refine wpY_takeB 8 (.tuple #[.int .u64 (r0 : Nat), .int .u64 (c0 : Nat)]) rfl rfl (by kernel_rfl) (fun w1 => by go_simp; exact ⟨rfl, Below.refl _ _⟩) ?_
  simp only [Act.put, sIT, sCZ, sCS]
  refine wpY_takeB 9 (.int .u64 (r0 : Nat)) rfl rfl (by kernel_rfl) (fun w1 => by go_simp; exact ⟨rfl, Below.refl _ _⟩) ?_
  simp only [Act.put, sIT, sCZ, sCS]
  refine wpY_takeB 10 (.int .u64 (c0 : Nat)) rfl rfl (by kernel_rfl) (fun w1 => by go_simp; exact ⟨rfl, Below.refl _ _⟩) ?_
  simp only [Act.put, sIT, sCZ, sCS]
  refine wpY_takeB 11 (.pointer (some ⟨g, 0, none⟩)) rfl rfl (by kernel_rfl) (fun w1 => by go_simp; exact ⟨rfl, Below.refl _ _⟩) ?_
  simp only [Act.put, sIT, sCZ, sCS]
  refine wpY_takeB 12 (.pointer (some ⟨g, 0, none⟩)) rfl rfl (by kernel_rfl) (fun w1 => by go_simp; exact ⟨rfl, Below.refl _ _⟩) ?_
  simp only [Act.put, sIT, sCZ, sCS]
  refine wpY_one rfl rfl (by kernel_rfl) (fun w1 h1 => ?_)
  replace hO := hO.trans (Oth.of_more h1)
  replace hb0 := hb0.below h1 hb0.lt
  clear h1
  have fz : w1.frozen? ⟨g, 0, none⟩ = false := hb0.free _
  have cz : w1.cell? ⟨g, 0, none⟩ = some (.int .u64 (a0 : Nat)) := hb0.cellIs rfl
  go_simp
  clear fz cz
  replace hO := hO.trans (Oth.set (i := 0) (.int .u64 (r0 : Nat)))
  replace hb0 := hb0.set' (i := 0) (v := .int .u64 (r0 : Nat)) (c' := #[.int .u64 (r0 : Nat), .int .u64 (a1 : Nat), .int .u64 (a2 : Nat)]) rfl
  generalize w1.setCell ⟨g, 0, none⟩ (.int .u64 (r0 : Nat)) = w2 at *
  clear wd
  refine wpY_takeB 14 (.int .u64 (c0 : Nat)) rfl rfl (by kernel_rfl) (fun w1 => by go_simp; exact ⟨rfl, Below.refl _ _⟩) ?_
  simp only [Act.put, sIT, sCZ, sCS]
  refine wpY_end (by kernel_rfl) (fun w1 h1 => ?_)
  replace hO := hO.trans (Oth.of_more h1)
  replace hb0 := hb0.below h1 hb0.lt
  clear h1
  go_upto_region 5 with (fail)
  clear w2
  obtain ⟨wo, hwo⟩ : ∃ wo, wo = w1 := ⟨_, rfl⟩
  rw [← hwo] at hb0 hO ⊢
  clear hwo
  refine wp_region_Y 14 16 rfl (by kernel_rfl) ?_
  replace hb0 := hb0.drew
  replace hO : Oth g w _ := hO.trans (Oth.of_more (Below.drew (Below.refl _ wo)))
  generalize wo.drew = wd at *
  clear wo
  refine wpY_takeB 0 (.pointer (some ⟨g, 0, none⟩)) rfl rfl (by kernel_rfl) (fun w1 => by go_simp; exact ⟨rfl, Below.refl _ _⟩) ?_
  simp only [Act.put, sIT, sCZ, sCS]
  refine wpY_takeB 1 (.func (.func 171) #[] #[]) rfl rfl (by kernel_rfl) (fun w1 => by go_simp; exact ⟨rfl, Below.refl _ _⟩) ?_
  simp only [Act.put, sIT, sCZ, sCS]
  refine wpY_takeB 2 (.pointer (some ⟨g, 0, none⟩)) rfl rfl (by kernel_rfl) (fun w1 => by go_simp; exact ⟨rfl, Below.refl _ _⟩) ?_
  simp only [Act.put, sIT, sCZ, sCS]
  refine wpY_takeB 3 (.pointer (some ⟨g, 0, none⟩)) rfl rfl (by kernel_rfl) (fun w1 => by go_simp; exact ⟨rfl, Below.refl _ _⟩) ?_
  simp only [Act.put, sIT, sCZ, sCS]
  refine wpY_takeB 4 (.pointer (some ⟨g, 1, none⟩)) rfl rfl (by kernel_rfl) (fun w1 => by go_simp; exact ⟨rfl, Below.refl _ _⟩) ?_
  simp only [Act.put, sIT, sCZ, sCS]
  refine wpY_takeA 5 (.int .u64 (a1 : Nat)) rfl rfl (by kernel_rfl) (by kernel_rfl) (fun w1 h1 => by have hc : w1.cell? ⟨g, 1, none⟩ = some (.int .u64 (a1 : Nat)) := (hb0.below h1 hb0.lt).cellIs rfl; go_simp; exact ⟨rfl, Below.refl _ _⟩) ?_
  simp only [Act.put, sIT, sCZ, sCS]
  refine wpY_takeB 6 (.int .u64 (hi : Nat)) rfl rfl (by kernel_rfl) (fun w1 => by go_simp; exact ⟨rfl, Below.refl _ _⟩) ?_
  simp only [Act.put, sIT, sCZ, sCS]
  refine wpY_takeB 7 (.int .u64 (c0 : Nat)) rfl rfl (by kernel_rfl) (fun w1 => by go_simp; exact ⟨rfl, Below.refl _ _⟩) ?_
  simp only [Act.put, sIT, sCZ, sCS]
  refine wpY_takeA 8 (.tuple #[.int .u64 (r1 : Nat), .int .u64 (c1 : Nat)]) rfl rfl (by kernel_rfl) (by kernel_rfl) (fun w1 h1 => by go_simp; rw [R1.out]; exact ⟨rfl, Below.refl _ _⟩) ?_
  simp only [Act.put, sIT, sCZ, sCS]
  refine wpY_takeB 9 (.tuple #[.int .u64 (r1 : Nat), .int .u64 (c1 : Nat)]) rfl rfl (by kernel_rfl) (fun w1 => by go_simp; exact ⟨rfl, Below.refl _ _⟩) ?_
  simp only [Act.put, sIT, sCZ, sCS]
  refine wpY_takeB 10 (.int .u64 (r1 : Nat)) rfl rfl (by kernel_rfl) (fun w1 => by go_simp; exact ⟨rfl, Below.refl _ _⟩) ?_
  simp only [Act.put, sIT, sCZ, sCS]
  refine wpY_takeB 11 (.int .u64 (c1 : Nat)) rfl rfl (by kernel_rfl) (fun w1 => by go_simp; exact ⟨rfl, Below.refl _ _⟩) ?_
  simp only [Act.put, sIT, sCZ, sCS]
  refine wpY_takeB 12 (.pointer (some ⟨g, 0, none⟩)) rfl rfl (by kernel_rfl) (fun w1 => by go_simp; exact ⟨rfl, Below.refl _ _⟩) ?_
  simp only [Act.put, sIT, sCZ, sCS]
  refine wpY_takeB 13 (.pointer (some ⟨g, 1, none⟩)) rfl rfl (by kernel_rfl) (fun w1 => by go_simp; exact ⟨rfl, Below.refl _ _⟩) ?_
  simp only [Act.put, sIT, sCZ, sCS]
  refine wpY_one rfl rfl (by kernel_rfl) (fun w1 h1 => ?_)
  replace hO := hO.trans (Oth.of_more h1)
  replace hb0 := hb0.below h1 hb0.lt
  clear h1
  have fz : w1.frozen? ⟨g, 1, none⟩ = false := hb0.free _
  have cz : w1.cell? ⟨g, 1, none⟩ = some (.int .u64 (a1 : Nat)) := hb0.cellIs rfl
  go_simp
  clear fz cz
  replace hO := hO.trans (Oth.set (i := 1) (.int .u64 (r1 : Nat)))
  replace hb0 := hb0.set' (i := 1) (v := .int .u64 (r1 : Nat)) (c' := #[.int .u64 (r0 : Nat), .int .u64 (r1 : Nat), .int .u64 (a2 : Nat)]) rfl
  generalize w1.setCell ⟨g, 1, none⟩ (.int .u64 (r1 : Nat)) = w2 at *
  clear wd
  refine wpY_takeB 15 (.int .u64 (c1 : Nat)) rfl rfl (by kernel_rfl) (fun w1 => by go_simp; exact ⟨rfl, Below.refl _ _⟩) ?_
  simp only [Act.put, sIT, sCZ, sCS]
  refine wpY_end (by kernel_rfl) (fun w1 h1 => ?_)
  replace hO := hO.trans (Oth.of_more h1)
  replace hb0 := hb0.below h1 hb0.lt
  clear h1
  go_upto_region 6 with (fail)
  clear w2
  obtain ⟨wo, hwo⟩ : ∃ wo, wo = w1 := ⟨_, rfl⟩
  rw [← hwo] at hb0 hO ⊢
  clear hwo
  refine wp_region_Y 13 14 rfl (by kernel_rfl) ?_
  replace hb0 := hb0.drew
  replace hO : Oth g w _ := hO.trans (Oth.of_more (Below.drew (Below.refl _ wo)))
  generalize wo.drew = wd at *
  clear wo
  refine wpY_takeB 0 (.pointer (some ⟨g, 0, none⟩)) rfl rfl (by kernel_rfl) (fun w1 => by go_simp; exact ⟨rfl, Below.refl _ _⟩) ?_
  simp only [Act.put, sIT, sCZ, sCS]
  refine wpY_takeB 1 (.func (.func 171) #[] #[]) rfl rfl (by kernel_rfl) (fun w1 => by go_simp; exact ⟨rfl, Below.refl _ _⟩) ?_
  simp only [Act.put, sIT, sCZ, sCS]
  refine wpY_takeB 2 (.pointer (some ⟨g, 0, none⟩)) rfl rfl (by kernel_rfl) (fun w1 => by go_simp; exact ⟨rfl, Below.refl _ _⟩) ?_
  simp only [Act.put, sIT, sCZ, sCS]
  refine wpY_takeB 3 (.pointer (some ⟨g, 0, none⟩)) rfl rfl (by kernel_rfl) (fun w1 => by go_simp; exact ⟨rfl, Below.refl _ _⟩) ?_
  simp only [Act.put, sIT, sCZ, sCS]
  refine wpY_takeB 4 (.pointer (some ⟨g, 2, none⟩)) rfl rfl (by kernel_rfl) (fun w1 => by go_simp; exact ⟨rfl, Below.refl _ _⟩) ?_
  simp only [Act.put, sIT, sCZ, sCS]
  refine wpY_takeA 5 (.int .u64 (a2 : Nat)) rfl rfl (by kernel_rfl) (by kernel_rfl) (fun w1 h1 => by have hc : w1.cell? ⟨g, 2, none⟩ = some (.int .u64 (a2 : Nat)) := (hb0.below h1 hb0.lt).cellIs rfl; go_simp; exact ⟨rfl, Below.refl _ _⟩) ?_
  simp only [Act.put, sIT, sCZ, sCS]
  refine wpY_takeB 6 (.int .u64 (c1 : Nat)) rfl rfl (by kernel_rfl) (fun w1 => by go_simp; exact ⟨rfl, Below.refl _ _⟩) ?_
  simp only [Act.put, sIT, sCZ, sCS]
  refine wpY_takeA 7 (.tuple #[.int .u64 (r2 : Nat), .int .u64 (c2 : Nat)]) rfl rfl (by kernel_rfl) (by kernel_rfl) (fun w1 h1 => by go_simp; rw [R2.out]; exact ⟨rfl, Below.refl _ _⟩) ?_
  simp only [Act.put, sIT, sCZ, sCS]
  refine wpY_takeB 8 (.tuple #[.int .u64 (r2 : Nat), .int .u64 (c2 : Nat)]) rfl rfl (by kernel_rfl) (fun w1 => by go_simp; exact ⟨rfl, Below.refl _ _⟩) ?_
  simp only [Act.put, sIT, sCZ, sCS]
  refine wpY_takeB 9 (.int .u64 (r2 : Nat)) rfl rfl (by kernel_rfl) (fun w1 => by go_simp; exact ⟨rfl, Below.refl _ _⟩) ?_
  simp only [Act.put, sIT, sCZ, sCS]
  refine wpY_takeB 10 (.int .u64 (c2 : Nat)) rfl rfl (by kernel_rfl) (fun w1 => by go_simp; exact ⟨rfl, Below.refl _ _⟩) ?_
  simp only [Act.put, sIT, sCZ, sCS]
  refine wpY_takeB 11 (.pointer (some ⟨g, 0, none⟩)) rfl rfl (by kernel_rfl) (fun w1 => by go_simp; exact ⟨rfl, Below.refl _ _⟩) ?_
  simp only [Act.put, sIT, sCZ, sCS]
  refine wpY_takeB 12 (.pointer (some ⟨g, 2, none⟩)) rfl rfl (by kernel_rfl) (fun w1 => by go_simp; exact ⟨rfl, Below.refl _ _⟩) ?_
  simp only [Act.put, sIT, sCZ, sCS]
  refine wpY_one rfl rfl (by kernel_rfl) (fun w1 h1 => ?_)
  replace hO := hO.trans (Oth.of_more h1)
  replace hb0 := hb0.below h1 hb0.lt
  clear h1
  have fz : w1.frozen? ⟨g, 2, none⟩ = false := hb0.free _
  have cz : w1.cell? ⟨g, 2, none⟩ = some (.int .u64 (a2 : Nat)) := hb0.cellIs rfl
  go_simp
  clear fz cz
  replace hO := hO.trans (Oth.set (i := 2) (.int .u64 (r2 : Nat)))
  replace hb0 := hb0.set' (i := 2) (v := .int .u64 (r2 : Nat)) (c' := #[.int .u64 (r0 : Nat), .int .u64 (r1 : Nat), .int .u64 (r2 : Nat)]) rfl
  generalize w1.setCell ⟨g, 2, none⟩ (.int .u64 (r2 : Nat)) = w2 at *
  clear wd
  refine wpY_end (by kernel_rfl) (fun w1 h1 => ?_)
  replace hO := hO.trans (Oth.of_more h1)
  replace hb0 := hb0.below h1 hb0.lt
  clear h1
  go_wp2_with (fail)
  go_end0
  exact ⟨rfl, hO, hb0⟩
end Go.Proofs.Ytkmelddejdikgaa
namespace Go.Proofs.Ytkmelddejdikgaa
open Go.RowKit PM Dt
theorem wideC_nat {T : Int} {a0 a1 a2 : Nat} (h0 : (a0 : Int) = T % 18446744073709551616) (h1 : (a1 : Int) = T / 18446744073709551616 % 18446744073709551616) (h2 : (a2 : Int) = T / 340282366920938463463374607431768211456 % 18446744073709551616) :
    wideC T = #[.int .u64 (a0 : Nat), .int .u64 (a1 : Nat), .int .u64 (a2 : Nat)] := by unfold wideC; rw [← h0, ← h1, ← h2]
theorem add_step (a x c : Nat) (ha : a < 18446744073709551616) (hx : x < 18446744073709551616) (hc : c ≤ 1) : ∃ r d : Nat, a + x + c = d * 18446744073709551616 + r ∧ r < 18446744073709551616 ∧ d ≤ 1 :=
  ⟨(a + x + c) % 18446744073709551616, (a + x + c) / 18446744073709551616, by omega, by omega, by omega⟩
theorem sub_step (a x c : Nat) (ha : a < 18446744073709551616) (hx : x < 18446744073709551616) (hc : c ≤ 1) : ∃ r d : Nat, a + d * 18446744073709551616 = r + x + c ∧ r < 18446744073709551616 ∧ d ≤ 1 := by
  rcases Nat.lt_or_ge a (x + c) with h | h
  · exact ⟨a + 18446744073709551616 - (x + c), 1, by omega, by omega, by omega⟩
  · exact ⟨a - (x + c), 0, by omega, by omega, by omega⟩
theorem add_int {a x c d r : Nat} (h : a + x + c = d * 18446744073709551616 + r) : (a : Int) + (x : Int) + (c : Int) = (d : Int) * 18446744073709551616 + (r : Int) := by omega
theorem sub_int {a x c d r : Nat} (h : a + d * 18446744073709551616 = r + x + c) : (a : Int) + (d : Int) * 18446744073709551616 = (r : Int) + (x : Int) + (c : Int) := by omega
theorem add_int0 {a x d r : Nat} (h : a + x + 0 = d * 18446744073709551616 + r) : (a : Int) + (x : Int) = (d : Int) * 18446744073709551616 + (r : Int) := by omega
theorem add_int2 {a c d r : Nat} (h : a + 0 + c = d * 18446744073709551616 + r) : (a : Int) + (c : Int) = (d : Int) * 18446744073709551616 + (r : Int) := by omega
theorem sub_int0 {a x d r : Nat} (h : a + d * 18446744073709551616 = r + x + 0) : (a : Int) + (d : Int) * 18446744073709551616 = (r : Int) + (x : Int) := by omega
theorem sub_int2 {a c d r : Nat} (h : a + d * 18446744073709551616 = r + 0 + c) : (a : Int) + (d : Int) * 18446744073709551616 = (r : Int) + (c : Int) := by omega
theorem nat_bd {r : Nat} (h : r < 18446744073709551616) : 0 ≤ (r : Int) ∧ (r : Int) < 18446744073709551616 := by omega
theorem word_of (T : Int) : ∃ a : Nat, (a : Int) = T % 18446744073709551616 ∧ a < 18446744073709551616 := ⟨(T % 18446744073709551616).toNat, by omega, by omega⟩
theorem two_words (hi lo : Nat) : ((hi * 18446744073709551616 + lo : Nat) : Int) = (hi : Int) * 18446744073709551616 + (lo : Int) := by omega
theorem add_r0 (a x r d : Nat) (ha : a < 18446744073709551616) (hx : x < 18446744073709551616) (h : a + x + 0 = d * 18446744073709551616 + r) (hr : r < 18446744073709551616) :
    Hid (∀ w1, (callFunc 138 #[.int .u64 a, .int .u64 x, .int .u64 0]).run Try.prog w1 = .ok (.value (.tuple #[.int .u64 (r : Int), .int .u64 (d : Int)])) w1) := by
  intro w1
  have h := add64c_run a x 0 r d ha hx (Nat.zero_le _) h hr w1
  rw [show ((0 : Nat) : Int) = 0 from rfl] at h
  exact h
theorem add_r2 (a c r d : Nat) (ha : a < 18446744073709551616) (hc : c ≤ 1) (h : a + 0 + c = d * 18446744073709551616 + r) (hr : r < 18446744073709551616) :
    Hid (∀ w1, (callFunc 138 #[.int .u64 a, .int .u64 0, .int .u64 c]).run Try.prog w1 = .ok (.value (.tuple #[.int .u64 (r : Int), .int .u64 (d : Int)])) w1) := by
  intro w1
  have h := add64c_run a 0 c r d ha (by omega) hc h hr w1
  rw [show ((0 : Nat) : Int) = 0 from rfl] at h
  exact h
theorem sub_r0 (a x r d : Nat) (ha : a < 18446744073709551616) (hx : x < 18446744073709551616) (h : a + d * 18446744073709551616 = r + x + 0) (hr : r < 18446744073709551616) :
    Hid (∀ w1, (callFunc 171 #[.int .u64 a, .int .u64 x, .int .u64 0]).run Try.prog w1 = .ok (.value (.tuple #[.int .u64 (r : Int), .int .u64 (d : Int)])) w1) := by
  intro w1
  have h := sub64_run a x 0 r d ha hx (Nat.zero_le _) h hr w1
  rw [show ((0 : Nat) : Int) = 0 from rfl] at h
  exact h
theorem sub_r2 (a c r d : Nat) (ha : a < 18446744073709551616) (hc : c ≤ 1) (h : a + d * 18446744073709551616 = r + 0 + c) (hr : r < 18446744073709551616) :
    Hid (∀ w1, (callFunc 171 #[.int .u64 a, .int .u64 0, .int .u64 c]).run Try.prog w1 = .ok (.value (.tuple #[.int .u64 (r : Int), .int .u64 (d : Int)])) w1) := by
  intro w1
  have h := sub64_run a 0 c r d ha (by omega) hc h hr w1
  rw [show ((0 : Nat) : Int) = 0 from rfl] at h
  exact h
theorem wide_any (g hi lo : Nat) (neg : Bool) (T : Int) (w : World) (hh : hi < 18446744073709551616) (hl : lo < 18446744073709551616) (hb0 : blk w g (wideC T) 185) :
    Calls Try.prog 123 #[.pointer (some ⟨g, 0, none⟩), .bool neg, .int .u64 hi, .int .u64 lo] w fun e w' => e = .returned (.tuple #[]) ∧ Oth g w w' ∧ blk w' g (wideC (T + sgn neg (hi * 18446744073709551616 + lo))) 185 := by
  obtain ⟨a0, h0, b0⟩ := word_of T
  obtain ⟨a1, h1, b1⟩ := word_of (T / 18446744073709551616)
  obtain ⟨a2, h2, b2⟩ := word_of (T / 340282366920938463463374607431768211456)
  rw [wideC_nat h0 h1 h2] at hb0
  cases neg
  · obtain ⟨r0, c0, e0, l0, k0⟩ := add_step a0 lo 0 b0 hl (Nat.zero_le _)
    obtain ⟨r1, c1, e1, l1, k1⟩ := add_step a1 hi c0 b1 hh k0
    obtain ⟨r2, c2, e2, l2, k2⟩ := add_step a2 0 c1 b2 (by decide) k1
    have i0 := add_int0 e0
    have i1 := add_int e1
    have i2 := add_int2 e2
    have key := wide_plus h0 h1 h2 i0 i1 i2 (nat_bd l0) (nat_bd l1) (nat_bd l2)
    refine (wideAdd_step g hi lo a0 a1 a2 r0 c0 r1 c1 r2 c2 w (add_r0 a0 lo r0 c0 b0 hl e0 l0) (fun w1 => add64c_run a1 hi c0 r1 c1 b1 hh k0 e1 l1 w1) (add_r2 a2 c1 r2 c2 b2 k1 e2 l2) hb0).mono fun e w' h => ⟨h.1, h.2.1, ?_⟩
    have e : T + sgn false (hi * 18446744073709551616 + lo) = T + ((hi : Int) * 18446744073709551616 + (lo : Int)) := congrArg (T + ·) (two_words hi lo)
    rw [e, wideC_nat key.1 key.2.1 key.2.2]; exact h.2.2
  · obtain ⟨r0, c0, e0, l0, k0⟩ := sub_step a0 lo 0 b0 hl (Nat.zero_le _)
    obtain ⟨r1, c1, e1, l1, k1⟩ := sub_step a1 hi c0 b1 hh k0
    obtain ⟨r2, c2, e2, l2, k2⟩ := sub_step a2 0 c1 b2 (by decide) k1
    have i0 := sub_int0 e0
    have i1 := sub_int e1
    have i2 := sub_int2 e2
    have key := wide_minus h0 h1 h2 i0 i1 i2 (nat_bd l0) (nat_bd l1) (nat_bd l2)
    refine (wideSub_step g hi lo a0 a1 a2 r0 c0 r1 c1 r2 c2 w (sub_r0 a0 lo r0 c0 b0 hl e0 l0) (fun w1 => sub64_run a1 hi c0 r1 c1 b1 hh k0 e1 l1 w1) (sub_r2 a2 c1 r2 c2 b2 k1 e2 l2) hb0).mono fun e w' h => ⟨h.1, h.2.1, ?_⟩
    have e : T + sgn true (hi * 18446744073709551616 + lo) = T - ((hi : Int) * 18446744073709551616 + (lo : Int)) := by
      unfold sgn; rw [if_pos rfl, two_words, Int.sub_eq_add_neg]
    rw [e, wideC_nat key.1 key.2.1 key.2.2]; exact h.2.2
end Go.Proofs.Ytkmelddejdikgaa
namespace Go.Proofs.Ytkmelddejdikgaa
open Go.RowKit PM Dt
def dotV (xs ys : List Int) : Int := if xs.length ≠ ys.length ∨ 8 < xs.length then 0 else fitV (rnd (dotS xs ys))
def dotE (xs ys : List Int) : Int := if xs.length ≠ ys.length ∨ 8 < xs.length then 2 else fitE (rnd (dotS xs ys))
theorem sign_same {x y : Int} (h : (decide (x < 0) == decide (y < 0)) = true) : x * y = ((x.natAbs * y.natAbs : Nat) : Int) := by
  rw [Int.natCast_mul]
  by_cases hx : x < 0 <;> by_cases hy : y < 0 <;> simp [hx, hy] at h
  · rw [show (x.natAbs : Int) = -x by omega, show (y.natAbs : Int) = -y by omega, Int.neg_mul_neg]
  · rw [show (x.natAbs : Int) = x by omega, show (y.natAbs : Int) = y by omega]
theorem sign_other {x y : Int} (h : (decide (x < 0) == decide (y < 0)) = false) : x * y = -((x.natAbs * y.natAbs : Nat) : Int) := by
  rw [Int.natCast_mul]
  by_cases hx : x < 0 <;> by_cases hy : y < 0 <;> simp [hx, hy] at h
  · rw [show (x.natAbs : Int) = -x by omega, show (y.natAbs : Int) = y by omega, Int.neg_mul, Int.neg_neg]
  · rw [show (x.natAbs : Int) = x by omega, show (y.natAbs : Int) = -y by omega, Int.mul_neg, Int.neg_neg]
theorem Ints.slice {w : World} {v : Value} {xs : List Int} (h : Ints w v xs) : ∃ a c, v = .slice a xs.length c := by
  rcases h with ⟨rfl, a, c, h⟩ | ⟨_, b, off, cap, h, _⟩
  · exact ⟨a, c, h⟩
  · exact ⟨_, _, h⟩
theorem Ints.at {w : World} {a : Option Addr} {n c : Nat} {xs : List Int} (h : Ints w (.slice a n c) xs) {k : Nat} (hk : k < n) :
    ∃ b off, a = some ⟨b, off, none⟩ ∧ b < w.heap.size ∧ w.cell? ⟨b, off + k, none⟩ = some (.int .i64 (xs.getD k 0)) := by
  rcases h with ⟨_, a', c', hh⟩ | ⟨_, b, off, cap, hh, hbw, hc⟩
  · cases hh; omega
  · cases hh; exact ⟨b, off, rfl, hbw, hc k hk⟩
theorem prod_le {x y : Int} (hx : I64 x) (hy : I64 y) : x.natAbs * y.natAbs ≤ 85070591730234615865843651857942052864 := by
  have h1 : x.natAbs ≤ 9223372036854775808 := by obtain ⟨_, _⟩ := hx; omega
  have h2 : y.natAbs ≤ 9223372036854775808 := by obtain ⟨_, _⟩ := hy; omega
  exact Nat.le_trans (Nat.mul_le_mul h1 h2) (by decide)
end Go.Proofs.Ytkmelddejdikgaa
namespace Go.Proofs.Ytkmelddejdikgaa
open Go.RowKit PM Dt
theorem Oth.into {g B : Nat} {a w w' : World} (h : Oth g w w') (hg : B ≤ g) (hB : Below B a w) (hs : B ≤ w.heap.size) : Below B a w' :=
  hB.trans ⟨h.1.os, h.1.tape, h.1.output, h.2.1, fun k hk => h.2.2 k (by omega) (by omega)⟩
theorem step_lo {k M : Nat} {S z : Int} (h1 : -(((k * M : Nat)) : Int) ≤ S) (h2 : -(M : Int) ≤ z) : -((((k + 1) * M : Nat)) : Int) ≤ S + z := by
  rw [Nat.succ_mul, Int.natCast_add]; generalize ((k * M : Nat) : Int) = q at *; omega
theorem step_hi {k M : Nat} {S z : Int} (h1 : S ≤ (((k * M : Nat)) : Int)) (h2 : z ≤ (M : Int)) : S + z ≤ ((((k + 1) * M : Nat)) : Int) := by
  rw [Nat.succ_mul, Int.natCast_add]; generalize ((k * M : Nat) : Int) = q at *; omega
theorem or_words (a0 a1 : Nat) (h0 : a0 < 18446744073709551616) (h1 : a1 < 18446744073709551616) :
    bits .or .u64 ((a0 : Int) / 1073741824) (IntKind.u64.wrap ((a1 : Int) * 17179869184)) = ((a0 / 1073741824 + a1 % 1073741824 * 17179869184 : Nat) : Int) := by
  have e1 : (a0 : Int) / 1073741824 = ((a0 / 1073741824 : Nat) : Int) := by omega
  have e2 : IntKind.u64.wrap ((a1 : Int) * 17179869184) = ((a1 % 1073741824 * 17179869184 : Nat) : Int) := by rw [IntKind.wrap_u64]; omega
  rw [e1, e2, bits_or_u64_nat _ _ (by omega) (by omega), Nat.or_comm]
  have e3 := Nat.two_pow_add_eq_or_of_lt (i := 34) (b := a0 / 1073741824) (by omega) (a1 % 1073741824)
  rw [show a1 % 1073741824 * 17179869184 = 2 ^ 34 * (a1 % 1073741824) by omega, ← e3, Nat.add_comm]
theorem or_wrap (a0 a1 : Nat) (h0 : a0 < 18446744073709551616) (h1 : a1 < 18446744073709551616) :
    wrap64 (bits .or .u64 ((a0 : Int) / 1073741824) (IntKind.u64.wrap ((a1 : Int) * 17179869184))) = ((a0 : Int) / 1073741824 + (a1 : Int) % 1073741824 * 17179869184 + 9223372036854775808) % 18446744073709551616 - 9223372036854775808 := by
  rw [or_words a0 a1 h0 h1]
  unfold wrap64; omega
theorem dot_words {T : Int} {a0 a1 a2 : Nat} (h0 : (a0 : Int) = T % 18446744073709551616) (h1 : (a1 : Int) = T / 18446744073709551616 % 18446744073709551616) (h2 : (a2 : Int) = T / 340282366920938463463374607431768211456 % 18446744073709551616)
    (b0 : a0 < 18446744073709551616) (b1 : a1 < 18446744073709551616) (b2 : a2 < 18446744073709551616) (t0 : -1569275433846670190958947355801916604025588861116008628224 ≤ T) (t1 : T < 1569275433846670190958947355801916604025588861116008628224) :
    ∃ N H A : Int, wrap64 (bits .or .u64 ((a0 : Int) / 1073741824) (IntKind.u64.wrap ((a1 : Int) * 17179869184))) = N ∧ wrap64 (bits .or .u64 ((a1 : Int) / 1073741824) (IntKind.u64.wrap ((a2 : Int) * 17179869184))) = H ∧ wrap64 (a2 : Int) = A ∧
      ((inI (T / 1073741824) = true ∧ N = T / 1073741824 ∧ (H != N / 9223372036854775808) = false ∧ (A / 1073741824 != N / 9223372036854775808) = false) ∨
       (inI (T / 1073741824) = false ∧ (H != N / 9223372036854775808) = true) ∨ (inI (T / 1073741824) = false ∧ (H != N / 9223372036854775808) = false ∧ (A / 1073741824 != N / 9223372036854775808) = true)) := by
  refine ⟨_, _, _, rfl, rfl, rfl, ?_⟩
  have key := wide_words (T := T) (w0 := a0) (w1 := a1) (w2 := a2) t0 t1 (nat_bd b0) (nat_bd b1) (nat_bd b2) (by omega) (or_wrap a0 a1 b0 b1) (or_wrap a1 a2 b1 b2) (s := wrap64 (a2 : Int) / 1073741824) (by unfold wrap64; rfl)
  generalize wrap64 (bits .or .u64 ((a0 : Int) / 1073741824) (IntKind.u64.wrap ((a1 : Int) * 17179869184))) = N at *
  generalize wrap64 (bits .or .u64 ((a1 : Int) / 1073741824) (IntKind.u64.wrap ((a2 : Int) * 17179869184))) = H at *
  generalize wrap64 (a2 : Int) = A at *
  generalize N / 9223372036854775808 = s at *
  rcases key with ⟨k1, k2, k3, k4⟩ | ⟨k1, k2⟩
  · exact Or.inl ⟨k1, k2, by simp [k3], by simp [k4]⟩
  · by_cases hs : H = s
    · refine Or.inr (Or.inr ⟨k1, by simp [hs], ?_⟩)
      rcases k2 with k2 | k2
      · exact absurd hs k2
      · simpa using k2
    · exact Or.inr (Or.inl ⟨k1, by simpa using hs⟩)
theorem dot_bounds {k : Nat} {S T : Int} (h8 : k ≤ 8) (l1 : -(((k * 85070591730234615865843651857942052864 : Nat)) : Int) ≤ S) (l2 : S ≤ (((k * 85070591730234615865843651857942052864 : Nat)) : Int)) (hT : T = 536870912 + S) :
    -1569275433846670190958947355801916604025588861116008628224 ≤ T ∧ T < 1569275433846670190958947355801916604025588861116008628224 := by
  have hb : k * 85070591730234615865843651857942052864 ≤ 8 * 85070591730234615865843651857942052864 := Nat.mul_le_mul_right _ h8
  obtain ⟨q, hq⟩ : ∃ q, q = k * 85070591730234615865843651857942052864 := ⟨_, rfl⟩
  rw [← hq] at hb l1 l2
  have hb2 : (q : Int) ≤ 680564733841876926926749214863536422912 := by
    have := Int.ofNat_le.2 hb
    exact Int.le_trans this (by decide)
  clear hb hq h8
  generalize (q : Int) = z at *
  omega
theorem wideC_start : #[Value.int .u64 536870912, .int .u64 0, .int .u64 0] = wideC 536870912 := by unfold wideC; rfl
set_option maxRecDepth 100000 in
set_option maxHeartbeats 4000000 in
theorem dot_good (xs ys : List Int) (va ua : Option Addr) (vc uc n : Nat) (w : World) (hv : Ints w (.slice va n vc) xs) (hu : Ints w (.slice ua n uc) ys) (hn : n = xs.length) (hm : n = ys.length) (h8 : n ≤ 8)
    (hx : ∀ k, k < xs.length → I64 (xs.getD k 0)) (hy : ∀ k, k < ys.length → I64 (ys.getD k 0)) :
    Calls Try.prog 60 #[.slice va n vc, .slice ua n uc] w fun e w' => e = .returned (.tuple #[.int .i64 (fitV (rnd (dotS xs ys))), .int .i64 (fitE (rnd (dotS xs ys)))]) ∧ Below w.heap.size w w' := by
  have hd0 : ((n : Int) != (n : Int)) = false := by simp
  have hd' : decide ((8 : Int) < (n : Int)) = false := decide_eq_false (by omega)
  have HN := Lib.hid hn
  have HM := Lib.hid hm
  have HV := Lib.hid hv
  have HU := Lib.hid hu
  have HX := Lib.hid hx
  have HY := Lib.hid hy
  clear hn hm hv hu hx hy
  go_enter Try.func60, Try.ntmps60
  go_upto_region 4 with (fail)
  have pw := blk.new w #[Value.int .u64 536870912, .int .u64 0, .int .u64 0] 185
  rw [wideC_start] at pw ⊢
  have hB : Below w.heap.size w (w.alloc (.cells (wideC 536870912) 185)) := by go_grown
  generalize w.alloc (.cells (wideC 536870912) 185) = w0 at *
  go_wp2_with (fail)
  go_loopg [26] n (fun g iv wr => ∃ k : Nat, g + k = n ∧ iv = .int .i64 k ∧ blk wr w.heap.size (wideC (536870912 + dotS (xs.take k) (ys.take k))) 185 ∧ Hid (-(((k * 85070591730234615865843651857942052864 : Nat)) : Int) ≤ dotS (xs.take k) (ys.take k)) ∧ Hid (dotS (xs.take k) (ys.take k) ≤ ((k * 85070591730234615865843651857942052864 : Nat) : Int)) ∧ Below w.heap.size w wr)
  case atStart => exact ⟨0, rfl, rfl, by rw [List.take_zero, dotS_nil]; exact pw, by show _ ≤ _; rw [List.take_zero, dotS_nil]; decide, by show _ ≤ _; rw [List.take_zero, dotS_nil]; decide, hB⟩
  case round =>
    clear pw hB
    obtain ⟨k, hk, rfl, pw, hlo, hhi, hB⟩ := hrel
    by_cases hkn : k < n
    · have hdk : decide ((k : Int) < (n : Int)) = true := decide_eq_true (by omega)
      have hdk' : decide (k < n) = true := decide_eq_true (by omega)
      obtain ⟨b, off, rfl, hbw, hcell⟩ := HV.out.at hkn
      obtain ⟨b2, off2, rfl, hbw2, hcell2⟩ := HU.out.at hkn
      have hI := HX.out k (by have := HN.out; omega)
      have hJ := HY.out k (by have := HM.out; omega)
      have hsx := dotS_take_succ xs ys k (by have := HN.out; omega) (by have := HM.out; omega)
      obtain ⟨x, hxx⟩ : ∃ x, x = xs.getD k 0 := ⟨_, rfl⟩
      obtain ⟨y, hyy⟩ : ∃ y, y = ys.getD k 0 := ⟨_, rfl⟩
      rw [← hxx] at hI hsx hcell
      rw [← hyy] at hJ hsx hcell2
      obtain ⟨A, hA⟩ : ∃ A, A = x.natAbs := ⟨_, rfl⟩
      obtain ⟨B, hBB⟩ : ∃ B, B = y.natAbs := ⟨_, rfl⟩
      obtain ⟨S, hS⟩ : ∃ S, S = dotS (xs.take k) (ys.take k) := ⟨_, rfl⟩
      rw [← hS] at hsx pw hlo hhi
      have HPL := Lib.hid (show A * B ≤ 85070591730234615865843651857942052864 by rw [hA, hBB]; exact prod_le hI hJ)
      obtain ⟨p, hp⟩ : ∃ p, p = A * B / 18446744073709551616 := ⟨_, rfl⟩
      obtain ⟨q, hq⟩ : ∃ q, q = A * B % 18446744073709551616 := ⟨_, rfl⟩
      have HP := Lib.hid hp
      have HQ := Lib.hid hq
      have HPQ := Lib.hid (show p * 18446744073709551616 + q = A * B by rw [hp, hq]; exact Nat.div_add_mod' _ _)
      have HQ64 := Lib.hid (show q < 18446744073709551616 by rw [hq]; exact Nat.mod_lt _ (by decide))
      have HP64 := Lib.hid (show p < 18446744073709551616 by
        rw [hp]; exact Nat.lt_of_le_of_lt (Nat.div_le_div_right HPL.out) (by decide))
      have HSX := Lib.hid hsx
      have HA := Lib.hid hA
      have HBB := Lib.hid hBB
      have HA64 := Lib.hid (show A < 18446744073709551616 by rw [hA]; have := hI.1; have := hI.2; omega)
      have HB64 := Lib.hid (show B < 18446744073709551616 by rw [hBB]; have := hJ.1; have := hJ.2; omega)
      have HI := Lib.hid hI
      have HJ := Lib.hid hJ
      have hw3 : IntKind.i64.wrap ((k : Int) + 1) = ((k + 1 : Nat) : Int) := by rw [IntKind.wrap_i64]; omega
      have cellX : Hid (∀ w1, Below w.heap.size w w1 → w1.cell? ⟨b, off + k, none⟩ = some (.int .i64 x)) := by
        intro w1 h1
        rw [h1.cell (p := ⟨b, off + k, none⟩) hbw]; exact hcell
      have cellY : Hid (∀ w1, Below w.heap.size w w1 → w1.cell? ⟨b2, off2 + k, none⟩ = some (.int .i64 y)) := by
        intro w1 h1
        rw [h1.cell (p := ⟨b2, off2 + k, none⟩) hbw2]; exact hcell2
      clear hI hJ hsx hcell hcell2 hxx hyy hA hBB hbw hbw2 hS hp hq
      go_upto_region 7 with (fail)
      refine wp_region_Y 99 16 rfl (by kernel_rfl) ?_
      replace pw := pw.drew
      replace hB : Below w.heap.size w wr.drew := hB.drew
      generalize wr.drew = wo at *
      refine wpY_takeB 0 (.slice (some ⟨b, off, none⟩) n vc) rfl rfl (by kernel_rfl) (fun w1 => by go_simp; exact ⟨rfl, Below.refl _ _⟩) ?_
      simp only [Act.put, sIT, sCZ, sCS]
      refine wpY_takeB 1 (.int .i64 k) rfl rfl (by kernel_rfl) (fun w1 => by go_simp; exact ⟨rfl, Below.refl _ _⟩) ?_
      simp only [Act.put, sIT, sCZ, sCS]
      refine wpY_takeB 2 (.pointer (some ⟨b, off + k, none⟩)) rfl rfl (by kernel_rfl) (fun w1 => by go_simp; exact ⟨rfl, Below.refl _ _⟩) ?_
      simp only [Act.put, sIT, sCZ, sCS]
      refine wpY_takeA 3 (.int .i64 x) rfl rfl (by kernel_rfl) (by kernel_rfl) (fun w1 h1 => by have hc := cellX.out w1 (hB.trans (h1.mono (by have := pw.lt; omega))); go_simp; exact ⟨rfl, Below.refl _ _⟩) ?_
      simp only [Act.put, sIT, sCZ, sCS]
      refine wpY_takeA 4 (.int .u64 (A : Nat)) rfl rfl (by kernel_rfl) (by kernel_rfl) (fun w1 h1 => ?_) ?_
      · go_simp
        refine (size_any x _ HI.out).mono ?_
        rintro e w2 ⟨rfl, rfl⟩
        exact ⟨by rw [← HA.out], Below.refl _ _⟩
      simp only [Act.put, sIT, sCZ, sCS]
      refine wpY_takeB 5 (.slice (some ⟨b2, off2, none⟩) n uc) rfl rfl (by kernel_rfl) (fun w1 => by go_simp; exact ⟨rfl, Below.refl _ _⟩) ?_
      simp only [Act.put, sIT, sCZ, sCS]
      refine wpY_takeB 6 (.int .i64 k) rfl rfl (by kernel_rfl) (fun w1 => by go_simp; exact ⟨rfl, Below.refl _ _⟩) ?_
      simp only [Act.put, sIT, sCZ, sCS]
      refine wpY_takeB 7 (.pointer (some ⟨b2, off2 + k, none⟩)) rfl rfl (by kernel_rfl) (fun w1 => by go_simp; exact ⟨rfl, Below.refl _ _⟩) ?_
      simp only [Act.put, sIT, sCZ, sCS]
      refine wpY_takeA 8 (.int .i64 y) rfl rfl (by kernel_rfl) (by kernel_rfl) (fun w1 h1 => by have hc := cellY.out w1 (hB.trans (h1.mono (by have := pw.lt; omega))); go_simp; exact ⟨rfl, Below.refl _ _⟩) ?_
      simp only [Act.put, sIT, sCZ, sCS]
      refine wpY_takeA 9 (.int .u64 (B : Nat)) rfl rfl (by kernel_rfl) (by kernel_rfl) (fun w1 h1 => ?_) ?_
      · go_simp
        refine (size_any y _ HJ.out).mono ?_
        rintro e w2 ⟨rfl, rfl⟩
        exact ⟨by rw [← HBB.out], Below.refl _ _⟩
      simp only [Act.put, sIT, sCZ, sCS]
      refine wpY_takeA 10 (.tuple #[.int .u64 (p : Nat), .int .u64 (q : Nat)]) rfl rfl (by kernel_rfl) (by kernel_rfl) (fun w1 h1 => ?_) ?_
      · go_simp
        refine (mul64_any A B _ HA64.out HB64.out).mono ?_
        rintro e w2 ⟨rfl, rfl⟩
        exact ⟨by rw [← HP.out, ← HQ.out], Below.refl _ _⟩
      simp only [Act.put, sIT, sCZ, sCS]
      refine wpY_takeB 11 (.tuple #[.int .u64 (p : Nat), .int .u64 (q : Nat)]) rfl rfl (by kernel_rfl) (fun w1 => by go_simp; exact ⟨rfl, Below.refl _ _⟩) ?_
      simp only [Act.put, sIT, sCZ, sCS]
      refine wpY_takeB 12 (.int .u64 (p : Nat)) rfl rfl (by kernel_rfl) (fun w1 => by go_simp; exact ⟨rfl, Below.refl _ _⟩) ?_
      simp only [Act.put, sIT, sCZ, sCS]
      refine wpY_takeB 13 (.int .u64 (q : Nat)) rfl rfl (by kernel_rfl) (fun w1 => by go_simp; exact ⟨rfl, Below.refl _ _⟩) ?_
      simp only [Act.put, sIT, sCZ, sCS]
      refine wpY_takeB 14 (.int .u64 (p : Nat)) rfl rfl (by kernel_rfl) (fun w1 => by go_simp; exact ⟨rfl, Below.refl _ _⟩) ?_
      simp only [Act.put, sIT, sCZ, sCS]
      refine wpY_takeB 15 (.int .u64 (q : Nat)) rfl rfl (by kernel_rfl) (fun w1 => by go_simp; exact ⟨rfl, Below.refl _ _⟩) ?_
      simp only [Act.put, sIT, sCZ, sCS]
      refine wpY_end (by kernel_rfl) (fun w3 h3 => ?_)
      replace hB := hB.trans (h3.mono (by have := pw.lt; omega))
      replace pw := pw.below h3 pw.lt
      clear h3
      go_upto_region 8 with (fail)
      refine wp_region_X 13 (by kernel_rfl) (by kernel_rfl) ?_
      replace pw := pw.drew
      replace hB : Below w.heap.size w w3.drew := hB.drew
      generalize w3.drew = wo at *
      refine wpX_take 0 (.slice (some ⟨b, off, none⟩) n vc) rfl rfl (by kernel_rfl) (fun w1 h1 => by go_simp; exact ⟨rfl, Below.refl _ _⟩) ?_
      simp only [Act.put, sIT, sCZ, sCS]
      refine wpX_take 1 (.int .i64 k) rfl rfl (by kernel_rfl) (fun w1 h1 => by go_simp; exact ⟨rfl, Below.refl _ _⟩) ?_
      simp only [Act.put, sIT, sCZ, sCS]
      refine wpX_take 2 (.pointer (some ⟨b, off + k, none⟩)) rfl rfl (by kernel_rfl) (fun w1 h1 => by go_simp; exact ⟨rfl, Below.refl _ _⟩) ?_
      simp only [Act.put, sIT, sCZ, sCS]
      refine wpX_take 3 (.int .i64 x) rfl rfl (by kernel_rfl) (fun w1 h1 => by have hc := cellX.out w1 (hB.trans (h1.mono (by have := pw.lt; omega))); go_simp; exact ⟨rfl, Below.refl _ _⟩) ?_
      simp only [Act.put, sIT, sCZ, sCS]
      refine wpX_take 4 (.bool (decide (x < 0))) rfl rfl (by kernel_rfl) (fun w1 h1 => by go_simp; exact ⟨rfl, Below.refl _ _⟩) ?_
      simp only [Act.put, sIT, sCZ, sCS]
      refine wpX_take 5 (.slice (some ⟨b2, off2, none⟩) n uc) rfl rfl (by kernel_rfl) (fun w1 h1 => by go_simp; exact ⟨rfl, Below.refl _ _⟩) ?_
      simp only [Act.put, sIT, sCZ, sCS]
      refine wpX_take 6 (.int .i64 k) rfl rfl (by kernel_rfl) (fun w1 h1 => by go_simp; exact ⟨rfl, Below.refl _ _⟩) ?_
      simp only [Act.put, sIT, sCZ, sCS]
      refine wpX_take 7 (.pointer (some ⟨b2, off2 + k, none⟩)) rfl rfl (by kernel_rfl) (fun w1 h1 => by go_simp; exact ⟨rfl, Below.refl _ _⟩) ?_
      simp only [Act.put, sIT, sCZ, sCS]
      refine wpX_take 8 (.int .i64 y) rfl rfl (by kernel_rfl) (fun w1 h1 => by have hc := cellY.out w1 (hB.trans (h1.mono (by have := pw.lt; omega))); go_simp; exact ⟨rfl, Below.refl _ _⟩) ?_
      simp only [Act.put, sIT, sCZ, sCS]
      refine wpX_take 9 (.bool (decide (y < 0))) rfl rfl (by kernel_rfl) (fun w1 h1 => by go_simp; exact ⟨rfl, Below.refl _ _⟩) ?_
      simp only [Act.put, sIT, sCZ, sCS]
      refine wpX_take 10 (.bool (decide (x < 0) != decide (y < 0))) rfl rfl (by kernel_rfl) (fun w1 h1 => by go_simp; exact ⟨rfl, Below.refl _ _⟩) ?_
      simp only [Act.put, sIT, sCZ, sCS]
      refine wpX_take 11 (.int .u64 (p : Nat)) rfl rfl (by kernel_rfl) (fun w1 h1 => by go_simp; exact ⟨rfl, Below.refl _ _⟩) ?_
      simp only [Act.put, sIT, sCZ, sCS]
      refine wpX_take 12 (.int .u64 (q : Nat)) rfl rfl (by kernel_rfl) (fun w1 h1 => by go_simp; exact ⟨rfl, Below.refl _ _⟩) ?_
      simp only [Act.put, sIT, sCZ, sCS]
      refine wpX_tail (by kernel_rfl) (fun wt ht => ?_)
      simp only [List.drop_succ_cons, List.drop_zero]
      replace hB := hB.trans (ht.mono (by have := pw.lt; omega))
      replace pw := pw.below ht pw.lt
      clear ht cellX cellY
      have HSG := Lib.hid (show x * y = sgn (decide (x < 0) != decide (y < 0)) (p * 18446744073709551616 + q) by
        rw [HPQ.out, HA.out, HBB.out]
        cases hs : (decide (x < 0) == decide (y < 0)) with
        | true => rw [sign_same hs]; rw [show (decide (x < 0) != decide (y < 0)) = false by rw [bne, hs]; rfl]; rfl
        | false => rw [sign_other hs]; rw [show (decide (x < 0) != decide (y < 0)) = true by rw [bne, hs]; rfl]; rfl)
      have HBD := Lib.hid (show -((85070591730234615865843651857942052864 : Nat) : Int) ≤ x * y ∧ x * y ≤ ((85070591730234615865843651857942052864 : Nat) : Int) by
        have h1 := HPL.out
        have h2 : (x * y).natAbs = A * B := by rw [Int.natAbs_mul, HA.out, HBB.out]
        rw [← h2] at h1
        generalize x * y = z at *
        omega)
      generalize (decide (x < 0) != decide (y < 0)) = neg at *
      go_wp2_with (go_at_call 123; refine (wide_any w.heap.size p q neg _ _ HP64.out HQ64.out pw).mono ?_; rintro e w4 ⟨rfl, hO, pw4⟩)
      replace hB := Oth.into hO (Nat.le_refl _) hB hB.size
      go_roundg (n - (k + 1))
      case rel =>
        refine ⟨k + 1, by omega, rfl, ?_, ?_, ?_, hB⟩
        · rw [HSX.out, HSG.out, ← Int.add_assoc]; exact pw4
        · show _ ≤ _
          rw [HSX.out]; exact step_lo hlo.out HBD.out.1
        · show _ ≤ _
          rw [HSX.out]; exact step_hi hhi.out HBD.out.2
      case measure => omega
    · obtain rfl : k = n := by omega
      have hdk : decide ((k : Int) < (k : Int)) = false := decide_eq_false (by omega)
      have hS : dotS (xs.take k) (ys.take k) = dotS xs ys := by
        rw [show xs.take k = xs by rw [HN.out, List.take_length], show ys.take k = ys by rw [HM.out, List.take_length]]
      rw [hS] at pw hlo hhi
      obtain ⟨T, hT⟩ : ∃ T, T = 536870912 + dotS xs ys := ⟨_, rfl⟩
      rw [← hT] at pw
      obtain ⟨a0, h0, b0⟩ := word_of T
      obtain ⟨a1, h1, b1⟩ := word_of (T / 18446744073709551616)
      obtain ⟨a2, h2, b2⟩ := word_of (T / 340282366920938463463374607431768211456)
      rw [wideC_nat h0 h1 h2] at pw
      have c0 : wr.cell? ⟨w.heap.size, 0, none⟩ = some (.int .u64 (a0 : Nat)) := pw.cellIs rfl
      have c1 : wr.cell? ⟨w.heap.size, 1, none⟩ = some (.int .u64 (a1 : Nat)) := pw.cellIs rfl
      have c2 : wr.cell? ⟨w.heap.size, 2, none⟩ = some (.int .u64 (a2 : Nat)) := pw.cellIs rfl
      obtain ⟨t0, t1⟩ := dot_bounds h8 hlo.out hhi.out hT
      obtain ⟨N, H, A, f1, f2, f3, key⟩ := dot_words h0 h1 h2 b0 b1 b2 t0 t1
      have HR : Hid (rnd (dotS xs ys) = T / 1073741824) := by show _ = _; unfold rnd; rw [hT, Int.add_comm]
      clear h0 h1 h2 b0 b1 b2 hT pw t0 t1 hlo hhi hS
      rcases key with ⟨k1, k2, d1, d2⟩ | ⟨k1, d1⟩ | ⟨k1, d1, d2⟩
      · have K1 := Lib.hid k1
        have K2 := Lib.hid k2
        clear k1 k2
        go_wp2_with (fail)
        go_ret2
        exact ⟨ret2I (by rw [HR.out, fitV_yes K1.out]; first | done | exact K2.out | (rw [f1]; exact K2.out)) (by rw [HR.out, fitE_yes K1.out]), hB⟩
      · have K1 := Lib.hid k1
        clear k1
        go_wp2_with (fail)
        go_ret2
        exact ⟨ret2I (by rw [HR.out, fitV_no K1.out]) (by rw [HR.out, fitE_no K1.out]), hB⟩
      · have K1 := Lib.hid k1
        clear k1
        go_wp2_with (fail)
        go_ret2
        exact ⟨ret2I (by rw [HR.out, fitV_no K1.out]) (by rw [HR.out, fitE_no K1.out]), hB⟩
set_option maxRecDepth 100000 in
set_option maxHeartbeats 1000000 in
theorem dot_any (xs ys : List Int) (v u : Value) (w : World) (hv : Ints w v xs) (hu : Ints w u ys) (hx : ∀ k, k < xs.length → I64 (xs.getD k 0)) (hy : ∀ k, k < ys.length → I64 (ys.getD k 0)) :
    Calls Try.prog 60 #[v, u] w fun e w' => e = .returned (.tuple #[.int .i64 (dotV xs ys), .int .i64 (dotE xs ys)]) ∧ Below w.heap.size w w' := by
  obtain ⟨va, vc, rfl⟩ := hv.slice
  obtain ⟨ua, uc, rfl⟩ := hu.slice
  unfold dotV dotE
  by_cases hbad : xs.length ≠ ys.length ∨ 8 < xs.length
  · rw [if_pos hbad, if_pos hbad]
    generalize xs.length = n at *
    generalize ys.length = m at *
    clear hv hu hx hy
    by_cases hnm : n = m
    · subst hnm
      have h8 : 8 < n := by omega
      have hd0 : ((n : Int) != (n : Int)) = false := by simp
      have hd' : decide ((8 : Int) < (n : Int)) = true := decide_eq_true (by omega)
      clear hbad h8
      go_enter Try.func60, Try.ntmps60
      go_wp2_with (fail)
      go_ret2
      exact ⟨rfl, Below.refl _ _⟩
    · have hd0 : ((n : Int) != (m : Int)) = true := by simp; omega
      clear hbad hnm
      go_enter Try.func60, Try.ntmps60
      go_wp2_with (fail)
      go_ret2
      exact ⟨rfl, Below.refl _ _⟩
  · rw [if_neg hbad, if_neg hbad]
    have e : ys.length = xs.length := by omega
    rw [e] at hu ⊢
    exact dot_good xs ys va ua vc uc xs.length w hv hu rfl e.symm (by omega) hx hy
end Go.Proofs.Ytkmelddejdikgaa
namespace Go.Proofs.Ytkmelddejdikgaa
open Go.RowKit PM Dt
def SR (w : World) (n l : Nat) (w' : World) : Prop := blk w' w.heap.size (bigC n) 176 ∧ blk w' (w.heap.size + 1) (bigC 0) 176 ∧ blk w' (w.heap.size + 1 + 1) (bigC l) 176 ∧ Below w.heap.size w w'
theorem SR.drew {w : World} {n l : Nat} {w' : World} (h : SR w n l w') : SR w n l w'.drew := ⟨h.1.drew, h.2.1.drew, h.2.2.1.drew, h.2.2.2.drew⟩
theorem SR.alloc {w : World} {n l : Nat} {w' : World} (h : SR w n l w') (o : Obj) : SR w n l (w'.alloc o) :=
  ⟨h.1.alloc _, h.2.1.alloc _, h.2.2.1.alloc _, h.2.2.2.alloc (by have := h.1.lt; omega) _⟩
theorem SR.below {w : World} {n l : Nat} {w' w2 : World} (h : SR w n l w') (hB : Below w'.heap.size w' w2) : SR w n l w2 :=
  ⟨h.1.below hB h.1.lt, h.2.1.below hB h.2.1.lt, h.2.2.1.below hB h.2.2.1.lt, h.2.2.2.trans (hB.mono (by have := h.1.lt; omega))⟩
theorem SR.row {w : World} {n l : Nat} {w' : World} (h : SR w n l w') {g : Nat} (hg : w.heap.size + 1 + 1 < g) (c : Array Value) : SR w n l (w'.setRow g c) :=
  ⟨h.1.rowOther (by omega) _, h.2.1.rowOther (by omega) _, h.2.2.1.rowOther (by omega) _, Below.setRow h.2.2.2 (by omega) _⟩
theorem SR.size {w : World} {n l : Nat} {w' : World} (h : SR w n l w') : w.heap.size + 1 + 1 < w'.heap.size := h.2.2.1.lt
end Go.Proofs.Ytkmelddejdikgaa
namespace Go.Proofs.Ytkmelddejdikgaa
open Go.RowKit PM Dt
end Go.Proofs.Ytkmelddejdikgaa
namespace Go.Proofs.Ytkmelddejdikgaa
open Go.RowKit PM Dt
def vfn (f : Nat → Int) : Array Value := #[.int .i64 (f 0), .int .i64 (f 1), .int .i64 (f 2)]
theorem vfn_size (f : Nat → Int) : (vfn f).size = 3 := rfl
theorem vfn_one (f : Nat → Int) : (vfn f).all (·.oneCell') = true := by simp [vfn, Value.oneCell']
theorem vfn_get (f : Nat → Int) {i : Nat} (h : i < 3) : (vfn f)[i]? = some (.int .i64 (f i)) := by
  have : i = 0 ∨ i = 1 ∨ i = 2 := by omega
  rcases this with rfl | rfl | rfl <;> rfl
theorem vfn_congr {f g : Nat → Int} (h : ∀ i, i < 3 → f i = g i) : vfn f = vfn g := by
  unfold vfn; rw [h 0 (by omega), h 1 (by omega), h 2 (by omega)]
theorem vfn_set {f g : Nat → Int} {i : Nat} {v : Int} (h : i < 3) (hx : v = g i) (hg : ∀ j, j < 3 → j ≠ i → f j = g j) : (vfn f).setIfInBounds i (.int .i64 v) = vfn g := by
  subst hx
  have : i = 0 ∨ i = 1 ∨ i = 2 := by omega
  rcases this with rfl | rfl | rfl
  · unfold vfn; rw [hg 1 (by omega) (by omega), hg 2 (by omega) (by omega)]; rfl
  · unfold vfn; rw [hg 0 (by omega) (by omega), hg 2 (by omega) (by omega)]; rfl
  · unfold vfn; rw [hg 0 (by omega) (by omega), hg 1 (by omega) (by omega)]; rfl
theorem zero_vec : #[Value.int .i64 0, .int .i64 0, .int .i64 0] = vfn (fun _ => 0) := rfl
def vb (a : Int) : Bool := decide (-1099511627776 ≤ a) && decide (a ≤ 1099511627776)
theorem vb_iff (a : Int) : vb a = true ↔ (-1099511627776 ≤ a ∧ a ≤ 1099511627776) := by unfold vb; rw [Bool.and_eq_true, decide_eq_true_eq, decide_eq_true_eq]
def okV (f : Nat → Int) : Bool := vb (f 0) && (vb (f 1) && vb (f 2))
theorem okV_iff (f : Nat → Int) : okV f = true ↔ ∀ i, i < 3 → vb (f i) = true := by
  unfold okV
  rw [Bool.and_eq_true, Bool.and_eq_true]
  constructor
  · rintro ⟨h0, h1, h2⟩ i hi
    have : i = 0 ∨ i = 1 ∨ i = 2 := by omega
    rcases this with rfl | rfl | rfl <;> assumption
  · intro h; exact ⟨h 0 (by omega), h 1 (by omega), h 2 (by omega)⟩
attribute [irreducible] vfn
theorem ints3 {w : World} {b : Nat} {f : Nat → Int} {t : TypeId} (h : blk w b (vfn f) t) : Ints w (.slice (some ⟨b, 0, none⟩) 3 3) [f 0, f 1, f 2] :=
  Or.inr ⟨by simp, b, 0, 3, rfl, h.lt, fun k hk => by
    have hk : k < 3 := hk
    rw [Nat.zero_add]
    refine (h.cellIs (vfn_get f hk)).trans ?_
    have : k = 0 ∨ k = 1 ∨ k = 2 := by omega
    rcases this with rfl | rfl | rfl <;> rfl⟩
theorem list_I3 {f : Nat → Int} (h : ∀ i, i < 3 → I64 (f i)) : ∀ k, k < [f 0, f 1, f 2].length → I64 ([f 0, f 1, f 2].getD k 0) := by
  intro k hk
  have hk : k < 3 := hk
  have : k = 0 ∨ k = 1 ∨ k = 2 := by omega
  rcases this with rfl | rfl | rfl
  · exact h 0 (by omega)
  · exact h 1 (by omega)
  · exact h 2 (by omega)
theorem results_vec {P : Program} {fn : Func} {p u : Tmp} {ty : TypeId} (h : fn.results = #[.cell p ty, .tmp u]) (tmps : Array Value) (w : World) (g : Nat) (t : TypeId) (cs : Array Value) (fr : Nat × Nat) (d : TypeDesc)
    (hp : tmps.getD p undef = .pointer (some ⟨g, 0, none⟩)) (hg : w.heap[g]? = some (.cells cs t fr))
    (hu : P.underlying ty = some d) (hd : (match d with | .struct _ | .array _ _ => true | _ => false) = true) (hi : (P.info? ty).map (·.size) = some cs.size) :
    (results fn tmps).run P w = .ok (.tuple #[.agg cs, tmps.getD u undef]) w := by
  rw [results_cell_tmp h]
  have hp' : tmps[p]?.getD undef = .pointer (some ⟨g, 0, none⟩) := by simpa using hp
  simp [hp', asAddr, run_loadVar_row w g t ty cs fr d hg hu hd hi, Result.andThen]
set_option maxRecDepth 100000 in
theorem within_any (a : Int) (w : World) : Calls Try.prog 137 #[.int .i64 a] w fun e w' => e = .returned (.bool (vb a)) ∧ w = w' := by
  by_cases h1 : -1099511627776 ≤ a
  · have d1 : decide (-1099511627776 ≤ a) = true := decide_eq_true h1
    by_cases h2 : a ≤ 1099511627776
    · have d2 : decide (a ≤ 1099511627776) = true := decide_eq_true h2
      have hv : vb a = true := by unfold vb; rw [d1, d2]; rfl
      rw [hv]
      clear h1 h2 hv
      go_enter Try.func137, Try.ntmps137
      go_wp2_with (fail)
      go_ret
      exact ⟨rfl, rfl⟩
    · have d2 : decide (a ≤ 1099511627776) = false := decide_eq_false h2
      have hv : vb a = false := by unfold vb; rw [d1, d2]; rfl
      rw [hv]
      clear h1 h2 hv
      go_enter Try.func137, Try.ntmps137
      go_wp2_with (fail)
      go_ret
      exact ⟨rfl, rfl⟩
  · have d1 : decide (-1099511627776 ≤ a) = false := decide_eq_false h1
    have hv : vb a = false := by unfold vb; rw [d1]; rfl
    rw [hv]
    clear h1 hv
    go_enter Try.func137, Try.ntmps137
    go_wp2_with (fail)
    go_ret
    exact ⟨rfl, rfl⟩
set_option maxRecDepth 100000 in
theorem valid_any (f : Nat → Int) (w : World) : Calls Try.prog 78 #[.agg (vfn f)] w fun e w' => e = .returned (.bool (okV f)) ∧ Below w.heap.size w w' := by
  have W0 := Lib.hid (fun w => within_any (f 0) w)
  have W1 := Lib.hid (fun w => within_any (f 1) w)
  have W2 := Lib.hid (fun w => within_any (f 2) w)
  have p : blk (w.alloc (.cells (vfn f) 31)) w.heap.size (vfn f) 31 := blk.new _ _ _
  have hB : Below w.heap.size w (w.alloc (.cells (vfn f) 31)) := by go_grown
  have c0 : (w.alloc (.cells (vfn f) 31)).cell? ⟨w.heap.size, 0, none⟩ = some (.int .i64 (f 0)) := p.cellIs (vfn_get f (by omega))
  have c1 : (w.alloc (.cells (vfn f) 31)).cell? ⟨w.heap.size, 1, none⟩ = some (.int .i64 (f 1)) := p.cellIs (vfn_get f (by omega))
  have c2 : (w.alloc (.cells (vfn f) 31)).cell? ⟨w.heap.size, 2, none⟩ = some (.int .i64 (f 2)) := p.cellIs (vfn_get f (by omega))
  unfold okV
  generalize vb (f 0) = b0 at *
  generalize vb (f 1) = b1 at *
  generalize vb (f 2) = b2 at *
  cases b0 <;> cases b1 <;> cases b2
  all_goals
    go_enter Try.func78, Try.ntmps78
    go_wp2_with (first
      | (go_at_call 137; with_reducible refine (W0.out _).mono ?_; rintro e w1 ⟨rfl, rfl⟩)
      | (go_at_call 137; with_reducible refine (W1.out _).mono ?_; rintro e w1 ⟨rfl, rfl⟩)
      | (go_at_call 137; with_reducible refine (W2.out _).mono ?_; rintro e w1 ⟨rfl, rfl⟩))
    go_ret
    exact ⟨rfl, hB⟩
end Go.Proofs.Ytkmelddejdikgaa
namespace Go.Proofs.Ytkmelddejdikgaa
open Go.RowKit PM Dt
theorem wpList_load_rowG {P : Program} {ops : Array Oper} {rest : List Oper} {o : Oper} {a : Act} {w : World} {Q : Exit → Act → World → Prop} (hw : Region.wanted o (yielded ops a.tmps) = true) (ty : TypeId) (x : Operand) (ho : o.op = .load ty x)
    (g : Nat) (hx : a.eval x = .pointer (some ⟨g, 0, none⟩)) (t : TypeId) (cs : Array Value) (fr : Nat × Nat) (d : TypeDesc) (hg : w.heap[g]? = some (.cells cs t fr))
    (hu : P.underlying ty = some d) (hd : (match d with | .struct _ | .array _ _ => true | _ => false) = true) (hi : (P.info? ty).map (·.size) = some cs.size)
    (h : wpList P ops Q rest (a.put o.dst (.agg cs)) w) : wpList P ops Q (o :: rest) a w :=
  wpList_step fun K hK => by rw [if_pos hw]; exact wp_load_row ty x ho g hx t cs fr d hg hu hd hi (hK _ _ h)
theorem vb_I {a : Int} (h : vb a = true) : I64 a := by
  have := (vb_iff a).1 h
  exact ⟨by omega, by omega⟩
theorem dotOK {S : Int} (h1 : -1237940039285380274899124224 ≤ S) (h2 : S ≤ 1237940039285380274899124224) : fitV (rnd S) = rnd S ∧ fitE (rnd S) = 0 := fit_of (by unfold rnd; omega) (by unfold rnd; omega)
theorem vb_prod {a b : Int} (ha : vb a = true) (hb : vb b = true) : -1208925819614629174706176 ≤ a * b ∧ a * b ≤ 1208925819614629174706176 := by
  have h1 := (vb_iff a).1 ha
  have h2 := (vb_iff b).1 hb
  have := bmul (P := 1099511627776) (R := 1099511627776) h1.1 h1.2 h2.1 h2.2
  exact this
def d3 (f g : Nat → Int) : Int := dotS [f 0, f 1, f 2] [g 0, g 1, g 2]
theorem d3_fit {f g : Nat → Int} (hf : okV f = true) (hg : okV g = true) : dotV [f 0, f 1, f 2] [g 0, g 1, g 2] = rnd (d3 f g) ∧ dotE [f 0, f 1, f 2] [g 0, g 1, g 2] = 0 := by
  have a0 := vb_prod ((okV_iff f).1 hf 0 (by omega)) ((okV_iff g).1 hg 0 (by omega))
  have a1 := vb_prod ((okV_iff f).1 hf 1 (by omega)) ((okV_iff g).1 hg 1 (by omega))
  have a2 := vb_prod ((okV_iff f).1 hf 2 (by omega)) ((okV_iff g).1 hg 2 (by omega))
  have e : dotS [f 0, f 1, f 2] [g 0, g 1, g 2] = f 0 * g 0 + (f 1 * g 1 + (f 2 * g 2 + 0)) := by rw [dotS_cons, dotS_cons, dotS_cons, dotS_nil]
  have := dotOK (S := dotS [f 0, f 1, f 2] [g 0, g 1, g 2]) (by rw [e]; omega) (by rw [e]; omega)
  unfold dotV dotE d3
  rw [if_neg (by simp), if_neg (by simp)]
  exact this
theorem okV_I {f : Nat → Int} (hf : okV f = true) : ∀ i, i < 3 → I64 (f i) := fun i hi => vb_I ((okV_iff f).1 hf i hi)
end Go.Proofs.Ytkmelddejdikgaa
namespace Go.Proofs.Ytkmelddejdikgaa
open Go.RowKit PM Dt
def goodE (x er : Nat → Int) : Bool := (er 0 == 0 && vb (x 0)) && ((er 1 == 0 && vb (x 1)) && (er 2 == 0 && vb (x 2)))
theorem goodE_iff (x er : Nat → Int) : goodE x er = true ↔ ∀ i, i < 3 → er i = 0 ∧ vb (x i) = true := by
  unfold goodE
  simp only [Bool.and_eq_true, beq_iff_eq]
  constructor
  · rintro ⟨h0, h1, h2⟩ i hi
    have : i = 0 ∨ i = 1 ∨ i = 2 := by omega
    rcases this with rfl | rfl | rfl <;> assumption
  · intro h; exact ⟨h 0 (by omega), h 1 (by omega), h 2 (by omega)⟩
theorem goodE_no {x er : Nat → Int} {i : Nat} (h : i < 3) (hb : ¬ (er i = 0 ∧ vb (x i) = true)) : goodE x er = false := by
  rw [Bool.eq_false_iff]; intro h2; exact hb ((goodE_iff x er).1 h2 i h)
def pre3 (x : Nat → Int) (k : Nat) : Nat → Int := fun j => if j < k then x j else 0
def eachF (x er : Nat → Int) : Nat → Int := if goodE x er then x else fun _ => 0
def eachE (x er : Nat → Int) : Int := if goodE x er then 0 else 7
set_option maxRecDepth 100000 in
theorem each_no (v : Value) (w : World) : Calls Try.prog 81 #[.bool false, v] w fun e w' => e = .returned (.tuple #[.agg (vfn fun _ => 0), .int .i64 2]) ∧ Below w.heap.size w w' := by
  go_enter Try.func81, Try.ntmps81
  go_upto_region 2 with (fail)
  rw [zero_vec]
  have p : blk ((w.alloc (.cells (vfn fun _ => 0) 31)).alloc (.cells (vfn fun _ => 0) 31)) w.heap.size (vfn fun _ => 0) 31 := (blk.new _ _ _).alloc _
  have q : blk ((w.alloc (.cells (vfn fun _ => 0) 31)).alloc (.cells (vfn fun _ => 0) 31)) (w.heap.size + 1) (vfn fun _ => 0) 31 := blk.new' (by simp)
  have hB : Below w.heap.size w ((w.alloc (.cells (vfn fun _ => 0) 31)).alloc (.cells (vfn fun _ => 0) 31)) := by go_grown
  generalize (w.alloc (.cells (vfn fun _ => 0) 31)).alloc (.cells (vfn fun _ => 0) 31) = w0 at *
  go_wp2_with (first | (refine wpList_load_rowG ?hw _ _ rfl _ rfl _ _ _ _ q Try.underlying31 rfl ?hi ?_; (case hw => (first | rfl | (simp [Region.wanted, yielded]; done))); (case hi => (rw [vfn_size]; kernel_rfl))) | (refine wpList_store_row rfl _ _ _ rfl _ rfl _ rfl _ _ p (by rw [vfn_size]; kernel_rfl) (by simp only [vfn_size]) (vfn_one _) ?_))
  refine bodyPost_ret (results_vec rfl _ _ _ _ _ _ _ rfl (p.row (vfn (fun _ => 0))) Try.underlying31 rfl (by rw [vfn_size]; kernel_rfl)) rfl ?_; refine ⟨?_, Below.setRow hB (Nat.le_refl _) _⟩
  rfl
end Go.Proofs.Ytkmelddejdikgaa
namespace Go.Proofs.Ytkmelddejdikgaa
open Go.RowKit PM Dt
def mulV (a b : Int) : Int := ratioV a b 1073741824
theorem fitV_I (q : Int) : I64 (fitV q) := by
  unfold fitV inI I64
  split
  · rename_i h; simp at h; omega
  · omega
def psum (y : Int) (t : Nat → Int) : Nat → Int
  | 0 => 0
  | k + 1 => mulV y (wrap64 (t (4 - k) - psum y t k))
attribute [irreducible] psum mulV
end Go.Proofs.Ytkmelddejdikgaa
namespace Go.Proofs.Ytkmelddejdikgaa
open Go.RowKit PM Dt
theorem list_J2 {a b : Int} (ha : I64 a) (hb : I64 b) : ∀ k, k < [a, b].length → I64 ([a, b].getD k 0) := by
  intro k hk
  rcases k with _ | _ | k
  · exact ha
  · exact hb
  · simp at hk; omega
theorem intsJ2 {w : World} {b : Nat} {a c : Int} {t : TypeId} (h : blk w b #[.int .i64 a, .int .i64 c] t) : Ints w (.slice (some ⟨b, 0, none⟩) 2 2) [a, c] :=
  Or.inr ⟨by simp, b, 0, 2, rfl, h.lt, fun k hk => by
    rcases k with _ | _ | k
    · exact h.cellIs rfl
    · exact h.cellIs rfl
    · simp at hk; omega⟩
theorem vb_neg {a : Int} (h : vb a = true) : vb (-a) = true := (vb_iff _).2 (by have := (vb_iff a).1 h; omega)
end Go.Proofs.Ytkmelddejdikgaa
namespace Go.Proofs.Ytkmelddejdikgaa
open Go.RowKit PM Dt
end Go.Proofs.Ytkmelddejdikgaa
namespace Go.Proofs.Ytkmelddejdikgaa
open Go.RowKit PM Dt
theorem good_zero (x : Nat → Int) : goodE x (fun _ => 0) = okV x := by unfold goodE okV; simp
def resF (x : Nat → Int) : Nat → Int := if okV x then x else fun _ => 0
def resE (x : Nat → Int) : Int := if okV x then 0 else 7
theorem each_res (x : Nat → Int) : eachF x (fun _ => 0) = resF x ∧ eachE x (fun _ => 0) = resE x := by
  unfold eachF eachE resF resE; rw [good_zero]; exact ⟨rfl, rfl⟩
end Go.Proofs.Ytkmelddejdikgaa
