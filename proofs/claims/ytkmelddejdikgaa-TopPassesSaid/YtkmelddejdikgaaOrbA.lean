/-
  Products of quaternions, in the package: the four components. Matrices of nine numbers: rows, and what it is that one is valid. The product of a matrix and a vector: Apply, in the package and in its specification. Columns of matrices, the transposed matrix, and its product with a vector: Back. The matrix of a quaternion, in the package. Orbits: times, periods, angles, sines and products.
-/
import Derived.Test.YtkmelddejdikgaaQuatB
import Derived.Test.YtkmelddejdikgaaBase
import Derived.Test.YtkmelddejdikgaaVecF
import Derived.Deep.MidRow
import Derived.Test.YtkmelddejdikgaaLawVec
import Derived.Test.YtkmelddejdikgaaSin
import Derived.Test.YtkmelddejdikgaaHyp
import Derived.Test.YtkmelddejdikgaaCirc
import Derived.Test.YtkmelddejdikgaaVUnitP
import Derived.Test.YtkmelddejdikgaaVUnit
set_option linter.unusedSimpArgs false
set_option linter.unusedVariables false
namespace Go.Proofs.Ytkmelddejdikgaa
open Go.RowKit PM Dt
/-- The product of two lists of four numbers, as an integer. -/
def d4 (f g : Nat → Int) : Int := dotS [f 0, f 1, f 2, f 3] [g 0, g 1, g 2, g 3]
/-- The signs of the terms, as cells. -/
def sgnA : Array Value := #[.int .i64 1, .int .i64 (-1), .int .i64 (-1), .int .i64 (-1), .int .i64 1, .int .i64 1, .int .i64 1, .int .i64 (-1), .int .i64 1, .int .i64 (-1), .int .i64 1, .int .i64 1, .int .i64 1, .int .i64 1, .int .i64 (-1), .int .i64 1]
attribute [irreducible] sgnA
end Go.Proofs.Ytkmelddejdikgaa
namespace Go.Proofs.Ytkmelddejdikgaa
open Go.RowKit PM Dt
/-- Nine numbers, as cells. -/
def mfn (g : Nat → Int) : Array Value := ((List.range 9).map fun i => Value.int .i64 (g i)).toArray
attribute [irreducible] mfn
end Go.Proofs.Ytkmelddejdikgaa
namespace Go.Proofs.Ytkmelddejdikgaa
open Go.RowKit PM Dt
end Go.Proofs.Ytkmelddejdikgaa
namespace Go.Proofs.Ytkmelddejdikgaa
open Go.RowKit PM Dt
end Go.Proofs.Ytkmelddejdikgaa
namespace Go.Proofs.Ytkmelddejdikgaa
open Go.RowKit PM Dt
/-- Is a number at most 2^41 in absolute value? -/
abbrev Wd (a : Int) : Prop := -2199023255552 ≤ a ∧ a ≤ 2199023255552
theorem wd_prod {a b : Int} (ha : Wd a) (hb : Wd b) : -4835703278458516698824704 ≤ a * b ∧ a * b ≤ 4835703278458516698824704 :=
  bmul (P := 2199023255552) (R := 2199023255552) ha.1 ha.2 hb.1 hb.2
theorem fit2 {a0 a1 b0 b1 : Int} (ha0 : Wd a0) (ha1 : Wd a1) (hb0 : Wd b0) (hb1 : Wd b1) :
    dotV [a0, a1] [b0, b1] = rnd (dotS [a0, a1] [b0, b1]) ∧ dotE [a0, a1] [b0, b1] = 0 := by
  have p0 := wd_prod ha0 hb0
  have p1 := wd_prod ha1 hb1
  have e : dotS [a0, a1] [b0, b1] = a0 * b0 + (a1 * b1 + 0) := by rw [dotS_cons, dotS_cons, dotS_nil]
  have := dotOK (S := dotS [a0, a1] [b0, b1]) (by rw [e]; omega) (by rw [e]; omega)
  unfold dotV dotE
  rw [if_neg (by simp), if_neg (by simp)]
  exact this
theorem ds2 (a0 a1 b0 b1 : Int) : dotS [a0, a1] [b0, b1] = a0 * b0 + (a1 * b1 + 0) := by rw [dotS_cons, dotS_cons, dotS_nil]
end Go.Proofs.Ytkmelddejdikgaa
namespace Go.Proofs.Ytkmelddejdikgaa
open Go.RowKit PM Dt
/-- An orbit's, a station's, a span's cells. -/
def ofn (f : Nat → Int) : Array Value := #[.int .i64 (f 0), .int .i64 (f 1), .int .i64 (f 2), .int .u32 (f 3), .int .u32 (f 4), .int .u32 (f 5), .int .u32 (f 6), .int .i64 (f 7)]
theorem ofn_size (f : Nat → Int) : (ofn f).size = 8 := rfl
theorem ofn_one (f : Nat → Int) : (ofn f).all (·.oneCell') = true := by simp [ofn, Value.oneCell']
def stn (f : Nat → Int) : Array Value := #[.int .u32 (f 0), .int .u32 (f 1), .int .i64 (f 2)]
theorem stn_size (f : Nat → Int) : (stn f).size = 3 := rfl
def U32 (x : Int) : Prop := 0 ≤ x ∧ x < 4294967296
/-- What an orbit's cells are. -/
def OO (f : Nat → Int) : Prop := (I64 (f 0) ∧ I64 (f 1) ∧ I64 (f 2) ∧ I64 (f 7)) ∧ (U32 (f 3) ∧ U32 (f 4) ∧ U32 (f 5) ∧ U32 (f 6))
def SS (g : Nat → Int) : Prop := U32 (g 0) ∧ U32 (g 1) ∧ I64 (g 2)
def sinI (x : Int) : Int := sinV x.toNat
def cosI (x : Int) : Int := sinV ((x.toNat + 1073741824) % 4294967296)
def okT (t : Int) : Bool := decide (0 ≤ t) && decide (t ≤ 1099511627776)
def okP (n : Int) : Bool := decide (2 ≤ n) && decide (n ≤ 1099511627776)
def okO (f : Nat → Int) : Bool := okP (f 0) && (okP (f 1) && (okP (f 2) && (decide (536870912 ≤ f 7) && decide (f 7 < 1073741824))))
def chkE (f : Nat → Int) : Int := if okO f then 0 else 2
def angV (t n : Int) : Int := IntKind.u32.wrap (ratioV (t % n) 4294967296 n)
theorem okT_iff (t : Int) : okT t = true ↔ 0 ≤ t ∧ t ≤ 1099511627776 := by unfold okT; rw [Bool.and_eq_true, decide_eq_true_eq, decide_eq_true_eq]
theorem okP_iff (t : Int) : okP t = true ↔ 2 ≤ t ∧ t ≤ 1099511627776 := by unfold okP; rw [Bool.and_eq_true, decide_eq_true_eq, decide_eq_true_eq]
theorem okO_iff (f : Nat → Int) : okO f = true ↔ (okP (f 0) = true ∧ okP (f 1) = true ∧ okP (f 2) = true) ∧ 536870912 ≤ f 7 ∧ f 7 < 1073741824 := by
  unfold okO
  rw [Bool.and_eq_true, Bool.and_eq_true, Bool.and_eq_true, Bool.and_eq_true, decide_eq_true_eq, decide_eq_true_eq]
  constructor
  · intro ⟨a, b, c, d, e⟩; exact ⟨⟨a, b, c⟩, d, e⟩
  · intro ⟨⟨a, b, c⟩, d, e⟩; exact ⟨a, b, c, d, e⟩
theorem sinI_any (x : Int) (w : World) (h : U32 x) : Calls Try.prog 133 #[.int .u32 x] w fun e w' => e = .returned (.int .i64 (sinI x)) ∧ Below w.heap.size w w' := by
  obtain ⟨k, rfl⟩ : ∃ k : Nat, x = k := ⟨x.toNat, by have := h.1; omega⟩
  exact sin_any k w (by have := h.2; omega)
theorem cosI_any (x : Int) (w : World) (h : U32 x) : Calls Try.prog 135 #[.int .u32 x] w fun e w' => e = .returned (.int .i64 (cosI x)) ∧ Below w.heap.size w w' := by
  obtain ⟨k, rfl⟩ : ∃ k : Nat, x = k := ⟨x.toNat, by have := h.1; omega⟩
  exact cos_any k w (by have := h.2; omega)
set_option maxRecDepth 100000 in
theorem time_any (t : Int) (w : World) : Calls Try.prog 129 #[.int .i64 t] w fun e w' => e = .returned (.bool (okT t)) ∧ w = w' := by
  obtain ⟨R, hR⟩ : ∃ R, okT t = R := ⟨_, rfl⟩
  rw [hR]
  unfold okT at hR
  have HR := Lib.hid hR
  clear hR
  by_cases h : 0 ≤ t
  · have d1 : decide (0 ≤ t) = true := decide_eq_true h
    by_cases h2 : t ≤ 1099511627776
    · have d2 : decide (t ≤ 1099511627776) = true := decide_eq_true h2
      go_enter Try.func129, Try.ntmps129
      go_wp2_with (fail)
      go_ret
      exact ⟨by rw [← HR.out, d1, d2]; rfl, rfl⟩
    · have d2 : decide (t ≤ 1099511627776) = false := decide_eq_false h2
      go_enter Try.func129, Try.ntmps129
      go_wp2_with (fail)
      go_ret
      exact ⟨by rw [← HR.out, d1, d2]; rfl, rfl⟩
  · have d1 : decide (0 ≤ t) = false := decide_eq_false h
    go_enter Try.func129, Try.ntmps129
    go_wp2_with (fail)
    go_ret
    exact ⟨by rw [← HR.out, d1]; rfl, rfl⟩
set_option maxRecDepth 100000 in
theorem period_any (t : Int) (w : World) : Calls Try.prog 175 #[.int .i64 t] w fun e w' => e = .returned (.bool (okP t)) ∧ w = w' := by
  obtain ⟨R, hR⟩ : ∃ R, okP t = R := ⟨_, rfl⟩
  rw [hR]
  unfold okP at hR
  have HR := Lib.hid hR
  clear hR
  by_cases h : 2 ≤ t
  · have d1 : decide (2 ≤ t) = true := decide_eq_true h
    by_cases h2 : t ≤ 1099511627776
    · have d2 : decide (t ≤ 1099511627776) = true := decide_eq_true h2
      go_enter Try.func175, Try.ntmps175
      go_wp2_with (fail)
      go_ret
      exact ⟨by rw [← HR.out, d1, d2]; rfl, rfl⟩
    · have d2 : decide (t ≤ 1099511627776) = false := decide_eq_false h2
      go_enter Try.func175, Try.ntmps175
      go_wp2_with (fail)
      go_ret
      exact ⟨by rw [← HR.out, d1, d2]; rfl, rfl⟩
  · have d1 : decide (2 ≤ t) = false := decide_eq_false h
    go_enter Try.func175, Try.ntmps175
    go_wp2_with (fail)
    go_ret
    exact ⟨by rw [← HR.out, d1]; rfl, rfl⟩
set_option maxRecDepth 100000 in
set_option maxHeartbeats 2000000 in
theorem angle_any (t n : Int) (w : World) (ht : okT t = true) (hn : okP n = true) : Calls Try.prog 132 #[.int .i64 t, .int .i64 n] w fun e w' => e = .returned (.int .u32 (angV t n)) ∧ Below w.heap.size w w' := by
  obtain ⟨t1, t2⟩ := (okT_iff t).1 ht
  obtain ⟨n1, n2⟩ := (okP_iff n).1 hn
  have e1 : t.tmod n = t % n := Int.tmod_eq_emod_of_nonneg t1
  have m1 := Int.emod_nonneg t (show n ≠ 0 by omega)
  have m2 := Int.emod_lt_of_pos t (show 0 < n by omega)
  have RA := Lib.hid (fun w => ratio_any (t % n) 4294967296 n w ⟨by omega, by omega⟩ ⟨by decide, by decide⟩ ⟨by omega, by omega⟩)
  obtain ⟨R, hR⟩ : ∃ R, angV t n = R := ⟨_, rfl⟩
  rw [hR]
  unfold angV at hR
  have w1 : IntKind.i64.wrap (t % n) = t % n := by rw [IntKind.wrap_i64]; omega
  have n0 : n ≠ 0 := by omega
  have nd : decide (n = 0) = false := decide_eq_false n0
  have nb : (n == 0) = false := by rw [beq_eq_false_iff_ne]; exact n0
  generalize t % n = m at *
  generalize ratioV m 4294967296 n = V at *
  generalize ratioE m 4294967296 n = E at *
  clear m1 m2 t1 t2 n1 n2 ht hn
  have hB := Below.refl w.heap.size w
  go_enter Try.func132, Try.ntmps132
  go_wp2_with (first
    | (go_at_call 58; with_reducible refine (RA.out _).mono ?_; rintro e w1 ⟨rfl, hb⟩; replace hB := hB.trans (hb.mono hB.size); clear hb))
  go_ret
  exact ⟨rfl, hB⟩
set_option maxRecDepth 100000 in
set_option maxHeartbeats 2000000 in
theorem omul_any (a b : Int) (w : World) (ha : I64 a) (hb : I64 b) : Calls Try.prog 136 #[.int .i64 a, .int .i64 b] w fun e w' => e = .returned (.int .i64 (mulV a b)) ∧ Below w.heap.size w w' := by
  have RA := Lib.hid (fun w => mul_any a b w ha hb)
  unfold mulV
  generalize ratioV a b 1073741824 = V at *
  generalize ratioE a b 1073741824 = E at *
  have hB := Below.refl w.heap.size w
  clear ha hb
  go_enter Try.func136, Try.ntmps136
  go_wp2_with (first
    | (go_at_call 177; with_reducible refine (RA.out _).mono ?_; rintro e w1 ⟨rfl, hb⟩; replace hB := hB.trans (hb.mono hB.size); clear hb))
  go_ret
  exact ⟨rfl, hB⟩
end Go.Proofs.Ytkmelddejdikgaa
