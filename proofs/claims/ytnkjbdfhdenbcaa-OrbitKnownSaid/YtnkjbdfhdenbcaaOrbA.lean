/-
  Orbits: times, periods, angles, sines and products.
-/
import Derived.Test.YtnkjbdfhdenbcaaSin
import Derived.Test.YtnkjbdfhdenbcaaHyp
import Derived.Test.YtnkjbdfhdenbcaaCirc
import Derived.Test.YtnkjbdfhdenbcaaQuatE
import Derived.Test.YtnkjbdfhdenbcaaVUnitP
import Derived.Test.YtnkjbdfhdenbcaaVUnitR
import Derived.Test.YtnkjbdfhdenbcaaVecF
set_option linter.unusedSimpArgs false
set_option linter.unusedVariables false
namespace Go.Proofs.Ytnkjbdfhdenbcaa
open Go.RowKit PM Dt
/-- An orbit's, a station's, a span's cells. -/
def ofn (f : Nat → Int) : Array Value := #[.int .i64 (f 0), .int .i64 (f 1), .int .i64 (f 2), .int .u32 (f 3), .int .u32 (f 4), .int .u32 (f 5), .int .u32 (f 6), .int .i64 (f 7)]
theorem ofn_size (f : Nat → Int) : (ofn f).size = 8 := rfl
theorem ofn_one (f : Nat → Int) : (ofn f).all (·.oneCell') = true := by simp [ofn, Value.oneCell']
def stn (f : Nat → Int) : Array Value := #[.int .u32 (f 0), .int .u32 (f 1), .int .i64 (f 2)]
theorem stn_size (f : Nat → Int) : (stn f).size = 3 := rfl
theorem stn_one (f : Nat → Int) : (stn f).all (·.oneCell') = true := by simp [stn, Value.oneCell']
def spn (f : Nat → Int) : Array Value := #[.int .i64 (f 0), .int .i64 (f 1)]
theorem spn_size (f : Nat → Int) : (spn f).size = 2 := rfl
theorem spn_one (f : Nat → Int) : (spn f).all (·.oneCell') = true := by simp [spn, Value.oneCell']
def U32 (x : Int) : Prop := 0 ≤ x ∧ x < 4294967296
/-- What an orbit's cells are. -/
def OO (f : Nat → Int) : Prop := (I64 (f 0) ∧ I64 (f 1) ∧ I64 (f 2) ∧ I64 (f 7)) ∧ (U32 (f 3) ∧ U32 (f 4) ∧ U32 (f 5) ∧ U32 (f 6))
def SS (g : Nat → Int) : Prop := U32 (g 0) ∧ U32 (g 1) ∧ I64 (g 2)
def sinI (x : Int) : Int := sinV x.toNat
def cosI (x : Int) : Int := sinV ((x.toNat + 1073741824) % 4294967296)
def okT (t : Int) : Bool := decide (0 ≤ t) && decide (t ≤ 1099511627776)
def okP (n : Int) : Bool := decide (2 ≤ n) && decide (n ≤ 1099511627776)
def okO (f : Nat → Int) : Bool := okP (f 0) && (okP (f 1) && (okP (f 2) && (decide (536870912 ≤ f 7) && decide (f 7 < 1073741824))))
def chkE (f : Nat → Int) : Int := if okO f then 0 else 2
def angV (t n : Int) : Int := IntKind.u32.wrap (ratioV (t % n) 4294967296 n)
theorem angV_U (t n : Int) : U32 (angV t n) := by unfold angV U32; rw [IntKind.wrap_u32]; omega
theorem okT_iff (t : Int) : okT t = true ↔ 0 ≤ t ∧ t ≤ 1099511627776 := by unfold okT; rw [Bool.and_eq_true, decide_eq_true_eq, decide_eq_true_eq]
theorem okP_iff (t : Int) : okP t = true ↔ 2 ≤ t ∧ t ≤ 1099511627776 := by unfold okP; rw [Bool.and_eq_true, decide_eq_true_eq, decide_eq_true_eq]
theorem okO_iff (f : Nat → Int) : okO f = true ↔ (okP (f 0) = true ∧ okP (f 1) = true ∧ okP (f 2) = true) ∧ 536870912 ≤ f 7 ∧ f 7 < 1073741824 := by
  unfold okO
  rw [Bool.and_eq_true, Bool.and_eq_true, Bool.and_eq_true, Bool.and_eq_true, decide_eq_true_eq, decide_eq_true_eq]
  constructor
  · intro ⟨a, b, c, d, e⟩; exact ⟨⟨a, b, c⟩, d, e⟩
  · intro ⟨⟨a, b, c⟩, d, e⟩; exact ⟨a, b, c, d, e⟩
theorem sinI_any (x : Int) (w : World) (h : U32 x) : Calls Try.prog 61 #[.int .u32 x] w fun e w' => e = .returned (.int .i64 (sinI x)) ∧ Below w.heap.size w w' := by
  obtain ⟨k, rfl⟩ : ∃ k : Nat, x = k := ⟨x.toNat, by have := h.1; omega⟩
  exact sin_any k w (by have := h.2; omega)
theorem cosI_any (x : Int) (w : World) (h : U32 x) : Calls Try.prog 63 #[.int .u32 x] w fun e w' => e = .returned (.int .i64 (cosI x)) ∧ Below w.heap.size w w' := by
  obtain ⟨k, rfl⟩ : ∃ k : Nat, x = k := ⟨x.toNat, by have := h.1; omega⟩
  exact cos_any k w (by have := h.2; omega)
set_option maxRecDepth 100000 in
theorem time_any (t : Int) (w : World) : Calls Try.prog 57 #[.int .i64 t] w fun e w' => e = .returned (.bool (okT t)) ∧ w = w' := by
  obtain ⟨R, hR⟩ : ∃ R, okT t = R := ⟨_, rfl⟩
  rw [hR]
  unfold okT at hR
  have HR := Lib.hid hR
  clear hR
  by_cases h : 0 ≤ t
  · have d1 : decide (0 ≤ t) = true := decide_eq_true h
    by_cases h2 : t ≤ 1099511627776
    · have d2 : decide (t ≤ 1099511627776) = true := decide_eq_true h2
      go_enter Try.func57, Try.ntmps57
      go_wp2_with (fail)
      go_ret
      exact ⟨by rw [← HR.out, d1, d2]; rfl, rfl⟩
    · have d2 : decide (t ≤ 1099511627776) = false := decide_eq_false h2
      go_enter Try.func57, Try.ntmps57
      go_wp2_with (fail)
      go_ret
      exact ⟨by rw [← HR.out, d1, d2]; rfl, rfl⟩
  · have d1 : decide (0 ≤ t) = false := decide_eq_false h
    go_enter Try.func57, Try.ntmps57
    go_wp2_with (fail)
    go_ret
    exact ⟨by rw [← HR.out, d1]; rfl, rfl⟩
set_option maxRecDepth 100000 in
theorem period_any (t : Int) (w : World) : Calls Try.prog 66 #[.int .i64 t] w fun e w' => e = .returned (.bool (okP t)) ∧ w = w' := by
  obtain ⟨R, hR⟩ : ∃ R, okP t = R := ⟨_, rfl⟩
  rw [hR]
  unfold okP at hR
  have HR := Lib.hid hR
  clear hR
  by_cases h : 2 ≤ t
  · have d1 : decide (2 ≤ t) = true := decide_eq_true h
    by_cases h2 : t ≤ 1099511627776
    · have d2 : decide (t ≤ 1099511627776) = true := decide_eq_true h2
      go_enter Try.func66, Try.ntmps66
      go_wp2_with (fail)
      go_ret
      exact ⟨by rw [← HR.out, d1, d2]; rfl, rfl⟩
    · have d2 : decide (t ≤ 1099511627776) = false := decide_eq_false h2
      go_enter Try.func66, Try.ntmps66
      go_wp2_with (fail)
      go_ret
      exact ⟨by rw [← HR.out, d1, d2]; rfl, rfl⟩
  · have d1 : decide (2 ≤ t) = false := decide_eq_false h
    go_enter Try.func66, Try.ntmps66
    go_wp2_with (fail)
    go_ret
    exact ⟨by rw [← HR.out, d1]; rfl, rfl⟩
set_option maxRecDepth 100000 in
set_option maxHeartbeats 2000000 in
theorem angle_any (t n : Int) (w : World) (ht : okT t = true) (hn : okP n = true) : Calls Try.prog 60 #[.int .i64 t, .int .i64 n] w fun e w' => e = .returned (.int .u32 (angV t n)) ∧ Below w.heap.size w w' := by
  obtain ⟨t1, t2⟩ := (okT_iff t).1 ht
  obtain ⟨n1, n2⟩ := (okP_iff n).1 hn
  have e1 : t.tmod n = t % n := Int.tmod_eq_emod_of_nonneg t1
  have m1 := Int.emod_nonneg t (show n ≠ 0 by omega)
  have m2 := Int.emod_lt_of_pos t (show 0 < n by omega)
  have RA := Lib.hid (fun w => ratio_any (t % n) 4294967296 n w ⟨by omega, by omega⟩ ⟨by decide, by decide⟩ ⟨by omega, by omega⟩)
  obtain ⟨R, hR⟩ : ∃ R, angV t n = R := ⟨_, rfl⟩
  rw [hR]
  unfold angV at hR
  have w1 : IntKind.i64.wrap (t % n) = t % n := by rw [IntKind.wrap_i64]; omega
  have n0 : n ≠ 0 := by omega
  have nd : decide (n = 0) = false := decide_eq_false n0
  have nb : (n == 0) = false := by rw [beq_eq_false_iff_ne]; exact n0
  generalize t % n = m at *
  generalize ratioV m 4294967296 n = V at *
  generalize ratioE m 4294967296 n = E at *
  clear m1 m2 t1 t2 n1 n2 ht hn
  have hB := Below.refl w.heap.size w
  go_enter Try.func60, Try.ntmps60
  go_wp2_with (first
    | (go_at_call 101; with_reducible refine (RA.out _).mono ?_; rintro e w1 ⟨rfl, hb⟩; replace hB := hB.trans (hb.mono hB.size); clear hb))
  go_ret
  exact ⟨rfl, hB⟩
set_option maxRecDepth 100000 in
set_option maxHeartbeats 2000000 in
theorem omul_any (a b : Int) (w : World) (ha : I64 a) (hb : I64 b) : Calls Try.prog 64 #[.int .i64 a, .int .i64 b] w fun e w' => e = .returned (.int .i64 (mulV a b)) ∧ Below w.heap.size w w' := by
  have RA := Lib.hid (fun w => mul_any a b w ha hb)
  unfold mulV
  generalize ratioV a b 1073741824 = V at *
  generalize ratioE a b 1073741824 = E at *
  have hB := Below.refl w.heap.size w
  clear ha hb
  go_enter Try.func64, Try.ntmps64
  go_wp2_with (first
    | (go_at_call 117; with_reducible refine (RA.out _).mono ?_; rintro e w1 ⟨rfl, hb⟩; replace hB := hB.trans (hb.mono hB.size); clear hb))
  go_ret
  exact ⟨rfl, hB⟩
end Go.Proofs.Ytnkjbdfhdenbcaa
