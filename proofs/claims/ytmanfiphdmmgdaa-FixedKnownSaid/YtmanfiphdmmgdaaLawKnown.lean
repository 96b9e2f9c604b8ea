/-
  FixedKnown returns true: the walk.
-/
import Derived.Test.YtmanfiphdmmgdaaCirc
import Derived.Test.YtmanfiphdmmgdaaFDot
set_option linter.unusedSimpArgs false
set_option linter.unusedVariables false
namespace Go.Proofs.Ytmanfiphdmmgdaa
open Go.RowKit PM Dt
theorem list_I2 {a b : Int} (ha : I64 a) (hb : I64 b) : ∀ k, k < [a, b].length → I64 ([a, b].getD k 0) := by
  intro k hk
  rcases k with _ | _ | k
  · exact ha
  · exact hb
  · simp at hk; omega
theorem list_I1 {a : Int} (ha : I64 a) : ∀ k, k < [a].length → I64 ([a].getD k 0) := by
  intro k hk
  rcases k with _ | k
  · exact ha
  · simp at hk
theorem ints2 {w : World} {b : Nat} {a c : Int} {t : TypeId} (h : blk w b #[.int .i64 a, .int .i64 c] t) : Ints w (.slice (some ⟨b, 0, none⟩) 2 2) [a, c] :=
  Or.inr ⟨by simp, b, 0, 2, rfl, h.lt, fun k hk => by
    rcases k with _ | _ | k
    · exact h.cellIs rfl
    · exact h.cellIs rfl
    · simp at hk; omega⟩
theorem ints1 {w : World} {b : Nat} {a : Int} {t : TypeId} (h : blk w b #[.int .i64 a] t) : Ints w (.slice (some ⟨b, 0, none⟩) 1 1) [a] :=
  Or.inr ⟨by simp, b, 0, 1, rfl, h.lt, fun k hk => by
    rcases k with _ | k
    · exact h.cellIs rfl
    · simp at hk⟩
theorem kn1v : ratioV 1073741824 5 1073741824 = 5 := by decide +kernel
theorem kn1e : ratioE 1073741824 5 1073741824 = 0 := by decide +kernel
theorem kn1 (w : World) : Calls Try.prog 43 #[.int .i64 1073741824, .int .i64 5] w fun e w' => e = .returned (.tuple #[.int .i64 5, .int .i64 0]) ∧ Below w.heap.size w w' :=
  (mul_any 1073741824 5 w (by unfold I64; omega) (by unfold I64; omega)).mono fun e w' h => ⟨h.1.trans (by rw [kn1v, kn1e]), h.2⟩
theorem kn2v : ratioV 1 536870912 1073741824 = 1 := by decide +kernel
theorem kn2e : ratioE 1 536870912 1073741824 = 0 := by decide +kernel
theorem kn2 (w : World) : Calls Try.prog 43 #[.int .i64 1, .int .i64 536870912] w fun e w' => e = .returned (.tuple #[.int .i64 1, .int .i64 0]) ∧ Below w.heap.size w w' :=
  (mul_any 1 536870912 w (by unfold I64; omega) (by unfold I64; omega)).mono fun e w' h => ⟨h.1.trans (by rw [kn2v, kn2e]), h.2⟩
theorem kn3v : ratioV (-1) 536870912 1073741824 = 0 := by decide +kernel
theorem kn3e : ratioE (-1) 536870912 1073741824 = 0 := by decide +kernel
theorem kn3 (w : World) : Calls Try.prog 43 #[.int .i64 (-1), .int .i64 536870912] w fun e w' => e = .returned (.tuple #[.int .i64 0, .int .i64 0]) ∧ Below w.heap.size w w' :=
  (mul_any (-1) 536870912 w (by unfold I64; omega) (by unfold I64; omega)).mono fun e w' h => ⟨h.1.trans (by rw [kn3v, kn3e]), h.2⟩
theorem kn4v : ratioV (-1) 1073741824 2147483648 = 0 := by decide +kernel
theorem kn4e : ratioE (-1) 1073741824 2147483648 = 0 := by decide +kernel
theorem kn4 (w : World) : Calls Try.prog 45 #[.int .i64 (-1), .int .i64 2147483648] w fun e w' => e = .returned (.tuple #[.int .i64 0, .int .i64 0]) ∧ Below w.heap.size w w' :=
  (div_any (-1) 2147483648 w (by unfold I64; omega) (by unfold I64; omega)).mono fun e w' h => ⟨h.1.trans (by rw [kn4v, kn4e]), h.2⟩
theorem kn5v : ratioV 5 1073741824 0 = 0 := by decide +kernel
theorem kn5e : ratioE 5 1073741824 0 = 2 := by decide +kernel
theorem kn5 (w : World) : Calls Try.prog 45 #[.int .i64 5, .int .i64 0] w fun e w' => e = .returned (.tuple #[.int .i64 0, .int .i64 2]) ∧ Below w.heap.size w w' :=
  (div_any 5 0 w (by unfold I64; omega) (by unfold I64; omega)).mono fun e w' h => ⟨h.1.trans (by rw [kn5v, kn5e]), h.2⟩
theorem kn6v : ratioV 7 3 2 = 11 := by decide +kernel
theorem kn6e : ratioE 7 3 2 = 0 := by decide +kernel
theorem kn6 (w : World) : Calls Try.prog 59 #[.int .i64 7, .int .i64 3, .int .i64 2] w fun e w' => e = .returned (.tuple #[.int .i64 11, .int .i64 0]) ∧ Below w.heap.size w w' :=
  (ratio_any 7 3 2 w (by unfold I64; omega) (by unfold I64; omega) (by unfold I64; omega)).mono fun e w' h => ⟨h.1.trans (by rw [kn6v, kn6e]), h.2⟩
theorem kn7v : ratioV (-7) 3 2 = (-10) := by decide +kernel
theorem kn7e : ratioE (-7) 3 2 = 0 := by decide +kernel
theorem kn7 (w : World) : Calls Try.prog 59 #[.int .i64 (-7), .int .i64 3, .int .i64 2] w fun e w' => e = .returned (.tuple #[.int .i64 (-10), .int .i64 0]) ∧ Below w.heap.size w w' :=
  (ratio_any (-7) 3 2 w (by unfold I64; omega) (by unfold I64; omega) (by unfold I64; omega)).mono fun e w' h => ⟨h.1.trans (by rw [kn7v, kn7e]), h.2⟩
theorem kn8v : ratioV 4611686018427387904 2 1 = 0 := by decide +kernel
theorem kn8e : ratioE 4611686018427387904 2 1 = 7 := by decide +kernel
theorem kn8 (w : World) : Calls Try.prog 59 #[.int .i64 4611686018427387904, .int .i64 2, .int .i64 1] w fun e w' => e = .returned (.tuple #[.int .i64 0, .int .i64 7]) ∧ Below w.heap.size w w' :=
  (ratio_any 4611686018427387904 2 1 w (by unfold I64; omega) (by unfold I64; omega) (by unfold I64; omega)).mono fun e w' h => ⟨h.1.trans (by rw [kn8v, kn8e]), h.2⟩
theorem kn9 (w : World) : Calls Try.prog 48 #[.int .i64 1073741824] w fun e w' => e = .returned (.tuple #[.int .i64 1073741824, .int .i64 0]) ∧ w = w' :=
  (sqrt_any 1073741824 w (by unfold I64; omega)).mono fun e w' h => ⟨h.1.trans (by rw [if_neg (by decide), if_neg (by decide), show isqrt ((1073741824 : Int).natAbs * 1073741824) = 1073741824 from isqrt_eq (by decide) (by decide) (by decide)]; rfl), h.2⟩
theorem kn10 (w : World) : Calls Try.prog 48 #[.int .i64 2] w fun e w' => e = .returned (.tuple #[.int .i64 46340, .int .i64 0]) ∧ w = w' :=
  (sqrt_any 2 w (by unfold I64; omega)).mono fun e w' h => ⟨h.1.trans (by rw [if_neg (by decide), if_neg (by decide), show isqrt ((2 : Int).natAbs * 1073741824) = 46340 from isqrt_eq (by decide) (by decide) (by decide)]; rfl), h.2⟩
theorem kn11q : hypQ [4611686018427387904, 4611686018427387904, 4611686018427387904, 4611686018427387904] = 9223372036854775808 := by
  have h : sqs [4611686018427387904, 4611686018427387904, 4611686018427387904, 4611686018427387904] = 85070591730234615865843651857942052864 := by rw [sqs_cons, sqs_cons, sqs_cons, sqs_cons, sqs_nil]; decide
  unfold hypQ; rw [h, show isqrt 85070591730234615865843651857942052864 = 9223372036854775808 from isqrt_eq (by decide) (by decide) (by decide)]; rfl
theorem kn11 (b : Nat) (w : World) (h : blk w b #[.int .i64 4611686018427387904, .int .i64 4611686018427387904, .int .i64 4611686018427387904, .int .i64 4611686018427387904] 2) : Calls Try.prog 50 #[.slice (some ⟨b, 0, none⟩) 4 4] w fun e w' => e = .returned (.tuple #[.int .i64 0, .int .i64 7]) ∧ w = w' :=
  (hypot_any [4611686018427387904, 4611686018427387904, 4611686018427387904, 4611686018427387904] _ w (Or.inr ⟨by decide, b, 0, 4, rfl, h.lt, fun k hk => by
    rcases k with _ | _ | _ | _ | k
    · exact h.cellIs rfl
    · exact h.cellIs rfl
    · exact h.cellIs rfl
    · exact h.cellIs rfl
    · simp at hk; omega⟩) (fun k hk => by
    rcases k with _ | _ | _ | _ | k
    · unfold I64; decide
    · unfold I64; decide
    · unfold I64; decide
    · unfold I64; decide
    · simp at hk; omega)).mono fun e w' h => ⟨h.1.trans (by rw [if_neg (by decide), if_neg (by decide), kn11q]; rfl), h.2⟩
theorem kn12v : dotV [1073741824, 2] [3, 1073741824] = 5 := by
  unfold dotV; rw [if_neg (by decide), dotS_cons, dotS_cons, dotS_nil]; decide +kernel
theorem kn12e : dotE [1073741824, 2] [3, 1073741824] = 0 := by
  unfold dotE; rw [if_neg (by decide), dotS_cons, dotS_cons, dotS_nil]; decide +kernel
theorem kn12 (b c : Nat) (w : World) (h1 : blk w b #[.int .i64 1073741824, .int .i64 2] 2) (h2 : blk w c #[.int .i64 3, .int .i64 1073741824] 2) :
    Calls Try.prog 60 #[.slice (some ⟨b, 0, none⟩) 2 2, .slice (some ⟨c, 0, none⟩) 2 2] w fun e w' => e = .returned (.tuple #[.int .i64 5, .int .i64 0]) ∧ Below w.heap.size w w' :=
  (dot_any [1073741824, 2] [3, 1073741824] _ _ w (ints2 h1) (ints2 h2) (list_I2 (by unfold I64; omega) (by unfold I64; omega)) (list_I2 (by unfold I64; omega) (by unfold I64; omega))).mono fun e w' h => ⟨h.1.trans (by rw [kn12v, kn12e]), h.2⟩
theorem kn13 (b : Nat) (w : World) (h1 : blk w b #[.int .i64 1] 2) :
    Calls Try.prog 60 #[.slice (some ⟨b, 0, none⟩) 1 1, .slice none 0 0] w fun e w' => e = .returned (.tuple #[.int .i64 0, .int .i64 2]) ∧ Below w.heap.size w w' :=
  (dot_any [1] [] _ _ w (ints1 h1) (Or.inl ⟨rfl, none, 0, rfl⟩) (list_I1 (by unfold I64; omega)) (fun k hk => by simp at hk)).mono fun e w' h => ⟨h.1.trans (by unfold dotV dotE; rw [if_pos (Or.inl (by decide)), if_pos (Or.inl (by decide))]), h.2⟩
theorem kn14 (w : World) : Calls Try.prog 48 #[.int .i64 (-1)] w fun e w' => e = .returned (.tuple #[.int .i64 0, .int .i64 2]) ∧ w = w' :=
  (sqrt_any (-1) w (by unfold I64; omega)).mono fun e w' h => ⟨h.1.trans (by rw [if_pos (by decide), if_pos (by decide)]), h.2⟩
theorem kn_sin0 (w : World) : Calls Try.prog 46 #[.int .u32 0] w fun e w' => e = .returned (.int .i64 0) ∧ Below w.heap.size w w' :=
  (sin_any 0 w (by omega)).mono fun e w' h => ⟨h.1.trans (by rw [show sinV 0 = 0 from (sinV_of (q := 0) (r := 0) (by omega) (by omega)).trans waveV_zero]), h.2⟩
theorem kn_sin2 (w : World) : Calls Try.prog 46 #[.int .u32 2147483648] w fun e w' => e = .returned (.int .i64 0) ∧ Below w.heap.size w w' :=
  (sin_any 2147483648 w (by omega)).mono fun e w' h => ⟨h.1.trans (by rw [show sinV 2147483648 = 0 from (sinV_of (q := 2) (r := 0) (by omega) (by omega)).trans ((sinQ2 (by omega)).trans (by rw [show ((0 : Nat) : Int) = 0 from rfl, waveV_zero]; rfl))]), h.2⟩
theorem kn_cos0 (w : World) : Calls Try.prog 47 #[.int .u32 0] w fun e w' => e = .returned (.int .i64 1073741824) ∧ Below w.heap.size w w' :=
  (cos_any 0 w (by omega)).mono fun e w' h => ⟨h.1.trans (by rw [show (0 + 1073741824) % 4294967296 = 1073741824 from rfl, awk7]), h.2⟩
theorem kn_wave : waveV 1073741824 = 1073741824 := by
  have h := awk7
  rw [sinV_of (t := 1073741824) (q := 1) (r := 0) (by omega) (by omega), sinQ1] at h
  exact h
theorem kn_cos2 (w : World) : Calls Try.prog 47 #[.int .u32 2147483648] w fun e w' => e = .returned (.int .i64 (-1073741824)) ∧ Below w.heap.size w w' :=
  (cos_any 2147483648 w (by omega)).mono fun e w' h => ⟨h.1.trans (by rw [show (2147483648 + 1073741824) % 4294967296 = 3221225472 from rfl, sinV_of (t := 3221225472) (q := 3) (r := 0) (by omega) (by omega), sinQ3 (by omega), show (1073741824 : Int) - ((0 : Nat) : Int) = 1073741824 from rfl, kn_wave]), h.2⟩
set_option maxRecDepth 100000 in
set_option maxHeartbeats 2000000 in
theorem known_any (w : World) : Calls Try.prog 13 #[] w fun e w' => e = .returned (.bool true) ∧ Below w.heap.size w w' := by
  have hB : More w w := Below.refl _ _
  go_enter Try.func13, Try.ntmps13
  go_upto_region 2 with (go_at_call 43; refine (kn1 _).mono ?_; rintro e w0 ⟨rfl, hb⟩; replace hB := More.trans hB hb; clear hb)
  go_upto_region 3 with (go_at_call 43; refine (kn2 _).mono ?_; rintro e w1 ⟨rfl, hb⟩; replace hB := More.trans hB hb; clear hb)
  go_upto_region 4 with (go_at_call 43; refine (kn3 _).mono ?_; rintro e w2 ⟨rfl, hb⟩; replace hB := More.trans hB hb; clear hb)
  go_upto_region 5 with (go_at_call 45; refine (kn4 _).mono ?_; rintro e w3 ⟨rfl, hb⟩; replace hB := More.trans hB hb; clear hb)
  go_upto_region 6 with (go_at_call 45; refine (kn5 _).mono ?_; rintro e w4 ⟨rfl, hb⟩; replace hB := More.trans hB hb; clear hb)
  go_upto_region 7 with (go_at_call 59; refine (kn6 _).mono ?_; rintro e w5 ⟨rfl, hb⟩; replace hB := More.trans hB hb; clear hb)
  go_upto_region 8 with (go_at_call 59; refine (kn7 _).mono ?_; rintro e w6 ⟨rfl, hb⟩; replace hB := More.trans hB hb; clear hb)
  go_upto_region 9 with (go_at_call 59; refine (kn8 _).mono ?_; rintro e w7 ⟨rfl, hb⟩; replace hB := More.trans hB hb; clear hb)
  go_upto_region 10 with (go_at_call 48; refine (kn9 _).mono ?_; rintro e w8 ⟨rfl, rfl⟩)
  go_upto_region 11 with (go_at_call 48; refine (kn10 _).mono ?_; rintro e w9 ⟨rfl, rfl⟩)
  go_upto_region 12 with (go_at_call 50; refine (kn11 _ _ (blk.new w7 _ _)).mono ?_; rintro e w10 ⟨rfl, rfl⟩; have hb : More w7 (w7.alloc (.cells #[.int .i64 4611686018427387904, .int .i64 4611686018427387904, .int .i64 4611686018427387904, .int .i64 4611686018427387904] 2)) := Below.alloc (Below.refl _ _) (Nat.le_refl _) _; replace hB := More.trans hB hb; clear hb)
  generalize w7.alloc (.cells #[.int .i64 4611686018427387904, .int .i64 4611686018427387904, .int .i64 4611686018427387904, .int .i64 4611686018427387904] 2) = w10 at *
  go_upto_region 13 with (go_at_call 60; refine (kn12 _ _ _ ((blk.new w10 _ _).alloc _) (blk.new' (by simp))).mono ?_; rintro e w11 ⟨rfl, hb2⟩; have hb : More w10 ((w10.alloc (.cells #[.int .i64 1073741824, .int .i64 2] 2)).alloc (.cells #[.int .i64 3, .int .i64 1073741824] 2)) := Below.alloc (Below.alloc (Below.refl _ _) (Nat.le_refl _) _) (by simp) _; replace hB := More.trans (More.trans hB hb) hb2; clear hb hb2)
  go_upto_region 14 with (go_at_call 60; refine (kn13 _ _ (blk.new w11 _ _)).mono ?_; rintro e w12 ⟨rfl, hb2⟩; have hb : More w11 (w11.alloc (.cells #[.int .i64 1] 2)) := Below.alloc (Below.refl _ _) (Nat.le_refl _) _; replace hB := More.trans (More.trans hB hb) hb2; clear hb hb2)
  go_upto_region 15 with (go_at_call 48; refine (kn14 _).mono ?_; rintro e w13 ⟨rfl, rfl⟩)
  go_wp2_with (first
    | (go_at_call 61; refine (clamp_any _ _ _ _).mono ?_; rintro e wx ⟨rfl, rfl⟩)
    | (go_at_call 46; with_reducible refine (kn_sin0 _).mono ?_; rintro e wx ⟨rfl, hb⟩; replace hB := More.trans hB hb; clear hb)
    | (go_at_call 46; with_reducible refine (kn_sin2 _).mono ?_; rintro e wx ⟨rfl, hb⟩; replace hB := More.trans hB hb; clear hb)
    | (go_at_call 47; with_reducible refine (kn_cos0 _).mono ?_; rintro e wx ⟨rfl, hb⟩; replace hB := More.trans hB hb; clear hb)
    | (go_at_call 47; with_reducible refine (kn_cos2 _).mono ?_; rintro e wx ⟨rfl, hb⟩; replace hB := More.trans hB hb; clear hb)
    | (go_at_call 42; refine (awakeF_any _).mono ?_; rintro e wx ⟨rfl, hb⟩; replace hB := More.trans hB hb; clear hb))
  go_ret
  exact ⟨rfl, hB⟩
end Go.Proofs.Ytmanfiphdmmgdaa
