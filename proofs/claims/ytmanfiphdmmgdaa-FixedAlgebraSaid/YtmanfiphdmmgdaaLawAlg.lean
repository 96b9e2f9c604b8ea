/-
  FixedAlgebra returns true: the walk.
-/
import Derived.Test.YtmanfiphdmmgdaaAwakeFixed
import Derived.Test.YtmanfiphdmmgdaaAlg
import Derived.Test.YtmanfiphdmmgdaaNearF
set_option linter.unusedSimpArgs false
set_option linter.unusedVariables false
namespace Go.Proofs.Ytmanfiphdmmgdaa
open Go.RowKit PM Dt
theorem quo_nat (a : Int) (h : 0 ≤ a) : Int.tdiv a 2147483648 = a / 2147483648 := Int.tdiv_eq_ediv_of_nonneg h
set_option maxRecDepth 100000 in
set_option maxHeartbeats 1000000 in
theorem algebra_out (a b : Int) (w : World) (h : a < -1152921504606846976 ∨ 1152921504606846976 < a ∨ b < -1152921504606846976 ∨ 1152921504606846976 < b) : Calls Try.prog 8 #[.int .i64 a, .int .i64 b] w fun e w' => e = .returned (.bool true) ∧ Below w.heap.size w w' := by
  have hB : More w w := Below.refl _ _
  by_cases c0 : a < -1152921504606846976
  · have d0 : decide (a < -1152921504606846976) = true := decide_eq_true c0
    clear c0 h
    go_enter Try.func8, Try.ntmps8
    go_wp2_with (go_at_call 42; refine (awakeF_any _).mono ?_; rintro e w1 ⟨rfl, hb⟩; replace hB := More.trans hB hb; clear hb)
    go_ret
    exact ⟨rfl, hB⟩
  · have d0 : decide (a < -1152921504606846976) = false := decide_eq_false c0
    by_cases c1 : 1152921504606846976 < a
    · have d1 : decide (1152921504606846976 < a) = true := decide_eq_true c1
      clear c0 c1 h
      go_enter Try.func8, Try.ntmps8
      go_wp2_with (go_at_call 42; refine (awakeF_any _).mono ?_; rintro e w1 ⟨rfl, hb⟩; replace hB := More.trans hB hb; clear hb)
      go_ret
      exact ⟨rfl, hB⟩
    · have d1 : decide (1152921504606846976 < a) = false := decide_eq_false c1
      by_cases c2 : b < -1152921504606846976
      · have d2 : decide (b < -1152921504606846976) = true := decide_eq_true c2
        clear c0 c1 c2 h
        go_enter Try.func8, Try.ntmps8
        go_wp2_with (go_at_call 42; refine (awakeF_any _).mono ?_; rintro e w1 ⟨rfl, hb⟩; replace hB := More.trans hB hb; clear hb)
        go_ret
        exact ⟨rfl, hB⟩
      · have d2 : decide (b < -1152921504606846976) = false := decide_eq_false c2
        by_cases c3 : 1152921504606846976 < b
        · have d3 : decide (1152921504606846976 < b) = true := decide_eq_true c3
          clear c0 c1 c2 c3 h
          go_enter Try.func8, Try.ntmps8
          go_wp2_with (go_at_call 42; refine (awakeF_any _).mono ?_; rintro e w1 ⟨rfl, hb⟩; replace hB := More.trans hB hb; clear hb)
          go_ret
          exact ⟨rfl, hB⟩
        · have d3 : decide (1152921504606846976 < b) = false := decide_eq_false c3
          omega
/-- What the calls return. -/
structure Alg (a b p e d f q g : Int) : Prop where
  mulab : ∀ w, Calls Try.prog 43 #[.int .i64 a, .int .i64 b] w fun x w' => x = .returned (.tuple #[.int .i64 p, .int .i64 e]) ∧ Below w.heap.size w w'
  mulba : ∀ w, Calls Try.prog 43 #[.int .i64 b, .int .i64 a] w fun x w' => x = .returned (.tuple #[.int .i64 p, .int .i64 e]) ∧ Below w.heap.size w w'
  mulone : ∀ w, Calls Try.prog 43 #[.int .i64 a, .int .i64 1073741824] w fun x w' => x = .returned (.tuple #[.int .i64 a, .int .i64 0]) ∧ Below w.heap.size w w'
  divab : ∀ w, Calls Try.prog 45 #[.int .i64 a, .int .i64 b] w fun x w' => x = .returned (.tuple #[.int .i64 d, .int .i64 f]) ∧ Below w.heap.size w w'
theorem alg_calls (a b : Int) (ha : I64 a) (hb : I64 b) : Alg a b (ratioV a b 1073741824) (ratioE a b 1073741824) (ratioV a 1073741824 b) (ratioE a 1073741824 b) 0 0 where
  mulab w := mul_any a b w ha hb
  mulba w := (mul_any b a w hb ha).mono fun e w' h => ⟨h.1.trans (by rw [ratioV_comm b a, ratioE_comm b a]), h.2⟩
  mulone w := (mul_any a 1073741824 w ha (by unfold I64; omega)).mono fun e w' h => ⟨h.1.trans (by rw [(ratioV_one ha.1 ha.2).1, (ratioV_one ha.1 ha.2).2]), h.2⟩
  divab w := div_any a b w ha hb
set_option maxRecDepth 100000 in
set_option maxHeartbeats 2000000 in
theorem algebra_in (a b : Int) (w : World) (ha : I64 a) (hb : I64 b) (a1 : -1152921504606846976 ≤ a) (a2 : a ≤ 1152921504606846976) (b1 : -1152921504606846976 ≤ b) (b2 : b ≤ 1152921504606846976) :
    Calls Try.prog 8 #[.int .i64 a, .int .i64 b] w fun e w' => e = .returned (.bool true) ∧ Below w.heap.size w w' := by
  have hB : More w w := Below.refl _ _
  have hM := alg_calls a b ha hb
  have z1 : decide (a < -1152921504606846976) = false := decide_eq_false (by omega)
  have z2 : decide (1152921504606846976 < a) = false := decide_eq_false (by omega)
  have z3 : decide (b < -1152921504606846976) = false := decide_eq_false (by omega)
  have z4 : decide (1152921504606846976 < b) = false := decide_eq_false (by omega)
  have HAA := Lib.hid ha
  have HBB := Lib.hid hb
  obtain ⟨p, hp⟩ : ∃ p, p = ratioV a b 1073741824 := ⟨_, rfl⟩
  obtain ⟨e, he⟩ : ∃ e, e = ratioE a b 1073741824 := ⟨_, rfl⟩
  obtain ⟨d, hd⟩ : ∃ d, d = ratioV a 1073741824 b := ⟨_, rfl⟩
  obtain ⟨f, hf⟩ : ∃ f, f = ratioE a 1073741824 b := ⟨_, rfl⟩
  rw [← hp, ← he, ← hd, ← hf] at hM
  have HM := Lib.hid hM
  have HP := Lib.hid hp
  have pI : I64 p := hp ▸ ratioV_I a b 1073741824
  have HPI := Lib.hid pI
  have dI : I64 d := hd ▸ ratioV_I a 1073741824 b
  have HDI := Lib.hid dI
  have HNA : Hid (I64 (-a)) := by show I64 (-a); unfold I64; omega
  have wa : wrap64 (-a) = -a := wrap64_I HNA.out
  have wb : wrap64 (-b) = -b := wrap64_I ⟨by omega, by omega⟩
  -- behind a product that does not fit, or is too great, nothing is asked; else the product with the other sign
  have key1 : (e == 0) = false ∨ (e == 0) = true ∧ decide (-1152921504606846976 < p) = false ∨ (e == 0) = true ∧ decide (-1152921504606846976 < p) = true ∧ decide (p < 1152921504606846976) = false ∨
      (e == 0) = true ∧ decide (-1152921504606846976 < p) = true ∧ decide (p < 1152921504606846976) = true ∧ ∃ m, wrap64 (-p) = -p ∧ Hid (∀ w, Calls Try.prog 43 #[.int .i64 (-a), .int .i64 b] w fun x w' => x = .returned (.tuple #[.int .i64 m, .int .i64 0]) ∧ Below w.heap.size w w') ∧
        Hid (I64 (m - 1)) ∧ Hid (I64 (-p - 1)) ∧ Hid (m - 1 ≤ -p) ∧ Hid (-p - 1 ≤ m) := by
    by_cases e0 : e = 0
    · by_cases p1 : -1152921504606846976 < p
      · by_cases p2 : p < 1152921504606846976
        · obtain ⟨m, hm, hme, m1, m2⟩ := alg_neg hp (he ▸ e0) p1 p2
          refine Or.inr (Or.inr (Or.inr ⟨by simp [e0], decide_eq_true p1, decide_eq_true p2, m, wrap64_I ⟨by omega, by omega⟩, fun w => ?_, ?_, ?_, m1, m2⟩))
          · exact (mul_any (-a) b w HNA.out hb).mono fun e w' h => ⟨h.1.trans (by rw [hm, hme]), h.2⟩
          · show I64 _; unfold I64; omega
          · show I64 _; unfold I64; omega
        · exact Or.inr (Or.inr (Or.inl ⟨by simp [e0], decide_eq_true p1, decide_eq_false p2⟩))
      · exact Or.inr (Or.inl ⟨by simp [e0], decide_eq_false p1⟩)
    · exact Or.inl (by simp [e0])
  obtain ⟨B, hBB⟩ : ∃ B, B = if b < 0 then -b else b := ⟨_, rfl⟩
  have key2 : ((f == 0) = false ∧ (d == 0) = true) ∨ ((f == 0) = true ∧ (decide (b < 0) = true ∧ B = -b ∨ decide (b < 0) = false ∧ B = b) ∧ ∃ m k, Int.tdiv B 2147483648 = k ∧ wrap64 (k + 1) = k + 1 ∧ wrap64 k = k ∧ Hid (∀ w, Calls Try.prog 43 #[.int .i64 d, .int .i64 b] w fun x w' => x = .returned (.tuple #[.int .i64 m, .int .i64 0]) ∧ Below w.heap.size w w') ∧
        Hid (I64 (m - (k + 1))) ∧ Hid (I64 (a - (k + 1))) ∧ Hid (m - (k + 1) ≤ a) ∧ Hid (a - (k + 1) ≤ m)) := by
    by_cases f0 : f = 0
    · obtain ⟨m, hm, hme, m1, m2⟩ := alg_back hd (hf ▸ f0) a1 a2 b1 b2 B hBB
      have B0 : 0 ≤ B ∧ B ≤ 1152921504606846976 := by rw [hBB]; split <;> omega
      refine Or.inr ⟨by simp [f0], ?_, m, B / 2147483648, quo_nat B B0.1, wrap64_I ⟨by omega, by omega⟩, wrap64_I ⟨by omega, by omega⟩, fun w => ?_, ?_, ?_, m1, m2⟩
      · by_cases hn : b < 0
        · exact Or.inl ⟨decide_eq_true hn, by rw [hBB, if_pos hn]⟩
        · exact Or.inr ⟨decide_eq_false hn, by rw [hBB, if_neg hn]⟩
      · exact (mul_any d b w dI hb).mono fun e w' h => ⟨h.1.trans (by rw [hm, hme]), h.2⟩
      · show I64 _; unfold I64; omega
      · show I64 _; unfold I64; omega
    · refine Or.inl ⟨by simp [f0], ?_⟩
      have : d = 0 := by
        rw [hd]; rw [hf] at f0
        unfold ratioE at f0; unfold ratioV
        split
        · rfl
        · rename_i hb0; rw [if_neg hb0] at f0; exact fit_bad f0
      simp [this]
  clear hM hp he hd hf ha hb a1 a2 b1 b2 pI dI hBB
  rcases key1 with g1 | ⟨g1, g2⟩ | ⟨g1, g2, g3⟩ | ⟨g1, g2, g3, m, wp, mneg, n1, n2, n3, n4⟩
  all_goals rcases key2 with ⟨g4, g5⟩ | ⟨g4, ⟨g5, rfl⟩ | ⟨g5, rfl⟩, m', k, q1, q2, q3, mback, k1, k2, k3, k4⟩
  all_goals
    go_enter Try.func8, Try.ntmps8
    go_wp2_with (first
      | (go_at_call 43; with_reducible refine (HM.out.mulab _).mono ?_; rintro e1 w1 ⟨rfl, hb⟩; replace hB := More.trans hB hb; clear hb)
      | (go_at_call 43; with_reducible refine (HM.out.mulba _).mono ?_; rintro e1 w1 ⟨rfl, hb⟩; replace hB := More.trans hB hb; clear hb)
      | (go_at_call 43; with_reducible refine (HM.out.mulone _).mono ?_; rintro e1 w1 ⟨rfl, hb⟩; replace hB := More.trans hB hb; clear hb)
      | (go_at_call 43; with_reducible refine (mneg.out _).mono ?_; rintro e1 w1 ⟨rfl, hb⟩; replace hB := More.trans hB hb; clear hb)
      | (go_at_call 43; with_reducible refine (mback.out _).mono ?_; rintro e1 w1 ⟨rfl, hb⟩; replace hB := More.trans hB hb; clear hb)
      | (go_at_call 45; with_reducible refine (HM.out.divab _).mono ?_; rintro e1 w1 ⟨rfl, hb⟩; replace hB := More.trans hB hb; clear hb)
      | (go_at_call 44; with_reducible refine (near_any _ _ _ _ n1.out n2.out n3.out n4.out).mono ?_; rintro e1 w1 ⟨rfl, rfl⟩)
      | (go_at_call 44; with_reducible refine (near_any _ _ _ _ k1.out k2.out k3.out k4.out).mono ?_; rintro e1 w1 ⟨rfl, rfl⟩)
      | (go_at_call 42; refine (awakeF_any _).mono ?_; rintro e w1 ⟨rfl, hb⟩; replace hB := More.trans hB hb; clear hb))
    go_ret
    exact ⟨rfl, hB⟩
theorem algebra_any (a b : Int) (w : World) (ha : I64 a) (hb : I64 b) : Calls Try.prog 8 #[.int .i64 a, .int .i64 b] w fun e w' => e = .returned (.bool true) ∧ Below w.heap.size w w' := by
  by_cases h : a < -1152921504606846976 ∨ 1152921504606846976 < a ∨ b < -1152921504606846976 ∨ 1152921504606846976 < b
  · exact algebra_out a b w h
  · exact algebra_in a b w ha hb (by omega) (by omega) (by omega) (by omega)
end Go.Proofs.Ytmanfiphdmmgdaa
