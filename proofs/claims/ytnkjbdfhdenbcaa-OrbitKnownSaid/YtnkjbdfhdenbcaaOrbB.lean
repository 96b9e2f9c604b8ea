/-
  Orbits: turned, sums, Check of the package.
-/
import Derived.Test.YtnkjbdfhdenbcaaOrbA
set_option linter.unusedSimpArgs false
set_option linter.unusedVariables false
namespace Go.Proofs.Ytnkjbdfhdenbcaa
open Go.RowKit PM Dt
/-- Two integers lie in a slice. -/
theorem dot2_any (a b c d : Int) (x y : Nat) (w : World) (t : TypeId) (ha : I64 a) (hb : I64 b) (hc : I64 c) (hd : I64 d) (p : blk w x #[.int .i64 a, .int .i64 b] t) (q : blk w y #[.int .i64 c, .int .i64 d] t) :
    Calls Try.prog 103 #[.slice (some ⟨x, 0, none⟩) 2 2, .slice (some ⟨y, 0, none⟩) 2 2] w fun e w' => e = .returned (.tuple #[.int .i64 (dotV [a, b] [c, d]), .int .i64 (dotE [a, b] [c, d])]) ∧ Below w.heap.size w w' :=
  dot_any [a, b] [c, d] _ _ w (intsJ2 p) (intsJ2 q) (list_J2 ha hb) (list_J2 hc hd)
theorem rdot2_any (a b c d : Int) (x y : Nat) (w : World) (t : TypeId) (ha : I64 a) (hb : I64 b) (hc : I64 c) (hd : I64 d) (p : blk w x #[.int .i64 a, .int .i64 b] t) (q : blk w y #[.int .i64 c, .int .i64 d] t) :
    Calls Try.prog 166 #[.slice (some ⟨x, 0, none⟩) 2 2, .slice (some ⟨y, 0, none⟩) 2 2] w fun e w' => e = .returned (.tuple #[.int .i64 (dotV [a, b] [c, d]), .int .i64 (dotE [a, b] [c, d])]) ∧ Below w.heap.size w w' :=
  rdot_any [a, b] [c, d] _ _ w (intsJ2 p) (intsJ2 q) (list_J2 ha hb) (list_J2 hc hd)
set_option maxRecDepth 100000 in
set_option maxHeartbeats 2000000 in
theorem turned_orb (x y b : Int) (w : World) (hx : I64 x) (hy : I64 y) (hb : U32 b) (hs : I64 (sinI b)) (hc : I64 (cosI b)) : Calls Try.prog 62 #[.int .i64 x, .int .i64 y, .int .u32 b] w fun e w' => e = .returned (.tuple #[.int .i64 (dotV [x, wrap64 (-y)] [cosI b, sinI b]), .int .i64 (dotV [x, y] [sinI b, cosI b])]) ∧ Below w.heap.size w w' := by
  have S1 := Lib.hid (fun w => sinI_any b w hb)
  have C1 := Lib.hid (fun w => cosI_any b w hb)
  generalize sinI b = S at *
  generalize cosI b = C at *
  have hn : I64 (wrap64 (-y)) := by unfold wrap64 I64; omega
  have D1 := Lib.hid (fun x1 y1 w t p q => dot2_any x (wrap64 (-y)) C S x1 y1 w t hx hn hc hs p q)
  have D2 := Lib.hid (fun x1 y1 w t p q => dot2_any x y S C x1 y1 w t hx hy hs hc p q)
  generalize dotV [x, wrap64 (-y)] [C, S] = X at *
  generalize dotE [x, wrap64 (-y)] [C, S] = XE at *
  generalize dotV [x, y] [S, C] = Y at *
  generalize dotE [x, y] [S, C] = YE at *
  clear hx hy hb hs hc hn
  have hB := Below.refl w.heap.size w
  go_enter Try.func62, Try.ntmps62
  go_upto_region 2 with (first
    | (go_at_call 61; with_reducible refine (S1.out _).mono ?_; rintro e w1 ⟨rfl, hb⟩; replace hB := hB.trans (hb.mono hB.size); clear hb)
    | (go_at_call 63; with_reducible refine (C1.out _).mono ?_; rintro e w2 ⟨rfl, hb⟩; replace hB := hB.trans (hb.mono hB.size); clear hb))
  go_upto_region 3 with (first
    | (go_at_call 103; with_reducible refine (D1.out _ _ _ _ sa sb).mono ?_; rintro e w3 ⟨rfl, hb⟩; replace hB := hB.trans (hb.mono hB.size); clear hb)
    | (have hone : True := trivial; clear hone; (refine wpList_build2 rfl rfl rfl rfl Try.underlying105 (by kernel_rfl) (by kernel_rfl) (fun sb_b wb hb sb => ?_); simp only [Act.put, List.setIfInBounds_toArray, List.set_cons_zero, List.set_cons_succ]; replace hB := hB.trans (hb.mono hB.size); replace sa := sa.below hb sa.lt; clear hb))
    | (refine wpList_build2 rfl rfl rfl rfl Try.underlying105 (by kernel_rfl) (by kernel_rfl) (fun sa_b wa hb sa => ?_); simp only [Act.put, List.setIfInBounds_toArray, List.set_cons_zero, List.set_cons_succ]; replace hB := hB.trans (hb.mono hB.size); clear hb))
  clear sa sb
  go_upto_region 4 with (first
    | (go_at_call 103; with_reducible refine (D2.out _ _ _ _ sc sd).mono ?_; rintro e w4 ⟨rfl, hb⟩; replace hB := hB.trans (hb.mono hB.size); clear hb)
    | (have hone : True := trivial; clear hone; (refine wpList_build2 rfl rfl rfl rfl Try.underlying105 (by kernel_rfl) (by kernel_rfl) (fun sd_b wd hb sd => ?_); simp only [Act.put, List.setIfInBounds_toArray, List.set_cons_zero, List.set_cons_succ]; replace hB := hB.trans (hb.mono hB.size); replace sc := sc.below hb sc.lt; clear hb))
    | (refine wpList_build2 rfl rfl rfl rfl Try.underlying105 (by kernel_rfl) (by kernel_rfl) (fun sc_b wc hb sc => ?_); simp only [Act.put, List.setIfInBounds_toArray, List.set_cons_zero, List.set_cons_succ]; replace hB := hB.trans (hb.mono hB.size); clear hb))
  clear sc sd
  go_wp2_with (fail)
  go_ret2
  exact ⟨rfl, hB⟩
set_option maxRecDepth 100000 in
set_option maxHeartbeats 2000000 in
theorem check_any (f : Nat → Int) (w : World) : Calls Try.prog 23 #[.agg (ofn f)] w fun e w' => e = .returned (.int .i64 (chkE f)) ∧ Below w.heap.size w w' := by
  have P0 := Lib.hid (fun w => period_any (f 0) w)
  have P1 := Lib.hid (fun w => period_any (f 1) w)
  have P2 := Lib.hid (fun w => period_any (f 2) w)
  obtain ⟨R, hR⟩ : ∃ R, chkE f = R := ⟨_, rfl⟩
  rw [hR]
  unfold chkE okO at hR
  have HR := Lib.hid hR
  clear hR
  obtain ⟨b0, hb0⟩ : ∃ b, okP (f 0) = b := ⟨_, rfl⟩
  obtain ⟨b1, hb1⟩ : ∃ b, okP (f 1) = b := ⟨_, rfl⟩
  obtain ⟨b2, hb2⟩ : ∃ b, okP (f 2) = b := ⟨_, rfl⟩
  rw [hb0] at P0
  rw [hb1] at P1
  rw [hb2] at P2
  rw [hb0, hb1, hb2] at HR
  clear hb0 hb1 hb2
  go_enter Try.func23, Try.ntmps23
  go_upto_region 1 with (fail)
  have p : blk (w.alloc (.cells (ofn f) 24)) w.heap.size (ofn f) 24 := blk.new _ _ _
  have hB : Below w.heap.size w (w.alloc (.cells (ofn f) 24)) := by go_grown
  generalize (w.alloc (.cells (ofn f) 24)) = w0 at *
  have c0 : w0.cell? ⟨w.heap.size, 0, none⟩ = some (.int .i64 (f 0)) := p.cellIs (rfl)
  have c1 : w0.cell? ⟨w.heap.size, 1, none⟩ = some (.int .i64 (f 1)) := p.cellIs (rfl)
  have c2 : w0.cell? ⟨w.heap.size, 2, none⟩ = some (.int .i64 (f 2)) := p.cellIs (rfl)
  have c7 : w0.cell? ⟨w.heap.size, 7, none⟩ = some (.int .i64 (f 7)) := p.cellIs (rfl)
  cases b0
  case false =>
    go_wp2_with (first | (go_at_call 66; with_reducible refine (P0.out _).mono ?_; rintro e wx ⟨rfl, rfl⟩) | (go_at_call 66; with_reducible refine (P1.out _).mono ?_; rintro e wx ⟨rfl, rfl⟩) | (go_at_call 66; with_reducible refine (P2.out _).mono ?_; rintro e wx ⟨rfl, rfl⟩))
    go_ret
    exact ⟨by rw [← HR.out]; rfl, hB⟩
  case true =>
    cases b1
    case false =>
      go_wp2_with (first | (go_at_call 66; with_reducible refine (P0.out _).mono ?_; rintro e wx ⟨rfl, rfl⟩) | (go_at_call 66; with_reducible refine (P1.out _).mono ?_; rintro e wx ⟨rfl, rfl⟩) | (go_at_call 66; with_reducible refine (P2.out _).mono ?_; rintro e wx ⟨rfl, rfl⟩))
      go_ret
      exact ⟨by rw [← HR.out]; rfl, hB⟩
    case true =>
      cases b2
      case false =>
        go_wp2_with (first | (go_at_call 66; with_reducible refine (P0.out _).mono ?_; rintro e wx ⟨rfl, rfl⟩) | (go_at_call 66; with_reducible refine (P1.out _).mono ?_; rintro e wx ⟨rfl, rfl⟩) | (go_at_call 66; with_reducible refine (P2.out _).mono ?_; rintro e wx ⟨rfl, rfl⟩))
        go_ret
        exact ⟨by rw [← HR.out]; rfl, hB⟩
      case true =>
        by_cases h1 : 536870912 ≤ f 7
        · have d1 : decide (536870912 ≤ f 7) = true := decide_eq_true h1
          have d2 : decide (f 7 < 536870912) = false := decide_eq_false (by omega)
          by_cases h2 : f 7 < 1073741824
          · have d3 : decide (f 7 < 1073741824) = true := decide_eq_true h2
            have d4 : decide (1073741824 ≤ f 7) = false := decide_eq_false (by omega)
            go_wp2_with (first | (go_at_call 66; with_reducible refine (P0.out _).mono ?_; rintro e wx ⟨rfl, rfl⟩) | (go_at_call 66; with_reducible refine (P1.out _).mono ?_; rintro e wx ⟨rfl, rfl⟩) | (go_at_call 66; with_reducible refine (P2.out _).mono ?_; rintro e wx ⟨rfl, rfl⟩))
            go_ret
            exact ⟨by rw [← HR.out, d1, d3]; rfl, hB⟩
          · have d3 : decide (f 7 < 1073741824) = false := decide_eq_false h2
            have d4 : decide (1073741824 ≤ f 7) = true := decide_eq_true (by omega)
            go_wp2_with (first | (go_at_call 66; with_reducible refine (P0.out _).mono ?_; rintro e wx ⟨rfl, rfl⟩) | (go_at_call 66; with_reducible refine (P1.out _).mono ?_; rintro e wx ⟨rfl, rfl⟩) | (go_at_call 66; with_reducible refine (P2.out _).mono ?_; rintro e wx ⟨rfl, rfl⟩))
            go_ret
            exact ⟨by rw [← HR.out, d1, d3]; rfl, hB⟩
        · have d1 : decide (536870912 ≤ f 7) = false := decide_eq_false h1
          have d2 : decide (f 7 < 536870912) = true := decide_eq_true (by omega)
          go_wp2_with (first | (go_at_call 66; with_reducible refine (P0.out _).mono ?_; rintro e wx ⟨rfl, rfl⟩) | (go_at_call 66; with_reducible refine (P1.out _).mono ?_; rintro e wx ⟨rfl, rfl⟩) | (go_at_call 66; with_reducible refine (P2.out _).mono ?_; rintro e wx ⟨rfl, rfl⟩))
          go_ret
          exact ⟨by rw [← HR.out, d1]; rfl, hB⟩
theorem not_okP {n : Int} (h : n < 2 ∨ 1099511627776 < n) : okP n = false := by
  cases hb : okP n with
  | false => rfl
  | true => have := (okP_iff n).1 hb; omega
end Go.Proofs.Ytnkjbdfhdenbcaa
