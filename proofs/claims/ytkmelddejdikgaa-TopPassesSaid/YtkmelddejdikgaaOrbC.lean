/-
  Orbits: turned, sums, Check of the package. Norms of unit vectors: arithmetic. No program in sight. Orbits: the vectors of the craft, the sun and a station are bounded and not zero. No program in sight. Orbits: the places of the craft and the sun, in the package and in its specification.
-/
import Derived.Test.YtkmelddejdikgaaOrbA
import Derived.Test.YtkmelddejdikgaaVUnit
import Derived.Test.YtkmelddejdikgaaLawVec
set_option linter.unusedSimpArgs false
set_option linter.unusedVariables false
namespace Go.Proofs.Ytkmelddejdikgaa
open Go.RowKit PM Dt
/-- Two integers lie in a slice. -/
theorem dot2_any (a b c d : Int) (x y : Nat) (w : World) (t : TypeId) (ha : I64 a) (hb : I64 b) (hc : I64 c) (hd : I64 d) (p : blk w x #[.int .i64 a, .int .i64 b] t) (q : blk w y #[.int .i64 c, .int .i64 d] t) :
    Calls Try.prog 60 #[.slice (some ⟨x, 0, none⟩) 2 2, .slice (some ⟨y, 0, none⟩) 2 2] w fun e w' => e = .returned (.tuple #[.int .i64 (dotV [a, b] [c, d]), .int .i64 (dotE [a, b] [c, d])]) ∧ Below w.heap.size w w' :=
  dot_any [a, b] [c, d] _ _ w (intsJ2 p) (intsJ2 q) (list_J2 ha hb) (list_J2 hc hd)
set_option maxRecDepth 100000 in
set_option maxHeartbeats 2000000 in
theorem turned_orb (x y b : Int) (w : World) (hx : I64 x) (hy : I64 y) (hb : U32 b) (hs : I64 (sinI b)) (hc : I64 (cosI b)) : Calls Try.prog 134 #[.int .i64 x, .int .i64 y, .int .u32 b] w fun e w' => e = .returned (.tuple #[.int .i64 (dotV [x, wrap64 (-y)] [cosI b, sinI b]), .int .i64 (dotV [x, y] [sinI b, cosI b])]) ∧ Below w.heap.size w w' := by
  have S1 := Lib.hid (fun w => sinI_any b w hb)
  have C1 := Lib.hid (fun w => cosI_any b w hb)
  generalize sinI b = S at *
  generalize cosI b = C at *
  have hn : I64 (wrap64 (-y)) := by unfold wrap64 I64; omega
  have D1 := Lib.hid (fun x1 y1 w t p q => dot2_any x (wrap64 (-y)) C S x1 y1 w t hx hn hc hs p q)
  have D2 := Lib.hid (fun x1 y1 w t p q => dot2_any x y S C x1 y1 w t hx hy hs hc p q)
  generalize dotV [x, wrap64 (-y)] [C, S] = X at *
  generalize dotE [x, wrap64 (-y)] [C, S] = XE at *
  generalize dotV [x, y] [S, C] = Y at *
  generalize dotE [x, y] [S, C] = YE at *
  clear hx hy hb hs hc hn
  have hB := Below.refl w.heap.size w
  go_enter Try.func134, Try.ntmps134
  go_upto_region 2 with (first
    | (go_at_call 133; with_reducible refine (S1.out _).mono ?_; rintro e w1 ⟨rfl, hb⟩; replace hB := hB.trans (hb.mono hB.size); clear hb)
    | (go_at_call 135; with_reducible refine (C1.out _).mono ?_; rintro e w2 ⟨rfl, hb⟩; replace hB := hB.trans (hb.mono hB.size); clear hb))
  go_upto_region 3 with (first
    | (go_at_call 60; with_reducible refine (D1.out _ _ _ _ sa sb).mono ?_; rintro e w3 ⟨rfl, hb⟩; replace hB := hB.trans (hb.mono hB.size); clear hb)
    | (have hone : True := trivial; clear hone; (refine wpList_build2 rfl rfl rfl rfl Try.underlying41 (by kernel_rfl) (by kernel_rfl) (fun sb_b wb hb sb => ?_); simp only [Act.put, List.setIfInBounds_toArray, List.set_cons_zero, List.set_cons_succ]; replace hB := hB.trans (hb.mono hB.size); replace sa := sa.below hb sa.lt; clear hb))
    | (refine wpList_build2 rfl rfl rfl rfl Try.underlying41 (by kernel_rfl) (by kernel_rfl) (fun sa_b wa hb sa => ?_); simp only [Act.put, List.setIfInBounds_toArray, List.set_cons_zero, List.set_cons_succ]; replace hB := hB.trans (hb.mono hB.size); clear hb))
  clear sa sb
  go_upto_region 4 with (first
    | (go_at_call 60; with_reducible refine (D2.out _ _ _ _ sc sd).mono ?_; rintro e w4 ⟨rfl, hb⟩; replace hB := hB.trans (hb.mono hB.size); clear hb)
    | (have hone : True := trivial; clear hone; (refine wpList_build2 rfl rfl rfl rfl Try.underlying41 (by kernel_rfl) (by kernel_rfl) (fun sd_b wd hb sd => ?_); simp only [Act.put, List.setIfInBounds_toArray, List.set_cons_zero, List.set_cons_succ]; replace hB := hB.trans (hb.mono hB.size); replace sc := sc.below hb sc.lt; clear hb))
    | (refine wpList_build2 rfl rfl rfl rfl Try.underlying41 (by kernel_rfl) (by kernel_rfl) (fun sc_b wc hb sc => ?_); simp only [Act.put, List.setIfInBounds_toArray, List.set_cons_zero, List.set_cons_succ]; replace hB := hB.trans (hb.mono hB.size); clear hb))
  clear sc sd
  go_wp2_with (fail)
  go_ret2
  exact ⟨rfl, hB⟩
set_option maxRecDepth 100000 in
set_option maxHeartbeats 2000000 in
theorem check_any (f : Nat → Int) (w : World) : Calls Try.prog 131 #[.agg (ofn f)] w fun e w' => e = .returned (.int .i64 (chkE f)) ∧ Below w.heap.size w w' := by
  have P0 := Lib.hid (fun w => period_any (f 0) w)
  have P1 := Lib.hid (fun w => period_any (f 1) w)
  have P2 := Lib.hid (fun w => period_any (f 2) w)
  obtain ⟨R, hR⟩ : ∃ R, chkE f = R := ⟨_, rfl⟩
  rw [hR]
  unfold chkE okO at hR
  have HR := Lib.hid hR
  clear hR
  obtain ⟨b0, hb0⟩ : ∃ b, okP (f 0) = b := ⟨_, rfl⟩
  obtain ⟨b1, hb1⟩ : ∃ b, okP (f 1) = b := ⟨_, rfl⟩
  obtain ⟨b2, hb2⟩ : ∃ b, okP (f 2) = b := ⟨_, rfl⟩
  rw [hb0] at P0
  rw [hb1] at P1
  rw [hb2] at P2
  rw [hb0, hb1, hb2] at HR
  clear hb0 hb1 hb2
  go_enter Try.func131, Try.ntmps131
  go_upto_region 1 with (fail)
  have p : blk (w.alloc (.cells (ofn f) 50)) w.heap.size (ofn f) 50 := blk.new _ _ _
  have hB : Below w.heap.size w (w.alloc (.cells (ofn f) 50)) := by go_grown
  generalize (w.alloc (.cells (ofn f) 50)) = w0 at *
  have c0 : w0.cell? ⟨w.heap.size, 0, none⟩ = some (.int .i64 (f 0)) := p.cellIs (rfl)
  have c1 : w0.cell? ⟨w.heap.size, 1, none⟩ = some (.int .i64 (f 1)) := p.cellIs (rfl)
  have c2 : w0.cell? ⟨w.heap.size, 2, none⟩ = some (.int .i64 (f 2)) := p.cellIs (rfl)
  have c7 : w0.cell? ⟨w.heap.size, 7, none⟩ = some (.int .i64 (f 7)) := p.cellIs (rfl)
  cases b0
  case false =>
    go_wp2_with (first | (go_at_call 175; with_reducible refine (P0.out _).mono ?_; rintro e wx ⟨rfl, rfl⟩) | (go_at_call 175; with_reducible refine (P1.out _).mono ?_; rintro e wx ⟨rfl, rfl⟩) | (go_at_call 175; with_reducible refine (P2.out _).mono ?_; rintro e wx ⟨rfl, rfl⟩))
    go_ret
    exact ⟨by rw [← HR.out]; rfl, hB⟩
  case true =>
    cases b1
    case false =>
      go_wp2_with (first | (go_at_call 175; with_reducible refine (P0.out _).mono ?_; rintro e wx ⟨rfl, rfl⟩) | (go_at_call 175; with_reducible refine (P1.out _).mono ?_; rintro e wx ⟨rfl, rfl⟩) | (go_at_call 175; with_reducible refine (P2.out _).mono ?_; rintro e wx ⟨rfl, rfl⟩))
      go_ret
      exact ⟨by rw [← HR.out]; rfl, hB⟩
    case true =>
      cases b2
      case false =>
        go_wp2_with (first | (go_at_call 175; with_reducible refine (P0.out _).mono ?_; rintro e wx ⟨rfl, rfl⟩) | (go_at_call 175; with_reducible refine (P1.out _).mono ?_; rintro e wx ⟨rfl, rfl⟩) | (go_at_call 175; with_reducible refine (P2.out _).mono ?_; rintro e wx ⟨rfl, rfl⟩))
        go_ret
        exact ⟨by rw [← HR.out]; rfl, hB⟩
      case true =>
        by_cases h1 : 536870912 ≤ f 7
        · have d1 : decide (536870912 ≤ f 7) = true := decide_eq_true h1
          have d2 : decide (f 7 < 536870912) = false := decide_eq_false (by omega)
          by_cases h2 : f 7 < 1073741824
          · have d3 : decide (f 7 < 1073741824) = true := decide_eq_true h2
            have d4 : decide (1073741824 ≤ f 7) = false := decide_eq_false (by omega)
            go_wp2_with (first | (go_at_call 175; with_reducible refine (P0.out _).mono ?_; rintro e wx ⟨rfl, rfl⟩) | (go_at_call 175; with_reducible refine (P1.out _).mono ?_; rintro e wx ⟨rfl, rfl⟩) | (go_at_call 175; with_reducible refine (P2.out _).mono ?_; rintro e wx ⟨rfl, rfl⟩))
            go_ret
            exact ⟨by rw [← HR.out, d1, d3]; rfl, hB⟩
          · have d3 : decide (f 7 < 1073741824) = false := decide_eq_false h2
            have d4 : decide (1073741824 ≤ f 7) = true := decide_eq_true (by omega)
            go_wp2_with (first | (go_at_call 175; with_reducible refine (P0.out _).mono ?_; rintro e wx ⟨rfl, rfl⟩) | (go_at_call 175; with_reducible refine (P1.out _).mono ?_; rintro e wx ⟨rfl, rfl⟩) | (go_at_call 175; with_reducible refine (P2.out _).mono ?_; rintro e wx ⟨rfl, rfl⟩))
            go_ret
            exact ⟨by rw [← HR.out, d1, d3]; rfl, hB⟩
        · have d1 : decide (536870912 ≤ f 7) = false := decide_eq_false h1
          have d2 : decide (f 7 < 536870912) = true := decide_eq_true (by omega)
          go_wp2_with (first | (go_at_call 175; with_reducible refine (P0.out _).mono ?_; rintro e wx ⟨rfl, rfl⟩) | (go_at_call 175; with_reducible refine (P1.out _).mono ?_; rintro e wx ⟨rfl, rfl⟩) | (go_at_call 175; with_reducible refine (P2.out _).mono ?_; rintro e wx ⟨rfl, rfl⟩))
          go_ret
          exact ⟨by rw [← HR.out, d1]; rfl, hB⟩
end Go.Proofs.Ytkmelddejdikgaa
namespace Go.Proofs.Ytkmelddejdikgaa
open Go.RowKit PM Dt
theorem sq_nn (x : Int) : 0 ≤ x * x := by
  by_cases h : 0 ≤ x
  · exact Int.mul_nonneg h h
  · exact Int.mul_nonneg_of_nonpos_of_nonpos (by omega) (by omega)
end Go.Proofs.Ytkmelddejdikgaa
namespace Go.Proofs.Ytkmelddejdikgaa
open Go.RowKit PM Dt
def orbU (f : Nat → Int) (t : Int) : Int := IntKind.u32.wrap (f 3 + angV t (f 0))
def plY (f : Nat → Int) (t : Int) : Int := mulV (sinI (orbU f t)) (cosI (f 5))
/-- The vectors ahead of their units: of the craft, the sun, a station. -/
def plX3 (f : Nat → Int) (t : Int) : Nat → Int := of3 (dotV [cosI (orbU f t), wrap64 (-plY f t)] [cosI (f 4), sinI (f 4)]) (dotV [cosI (orbU f t), plY f t] [sinI (f 4), cosI (f 4)]) (mulV (sinI (orbU f t)) (sinI (f 5)))
def orbD (f g : Nat → Int) (t : Int) : Int := IntKind.u32.wrap (g 1 + angV t (f 1))
def stX3 (f g : Nat → Int) (t : Int) : Nat → Int := of3 (mulV (cosI (g 0)) (cosI (orbD f g t))) (mulV (cosI (g 0)) (sinI (orbD f g t))) (sinI (g 0))
theorem wrap_U (x : Int) : U32 (IntKind.u32.wrap x) := by unfold U32; rw [IntKind.wrap_u32]; omega
theorem sinI_b {x : Int} (h : U32 x) : -1073741824 ≤ sinI x ∧ sinI x ≤ 1073741824 := sinV_bound (t := x.toNat) (by have := h.2; omega)
theorem cosI_b {x : Int} (h : U32 x) : -1073741824 ≤ cosI x ∧ cosI x ≤ 1073741824 := sinV_bound (t := (x.toNat + 1073741824) % 4294967296) (by omega)
theorem sinI_I {x : Int} (h : U32 x) : I64 (sinI x) := by have := sinI_b h; exact ⟨by omega, by omega⟩
theorem cosI_I {x : Int} (h : U32 x) : I64 (cosI x) := by have := cosI_b h; exact ⟨by omega, by omega⟩
theorem dotV_I (xs ys : List Int) : I64 (dotV xs ys) := by
  unfold dotV
  split
  · exact ⟨by decide, by decide⟩
  · exact fitV_I _
theorem circI {x : Int} (h : U32 x) : 1152921487426977792 ≤ sinI x * sinI x + cosI x * cosI x ∧ sinI x * sinI x + cosI x * cosI x ≤ 1152921521786716160 := by
  have h1 := circle (t := x.toNat) (by have := h.2; omega)
  have h2 : cosI x = cosV x.toNat := rfl
  have h3 : sinI x = sinV x.toNat := rfl
  rw [h2, h3]
  generalize sinV x.toNat * sinV x.toNat = a at *
  generalize cosV x.toNat * cosV x.toNat = b at *
  omega
theorem mulV_rnd {a b : Int} (ha : -2147483648 ≤ a ∧ a ≤ 2147483648) (hb : -2147483648 ≤ b ∧ b ≤ 2147483648) : mulV a b = rnd (a * b) := by
  have p := bmul ha.1 ha.2 hb.1 hb.2
  unfold mulV ratioV ratioQ
  rw [if_neg (by decide), if_neg (by decide), nearest_one]
  exact (fit_of (by unfold rnd; omega) (by unfold rnd; omega)).1
theorem dot2_rnd {a b c d : Int} (ha : -2147483648 ≤ a ∧ a ≤ 2147483648) (hb : -2147483648 ≤ b ∧ b ≤ 2147483648) (hc : -2147483648 ≤ c ∧ c ≤ 2147483648) (hd : -2147483648 ≤ d ∧ d ≤ 2147483648) : dotV [a, b] [c, d] = rnd (a * c + b * d) := by
  rw [(fit2 (a0 := a) (a1 := b) (b0 := c) (b1 := d) ⟨by omega, by omega⟩ ⟨by omega, by omega⟩ ⟨by omega, by omega⟩ ⟨by omega, by omega⟩).1, ds2, Int.add_zero]
theorem rnd_0 {n : Int} (h : rnd n = 0) : -536870912 ≤ n ∧ n ≤ 536870912 := by unfold rnd at h; omega
theorem rnd_b {n B : Int} (h : -(1073741824 * B) ≤ n ∧ n ≤ 1073741824 * B) : -B ≤ rnd n ∧ rnd n ≤ B := by unfold rnd; omega
theorem half_sq {a : Int} (h : -536870912 ≤ a ∧ a ≤ 536870912) : a * a ≤ 288230376151711744 := (bmul (P := 536870912) (R := 536870912) h.1 h.2 h.1 h.2).2
/-- Where the sum of two squares is great, the two products are not both small. -/
theorem two_small {s a b : Int} (hs : 1152921487426977792 ≤ s * s) (hab : 1152921487426977792 ≤ a * a + b * b) (ha : -536870912 ≤ s * a ∧ s * a ≤ 536870912) (hb : -536870912 ≤ s * b ∧ s * b ≤ 536870912) : False := by
  have h1 := half_sq ha
  have h2 := half_sq hb
  have h3 : s * a * (s * a) + s * b * (s * b) = s * s * (a * a + b * b) := by grind
  have h4 : 1152921487426977792 * 1152921487426977792 ≤ s * s * (a * a + b * b) := Int.mul_le_mul hs hab (by decide) (by omega)
  omega
theorem plane_small {c y C S : Int} (hCS : 1152921487426977792 ≤ C * C + S * S) (h1 : -536870912 ≤ c * C + -y * S ∧ c * C + -y * S ≤ 536870912) (h2 : -536870912 ≤ c * S + y * C ∧ c * S + y * C ≤ 536870912) : c * c + y * y = 0 := by
  have q1 := half_sq h1
  have q2 := half_sq h2
  have e : (c * C + -y * S) * (c * C + -y * S) + (c * S + y * C) * (c * S + y * C) = (c * c + y * y) * (C * C + S * S) := by grind
  have n1 := sq_nn c
  have n2 := sq_nn y
  apply Classical.byContradiction; intro hn
  have h4 : 1 * 1152921487426977792 ≤ (c * c + y * y) * (C * C + S * S) := Int.mul_le_mul (by omega) hCS (by decide) (by omega)
  omega
theorem sq_zero {a b : Int} (h : a * a + b * b = 0) : a = 0 ∧ b = 0 := by
  have n1 := sq_nn a
  have n2 := sq_nn b
  constructor
  · rcases Int.mul_eq_zero.1 (show a * a = 0 by omega) with h | h <;> exact h
  · rcases Int.mul_eq_zero.1 (show b * b = 0 by omega) with h | h <;> exact h
theorem zV_at {f : Nat → Int} (h : zV f = true) : f 0 = 0 ∧ f 1 = 0 ∧ f 2 = 0 := by
  unfold zV at h
  rw [List.all_eq_true] at h
  have k : ∀ i, i < 3 → f i = 0 := fun i hi => beq_iff_eq.1 (h i (List.mem_range.2 hi))
  exact ⟨k 0 (by omega), k 1 (by omega), k 2 (by omega)⟩
theorem of3_I {a b c : Int} (ha : I64 a) (hb : I64 b) (hc : I64 c) : ∀ i, i < 3 → I64 (of3 a b c i) := fun i hi => by
  have : i = 0 ∨ i = 1 ∨ i = 2 := by omega
  rcases this with rfl | rfl | rfl
  · exact ha
  · exact hb
  · exact hc
theorem zV_of3 {a b c : Int} (h : zV (of3 a b c) = true) : a = 0 ∧ b = 0 ∧ c = 0 := zV_at h
theorem okV_of3 {a b c : Int} (ha : -4294967296 ≤ a ∧ a ≤ 4294967296) (hb : -4294967296 ≤ b ∧ b ≤ 4294967296) (hc : -4294967296 ≤ c ∧ c ≤ 4294967296) : okV (of3 a b c) = true := (okV_iff _).2 fun i hi => (vb_iff _).2 (by
  have : i = 0 ∨ i = 1 ∨ i = 2 := by omega
  rcases this with rfl | rfl | rfl
  · show _ ≤ a ∧ a ≤ _; omega
  · show _ ≤ b ∧ b ≤ _; omega
  · show _ ≤ c ∧ c ≤ _; omega)
theorem not_true {b : Bool} (h : b = true → False) : b = false := by cases b with | false => rfl | true => exact (h rfl).elim
abbrev Un (a : Int) : Prop := -1073741824 ≤ a ∧ a ≤ 1073741824
theorem one_b {a b : Int} (ha : Un a) (hb : Un b) : Un (rnd (a * b)) := by
  have p := bmul ha.1 ha.2 hb.1 hb.2
  exact rnd_b ⟨by omega, by omega⟩
theorem two_b {a b c d : Int} (ha : Un a) (hb : Un b) (hc : Un c) (hd : Un d) : -4294967296 ≤ rnd (a * b + c * d) ∧ rnd (a * b + c * d) ≤ 4294967296 := by
  have p := bmul ha.1 ha.2 hb.1 hb.2
  have q := bmul hc.1 hc.2 hd.1 hd.2
  have := rnd_b (n := a * b + c * d) (B := 2147483648) ⟨by omega, by omega⟩
  exact ⟨by omega, by omega⟩
theorem Un.w {a : Int} (h : Un a) : -2147483648 ≤ a ∧ a ≤ 2147483648 := ⟨by have := h.1; omega, by have := h.2; omega⟩
theorem Un.v {a : Int} (h : Un a) : -4294967296 ≤ a ∧ a ≤ 4294967296 := ⟨by have := h.1; omega, by have := h.2; omega⟩
theorem Un.n {a : Int} (h : Un a) : Un (-a) := ⟨by have := h.2; omega, by have := h.1; omega⟩
/-- The craft's vector: bounded, and not zero. -/
theorem pl_nz {s c S C a b y : Int} (k1 : 1152921487426977792 ≤ s * s + c * c) (k2 : 1152921487426977792 ≤ S * S + C * C) (k3 : 1152921487426977792 ≤ a * a + b * b) (hy : y = rnd (s * b))
    (z0 : rnd (c * C + -y * S) = 0) (z1 : rnd (c * S + y * C) = 0) (z2 : rnd (s * a) = 0) : False := by
  obtain ⟨c0, y0⟩ := sq_zero (plane_small (c := c) (y := y) (C := C) (S := S) (by omega) (rnd_0 z0) (rnd_0 z1))
  subst c0
  rw [y0] at hy
  exact two_small (s := s) (a := a) (b := b) (by omega) k3 (rnd_0 z2) (rnd_0 hy.symm)
theorem pl_core {u n i : Int} (hu : U32 u) (hn : U32 n) (hi : U32 i) {y : Int} (hy : y = mulV (sinI u) (cosI i)) :
    okV (of3 (dotV [cosI u, wrap64 (-y)] [cosI n, sinI n]) (dotV [cosI u, y] [sinI n, cosI n]) (mulV (sinI u) (sinI i))) = true ∧ zV (of3 (dotV [cosI u, wrap64 (-y)] [cosI n, sinI n]) (dotV [cosI u, y] [sinI n, cosI n]) (mulV (sinI u) (sinI i))) = false := by
  have su : Un (sinI u) := sinI_b hu
  have cu : Un (cosI u) := cosI_b hu
  have sn : Un (sinI n) := sinI_b hn
  have cn : Un (cosI n) := cosI_b hn
  have si : Un (sinI i) := sinI_b hi
  have ci : Un (cosI i) := cosI_b hi
  have k1 := (circI hu).1
  have k2 := (circI hn).1
  have k3 := (circI hi).1
  generalize sinI u = s at *
  generalize cosI u = c at *
  generalize sinI n = S at *
  generalize cosI n = C at *
  generalize sinI i = a at *
  generalize cosI i = b at *
  rw [mulV_rnd su.w ci.w] at hy
  have hyb : Un y := by rw [hy]; exact one_b su ci
  have hw : wrap64 (-y) = -y := by have := hyb.1; have := hyb.2; unfold wrap64; omega
  rw [hw, dot2_rnd cu.w hyb.n.w cn.w sn.w, dot2_rnd cu.w hyb.w sn.w cn.w, mulV_rnd su.w si.w]
  refine ⟨okV_of3 (two_b cu cn hyb.n sn) (two_b cu sn hyb cn) (one_b su si).v, not_true fun hz => ?_⟩
  obtain ⟨z0, z1, z2⟩ := zV_of3 hz
  exact pl_nz k1 k2 k3 hy z0 z1 z2
theorem st_nz {s c S C : Int} (k1 : 1152921487426977792 ≤ s * s + c * c) (k2 : 1152921487426977792 ≤ S * S + C * C) (z0 : rnd (c * C) = 0) (z1 : rnd (c * S) = 0) (z2 : s = 0) : False := by
  subst z2
  exact two_small (s := c) (a := C) (b := S) (by omega) (by omega) (rnd_0 z0) (rnd_0 z1)
theorem st_core {l a : Int} (hl : U32 l) (ha : U32 a) : okV (of3 (mulV (cosI l) (cosI a)) (mulV (cosI l) (sinI a)) (sinI l)) = true ∧ zV (of3 (mulV (cosI l) (cosI a)) (mulV (cosI l) (sinI a)) (sinI l)) = false := by
  have sl : Un (sinI l) := sinI_b hl
  have cl : Un (cosI l) := cosI_b hl
  have sa : Un (sinI a) := sinI_b ha
  have ca : Un (cosI a) := cosI_b ha
  have k1 := (circI hl).1
  have k2 := (circI ha).1
  generalize sinI l = s at *
  generalize cosI l = c at *
  generalize sinI a = S at *
  generalize cosI a = C at *
  rw [mulV_rnd cl.w ca.w, mulV_rnd cl.w sa.w]
  refine ⟨okV_of3 (one_b cl ca).v (one_b cl sa).v sl.v, not_true fun hz => ?_⟩
  obtain ⟨z0, z1, z2⟩ := zV_of3 hz
  exact st_nz k1 k2 z0 z1 z2
theorem plX3_ok {f : Nat → Int} (t : Int) (h : OO f) : okV (plX3 f t) = true ∧ zV (plX3 f t) = false := pl_core (wrap_U _) h.2.2.1 h.2.2.2.1 rfl
theorem stX3_ok {g : Nat → Int} (f : Nat → Int) (t : Int) (h : SS g) : okV (stX3 f g t) = true ∧ zV (stX3 f g t) = false := st_core h.1 (wrap_U _)
/-- The answers. -/
def placeF (f : Nat → Int) (t : Int) : Nat → Int := if okO f && okT t then vunF (plX3 f t) else fun _ => 0
def placeE (f : Nat → Int) (t : Int) : Int := if okO f && okT t then 0 else 2
def okS (g : Nat → Int) : Bool := (decide (g 0 ≤ 1073741824) || decide (3221225472 ≤ g 0)) && (decide (0 ≤ g 2) && decide (g 2 ≤ 1073741824))
def statF (f g : Nat → Int) (t : Int) : Nat → Int := if okO f && okT t && okS g then vunF (stX3 f g t) else fun _ => 0
def statE (f g : Nat → Int) (t : Int) : Int := if okO f && okT t && okS g then 0 else 2
theorem vunE_0 {f : Nat → Int} (h : okV f = true ∧ zV f = false) : vunE f = 0 := by unfold vunE; rw [h.1, h.2]; rfl
def viewB (f g : Nat → Int) (t : Int) : Bool := if okO f && okT t && okS g then decide (g 2 ≤ vdotV (placeF f t) (statF f g t)) else false
end Go.Proofs.Ytkmelddejdikgaa
namespace Go.Proofs.Ytkmelddejdikgaa
open Go.RowKit PM Dt
set_option maxRecDepth 100000 in
set_option maxHeartbeats 4000000 in
theorem place_any (f : Nat → Int) (t : Int) (w : World) (hf : OO f) : Calls Try.prog 75 #[.agg (ofn f), .int .i64 t] w fun e w' => e = .returned (.tuple #[.agg (vfn (placeF f t)), .int .i64 (placeE f t)]) ∧ Below w.heap.size w w' := by
  have CK := Lib.hid (fun w => check_any f w)
  have TM := Lib.hid (fun w => time_any t w)
  obtain ⟨RF, hRF⟩ : ∃ F, placeF f t = F := ⟨_, rfl⟩
  obtain ⟨RE, hRE⟩ : ∃ F, placeE f t = F := ⟨_, rfl⟩
  rw [hRF, hRE]
  unfold placeF at hRF
  unfold placeE at hRE
  unfold chkE at CK
  cases hb : okO f
  case false =>
    rw [hb] at CK hRF hRE
    have HF := Lib.hid hRF
    have HE := Lib.hid hRE
    clear hRF hRE
    go_enter Try.func75, Try.ntmps75
    go_upto_region 1 with (fail)
    simp only [zero_vec]
    have p : blk ((w.alloc (.cells (ofn f) 50)).alloc (.cells (vfn fun _ => 0) 31)) w.heap.size (ofn f) 50 := (blk.new _ _ _).alloc _
    have r : blk ((w.alloc (.cells (ofn f) 50)).alloc (.cells (vfn fun _ => 0) 31)) (w.heap.size + 1) (vfn fun _ => 0) 31 := blk.new' (by simp)
    have hB : Below w.heap.size w ((w.alloc (.cells (ofn f) 50)).alloc (.cells (vfn fun _ => 0) 31)) := by go_grown
    generalize ((w.alloc (.cells (ofn f) 50)).alloc (.cells (vfn fun _ => 0) 31)) = w0 at *
    go_wp2_with (first
      | (refine wpList_load_rowG ?hw _ _ rfl _ rfl _ _ _ _ p Try.underlying50 rfl ?hi ?_; (case hw => (first | rfl | (simp [Region.wanted, yielded]; done))); (case hi => (first | kernel_rfl | (rw [ofn_size]; kernel_rfl))))
      | (go_at_call 131; with_reducible refine (CK.out _).mono ?_; rintro e w1 ⟨rfl, hb⟩; replace hB := hB.trans (hb.mono hB.size); replace p := p.below hb p.lt; replace r := r.below hb r.lt; clear hb)
      | (rw [zero_vec]; refine wpList_store_row rfl _ _ _ rfl _ rfl _ rfl _ _ r (by first | kernel_rfl | (rw [vfn_size]; kernel_rfl)) (by first | rfl | simp only [vfn_size]) (by first | exact vfn_one _ | rfl) ?_))
    refine bodyPost_ret (results_vec rfl _ _ _ _ _ _ _ rfl (r.row (vfn fun _ => 0)) Try.underlying31 rfl (by first | kernel_rfl | (rw [vfn_size]; kernel_rfl))) rfl ?_
    refine ⟨?_, Below.setRow hB (by omega) _⟩
    rw [← HF.out, ← HE.out]
    rfl
  case true =>
    cases hc : okT t
    case false =>
      rw [hb] at CK
      rw [hc] at TM
      rw [hb, hc] at hRF hRE
      have HF := Lib.hid hRF
      have HE := Lib.hid hRE
      clear hRF hRE
      go_enter Try.func75, Try.ntmps75
      go_upto_region 1 with (fail)
      simp only [zero_vec]
      have p : blk ((w.alloc (.cells (ofn f) 50)).alloc (.cells (vfn fun _ => 0) 31)) w.heap.size (ofn f) 50 := (blk.new _ _ _).alloc _
      have r : blk ((w.alloc (.cells (ofn f) 50)).alloc (.cells (vfn fun _ => 0) 31)) (w.heap.size + 1) (vfn fun _ => 0) 31 := blk.new' (by simp)
      have hB : Below w.heap.size w ((w.alloc (.cells (ofn f) 50)).alloc (.cells (vfn fun _ => 0) 31)) := by go_grown
      generalize ((w.alloc (.cells (ofn f) 50)).alloc (.cells (vfn fun _ => 0) 31)) = w0 at *
      go_wp2_with (first
        | (refine wpList_load_rowG ?hw _ _ rfl _ rfl _ _ _ _ p Try.underlying50 rfl ?hi ?_; (case hw => (first | rfl | (simp [Region.wanted, yielded]; done))); (case hi => (first | kernel_rfl | (rw [ofn_size]; kernel_rfl))))
        | (go_at_call 131; with_reducible refine (CK.out _).mono ?_; rintro e w1 ⟨rfl, hb⟩; replace hB := hB.trans (hb.mono hB.size); replace p := p.below hb p.lt; replace r := r.below hb r.lt; clear hb)
        | (go_at_call 129; with_reducible refine (TM.out _).mono ?_; rintro e wt ⟨rfl, rfl⟩)
        | (rw [zero_vec]; refine wpList_store_row rfl _ _ _ rfl _ rfl _ rfl _ _ r (by first | kernel_rfl | (rw [vfn_size]; kernel_rfl)) (by first | rfl | simp only [vfn_size]) (by first | exact vfn_one _ | rfl) ?_))
      refine bodyPost_ret (results_vec rfl _ _ _ _ _ _ _ rfl (r.row (vfn fun _ => 0)) Try.underlying31 rfl (by first | kernel_rfl | (rw [vfn_size]; kernel_rfl))) rfl ?_
      refine ⟨?_, Below.setRow hB (by omega) _⟩
      rw [← HF.out, ← HE.out]
      rfl
    case true =>
      rw [hb] at CK
      rw [hc] at TM
      rw [hb, hc] at hRF hRE
      have HF := Lib.hid hRF
      have HE := Lib.hid hRE
      clear hRF hRE
      have hb2 := Lib.hid hb
      have hc2 := Lib.hid hc
      have hI : ∀ i, i < 3 → I64 (plX3 f t i) := by unfold plX3; exact of3_I (dotV_I _ _) (dotV_I _ _) (mulV_I _ _)
      have hvE := vunE_0 (plX3_ok t hf)
      have UN := Lib.hid (fun w => vunit_any (plX3 f t) w hI)
      rw [hvE] at UN
      obtain ⟨u3, u4, u5, u6⟩ := hf.2
      have ho := (okO_iff f).1 hb
      have AN := Lib.hid (fun w => angle_any t (f 0) w hc ho.1.1)
      have hU : U32 (orbU f t) := wrap_U _
      have hu : IntKind.u32.wrap (f 3 + angV t (f 0)) = orbU f t := rfl
      have S1 := Lib.hid (fun w => sinI_any (orbU f t) w hU)
      have C1 := Lib.hid (fun w => cosI_any (orbU f t) w hU)
      have CT := Lib.hid (fun w => cosI_any (f 5) w u5)
      have ST := Lib.hid (fun w => sinI_any (f 5) w u5)
      have M1 := Lib.hid (fun w => omul_any (sinI (orbU f t)) (cosI (f 5)) w (sinI_I hU) (cosI_I u5))
      have M2 := Lib.hid (fun w => omul_any (sinI (orbU f t)) (sinI (f 5)) w (sinI_I hU) (sinI_I u5))
      have TN := Lib.hid (fun w => turned_orb (cosI (orbU f t)) (plY f t) (f 4) w (cosI_I hU) (mulV_I _ _) u4 (sinI_I u4) (cosI_I u4))
      obtain ⟨Y, hY⟩ : ∃ Y, vunF (plX3 f t) = Y := ⟨_, rfl⟩
      rw [hY] at UN HF
      clear hY
      unfold plX3 at UN
      rw [← of3_cells] at UN
      unfold plY at UN TN
      generalize angV t (f 0) = A at *
      generalize orbU f t = u at *
      generalize sinI u = su at *
      generalize cosI u = cu at *
      generalize cosI (f 5) = ct at *
      generalize sinI (f 5) = st at *
      generalize mulV su ct = y0 at *
      generalize mulV su st = z0 at *
      generalize dotV [cu, wrap64 (-y0)] [cosI (f 4), sinI (f 4)] = x1 at *
      generalize dotV [cu, y0] [sinI (f 4), cosI (f 4)] = x2 at *
      clear hI hvE u3 u4 u5 u6 ho hU hf
      go_enter Try.func75, Try.ntmps75
      go_upto_region 1 with (fail)
      simp only [zero_vec]
      have p : blk ((w.alloc (.cells (ofn f) 50)).alloc (.cells (vfn fun _ => 0) 31)) w.heap.size (ofn f) 50 := (blk.new _ _ _).alloc _
      have r : blk ((w.alloc (.cells (ofn f) 50)).alloc (.cells (vfn fun _ => 0) 31)) (w.heap.size + 1) (vfn fun _ => 0) 31 := blk.new' (by simp)
      have hB : Below w.heap.size w ((w.alloc (.cells (ofn f) 50)).alloc (.cells (vfn fun _ => 0) 31)) := by go_grown
      generalize ((w.alloc (.cells (ofn f) 50)).alloc (.cells (vfn fun _ => 0) 31)) = w0 at *
      go_upto_region 3 with (first
        | (refine wpList_load_rowG ?hw _ _ rfl _ rfl _ _ _ _ p Try.underlying50 rfl ?hi ?_; (case hw => (first | rfl | (simp [Region.wanted, yielded]; done))); (case hi => (first | kernel_rfl | (rw [ofn_size]; kernel_rfl))))
        | (go_at_call 131; with_reducible refine (CK.out _).mono ?_; rintro e w1 ⟨rfl, hb⟩; replace hB := hB.trans (hb.mono hB.size); replace p := p.below hb p.lt; replace r := r.below hb r.lt; clear hb)
        | (go_at_call 129; with_reducible refine (TM.out _).mono ?_; rintro e wt ⟨rfl, rfl⟩))
      refine wp_region_Y 99 8 rfl (by kernel_rfl) ?_
      replace p := p.drew
      replace r := r.drew
      replace hB : Below w.heap.size w w1.drew := hB.drew
      generalize w1.drew = w1d at *
      apply wpY_takeB 0; (case ho' => exact rfl); (case hg => exact rfl); (case hB => kernel_rfl); (case h => (intro w1; go_simp; exact ⟨rfl, Below.refl _ _⟩))
      simp only [Act.put, List.setIfInBounds_toArray, List.set_cons_zero, List.set_cons_succ]
      apply wpY_takeA 1; (case ho' => exact rfl); (case hg => exact rfl); (case hB => kernel_rfl); (case hW => kernel_rfl); (case h => (intro w1 h1; first | exact detR_row _ _ rfl _ rfl _ _ _ (p.below h1 p.lt) Try.underlying50 rfl (by first | kernel_rfl | (rw [ofn_size]; kernel_rfl)) rfl | (have hc := (p.below h1 p.lt).cellIs ((show _[3]? = some _ from rfl)); go_simp; exact ⟨rfl, Below.refl _ _⟩)))
      simp only [Act.put, List.setIfInBounds_toArray, List.set_cons_zero, List.set_cons_succ]
      apply wpY_takeB 2; (case ho' => exact rfl); (case hg => exact rfl); (case hB => kernel_rfl); (case h => (intro w1; go_simp; exact ⟨rfl, Below.refl _ _⟩))
      simp only [Act.put, List.setIfInBounds_toArray, List.set_cons_zero, List.set_cons_succ]
      apply wpY_takeB 3; (case ho' => exact rfl); (case hg => exact rfl); (case hB => kernel_rfl); (case h => (intro w1; go_simp; exact ⟨rfl, Below.refl _ _⟩))
      simp only [Act.put, List.setIfInBounds_toArray, List.set_cons_zero, List.set_cons_succ]
      apply wpY_takeA 4; (case ho' => exact rfl); (case hg => exact rfl); (case hB => kernel_rfl); (case hW => kernel_rfl); (case h => (intro w1 h1; first | exact detR_row _ _ rfl _ rfl _ _ _ (p.below h1 p.lt) Try.underlying50 rfl (by first | kernel_rfl | (rw [ofn_size]; kernel_rfl)) rfl | (have hc := (p.below h1 p.lt).cellIs ((show _[0]? = some _ from rfl)); go_simp; exact ⟨rfl, Below.refl _ _⟩)))
      simp only [Act.put, List.setIfInBounds_toArray, List.set_cons_zero, List.set_cons_succ]
      apply wpY_takeA 5; (case ho' => exact rfl); (case hg => exact rfl); (case hB => kernel_rfl); (case hW => kernel_rfl); (case h => (intro w1 h1; go_simp; refine (AN.out _).mono ?_; rintro e w2 ⟨rfl, h2⟩; exact ⟨rfl, h2⟩))
      simp only [Act.put, List.setIfInBounds_toArray, List.set_cons_zero, List.set_cons_succ]
      apply wpY_takeB 6; (case ho' => exact rfl); (case hg => exact rfl); (case hB => kernel_rfl); (case h => (intro w1; go_simp; exact ⟨rfl, Below.refl _ _⟩))
      simp only [Act.put, List.setIfInBounds_toArray, List.set_cons_zero, List.set_cons_succ]
      apply wpY_takeB 7; (case ho' => exact rfl); (case hg => exact rfl); (case hB => kernel_rfl); (case h => (intro w1; go_simp; exact ⟨rfl, Below.refl _ _⟩))
      simp only [Act.put, List.setIfInBounds_toArray, List.set_cons_zero, List.set_cons_succ]
      refine wpY_end (by kernel_rfl) (fun we120 ht => ?_)
      replace hB := hB.trans (ht.mono hB.size)
      replace p := p.below ht p.lt
      replace r := r.below ht r.lt
      clear ht
      go_upto_region 5 with (first
        | (go_at_call 133; with_reducible refine (S1.out _).mono ?_; rintro e w2 ⟨rfl, hb⟩; replace hB := hB.trans (hb.mono hB.size); replace p := p.below hb p.lt; replace r := r.below hb r.lt; clear hb))
      refine wp_region_Y 99 15 rfl (by kernel_rfl) ?_
      replace p := p.drew
      replace r := r.drew
      replace hB : Below w.heap.size w w2.drew := hB.drew
      generalize w2.drew = w2d at *
      apply wpY_takeB 0; (case ho' => exact rfl); (case hg => exact rfl); (case hB => kernel_rfl); (case h => (intro w1; go_simp; exact ⟨rfl, Below.refl _ _⟩))
      simp only [Act.put, List.setIfInBounds_toArray, List.set_cons_zero, List.set_cons_succ]
      apply wpY_takeA 1; (case ho' => exact rfl); (case hg => exact rfl); (case hB => kernel_rfl); (case hW => kernel_rfl); (case h => (intro w1 h1; go_simp; refine (C1.out _).mono ?_; rintro e w2 ⟨rfl, h2⟩; exact ⟨rfl, h2⟩))
      simp only [Act.put, List.setIfInBounds_toArray, List.set_cons_zero, List.set_cons_succ]
      apply wpY_takeB 2; (case ho' => exact rfl); (case hg => exact rfl); (case hB => kernel_rfl); (case h => (intro w1; go_simp; exact ⟨rfl, Below.refl _ _⟩))
      simp only [Act.put, List.setIfInBounds_toArray, List.set_cons_zero, List.set_cons_succ]
      apply wpY_takeB 3; (case ho' => exact rfl); (case hg => exact rfl); (case hB => kernel_rfl); (case h => (intro w1; go_simp; exact ⟨rfl, Below.refl _ _⟩))
      simp only [Act.put, List.setIfInBounds_toArray, List.set_cons_zero, List.set_cons_succ]
      apply wpY_takeA 4; (case ho' => exact rfl); (case hg => exact rfl); (case hB => kernel_rfl); (case hW => kernel_rfl); (case h => (intro w1 h1; first | exact detR_row _ _ rfl _ rfl _ _ _ (p.below h1 p.lt) Try.underlying50 rfl (by first | kernel_rfl | (rw [ofn_size]; kernel_rfl)) rfl | (have hc := (p.below h1 p.lt).cellIs ((show _[5]? = some _ from rfl)); go_simp; exact ⟨rfl, Below.refl _ _⟩)))
      simp only [Act.put, List.setIfInBounds_toArray, List.set_cons_zero, List.set_cons_succ]
      apply wpY_takeA 5; (case ho' => exact rfl); (case hg => exact rfl); (case hB => kernel_rfl); (case hW => kernel_rfl); (case h => (intro w1 h1; go_simp; refine (CT.out _).mono ?_; rintro e w2 ⟨rfl, h2⟩; exact ⟨rfl, h2⟩))
      simp only [Act.put, List.setIfInBounds_toArray, List.set_cons_zero, List.set_cons_succ]
      apply wpY_takeA 6; (case ho' => exact rfl); (case hg => exact rfl); (case hB => kernel_rfl); (case hW => kernel_rfl); (case h => (intro w1 h1; go_simp; refine (M1.out _).mono ?_; rintro e w2 ⟨rfl, h2⟩; exact ⟨rfl, h2⟩))
      simp only [Act.put, List.setIfInBounds_toArray, List.set_cons_zero, List.set_cons_succ]
      apply wpY_takeB 7; (case ho' => exact rfl); (case hg => exact rfl); (case hB => kernel_rfl); (case h => (intro w1; go_simp; exact ⟨rfl, Below.refl _ _⟩))
      simp only [Act.put, List.setIfInBounds_toArray, List.set_cons_zero, List.set_cons_succ]
      apply wpY_takeA 8; (case ho' => exact rfl); (case hg => exact rfl); (case hB => kernel_rfl); (case hW => kernel_rfl); (case h => (intro w1 h1; first | exact detR_row _ _ rfl _ rfl _ _ _ (p.below h1 p.lt) Try.underlying50 rfl (by first | kernel_rfl | (rw [ofn_size]; kernel_rfl)) rfl | (have hc := (p.below h1 p.lt).cellIs ((show _[4]? = some _ from rfl)); go_simp; exact ⟨rfl, Below.refl _ _⟩)))
      simp only [Act.put, List.setIfInBounds_toArray, List.set_cons_zero, List.set_cons_succ]
      apply wpY_takeA 9; (case ho' => exact rfl); (case hg => exact rfl); (case hB => kernel_rfl); (case hW => kernel_rfl); (case h => (intro w1 h1; go_simp; refine (TN.out _).mono ?_; rintro e w2 ⟨rfl, h2⟩; exact ⟨rfl, h2⟩))
      simp only [Act.put, List.setIfInBounds_toArray, List.set_cons_zero, List.set_cons_succ]
      apply wpY_takeB 10; (case ho' => exact rfl); (case hg => exact rfl); (case hB => kernel_rfl); (case h => (intro w1; go_simp; exact ⟨rfl, Below.refl _ _⟩))
      simp only [Act.put, List.setIfInBounds_toArray, List.set_cons_zero, List.set_cons_succ]
      apply wpY_takeB 11; (case ho' => exact rfl); (case hg => exact rfl); (case hB => kernel_rfl); (case h => (intro w1; go_simp; exact ⟨rfl, Below.refl _ _⟩))
      simp only [Act.put, List.setIfInBounds_toArray, List.set_cons_zero, List.set_cons_succ]
      apply wpY_takeB 12; (case ho' => exact rfl); (case hg => exact rfl); (case hB => kernel_rfl); (case h => (intro w1; go_simp; exact ⟨rfl, Below.refl _ _⟩))
      simp only [Act.put, List.setIfInBounds_toArray, List.set_cons_zero, List.set_cons_succ]
      apply wpY_takeB 13; (case ho' => exact rfl); (case hg => exact rfl); (case hB => kernel_rfl); (case h => (intro w1; go_simp; exact ⟨rfl, Below.refl _ _⟩))
      simp only [Act.put, List.setIfInBounds_toArray, List.set_cons_zero, List.set_cons_succ]
      apply wpY_takeB 14; (case ho' => exact rfl); (case hg => exact rfl); (case hB => kernel_rfl); (case h => (intro w1; go_simp; exact ⟨rfl, Below.refl _ _⟩))
      simp only [Act.put, List.setIfInBounds_toArray, List.set_cons_zero, List.set_cons_succ]
      refine wpY_end (by kernel_rfl) (fun we161 ht => ?_)
      replace hB := hB.trans (ht.mono hB.size)
      replace p := p.below ht p.lt
      replace r := r.below ht r.lt
      clear ht
      go_upto_region 6 with (fail)
      have c5 : we161.cell? ⟨w.heap.size, 5, none⟩ = some (.int .u32 (f 5)) := p.cellIs (rfl)
      go_wp2_with (first
        | (go_at_call 133; with_reducible refine (ST.out _).mono ?_; rintro e w3 ⟨rfl, hb⟩; replace hB := hB.trans (hb.mono hB.size); replace p := p.below hb p.lt; replace r := r.below hb r.lt; clear hb)
        | (go_at_call 136; with_reducible refine (M2.out _).mono ?_; rintro e w4 ⟨rfl, hb⟩; replace hB := hB.trans (hb.mono hB.size); replace p := p.below hb p.lt; replace r := r.below hb r.lt; clear hb)
        | (go_at_call 28; with_reducible refine (UN.out _).mono ?_; rintro e w5 ⟨rfl, hb⟩; replace hB := hB.trans (hb.mono hB.size); replace p := p.below hb p.lt; replace r := r.below hb r.lt; clear hb)
        | (refine wpList_store_row rfl _ _ _ rfl _ rfl _ rfl _ _ r (by first | kernel_rfl | (rw [vfn_size]; kernel_rfl)) (by first | rfl | simp only [vfn_size]) (by first | exact vfn_one _ | rfl) ?_))
      refine bodyPost_ret (results_vec rfl _ _ _ _ _ _ _ rfl (r.row (vfn Y)) Try.underlying31 rfl (by first | kernel_rfl | (rw [vfn_size]; kernel_rfl))) rfl ?_
      refine ⟨?_, Below.setRow hB (by omega) _⟩
      rw [← HF.out, ← HE.out]
      rfl
end Go.Proofs.Ytkmelddejdikgaa
