/-
  Orbits: the vectors of the craft, the sun and a station are bounded and not zero. No program in sight.
-/
import Derived.Test.YtnkjbdfhdenbcaaOrbA
import Derived.Test.YtnkjbdfhdenbcaaLawVec
import Derived.Test.YtnkjbdfhdenbcaaLenM
set_option linter.unusedSimpArgs false
set_option linter.unusedVariables false
namespace Go.Proofs.Ytnkjbdfhdenbcaa
open Go.RowKit PM Dt
def orbU (f : Nat → Int) (t : Int) : Int := IntKind.u32.wrap (f 3 + angV t (f 0))
def plY (f : Nat → Int) (t : Int) : Int := mulV (sinI (orbU f t)) (cosI (f 5))
/-- The vectors ahead of their units: of the craft, the sun, a station. -/
def plX3 (f : Nat → Int) (t : Int) : Nat → Int := of3 (dotV [cosI (orbU f t), wrap64 (-plY f t)] [cosI (f 4), sinI (f 4)]) (dotV [cosI (orbU f t), plY f t] [sinI (f 4), cosI (f 4)]) (mulV (sinI (orbU f t)) (sinI (f 5)))
def orbS (f : Nat → Int) (t : Int) : Int := IntKind.u32.wrap (f 6 + angV t (f 2))
def suX3 (f : Nat → Int) (t : Int) : Nat → Int := of3 (cosI (orbS f t)) (sinI (orbS f t)) 0
def orbD (f g : Nat → Int) (t : Int) : Int := IntKind.u32.wrap (g 1 + angV t (f 1))
def stX3 (f g : Nat → Int) (t : Int) : Nat → Int := of3 (mulV (cosI (g 0)) (cosI (orbD f g t))) (mulV (cosI (g 0)) (sinI (orbD f g t))) (sinI (g 0))
theorem wrap_U (x : Int) : U32 (IntKind.u32.wrap x) := by unfold U32; rw [IntKind.wrap_u32]; omega
theorem sinI_b {x : Int} (h : U32 x) : -1073741824 ≤ sinI x ∧ sinI x ≤ 1073741824 := sinV_bound (t := x.toNat) (by have := h.2; omega)
theorem cosI_b {x : Int} (h : U32 x) : -1073741824 ≤ cosI x ∧ cosI x ≤ 1073741824 := sinV_bound (t := (x.toNat + 1073741824) % 4294967296) (by omega)
theorem sinI_I {x : Int} (h : U32 x) : I64 (sinI x) := by have := sinI_b h; exact ⟨by omega, by omega⟩
theorem cosI_I {x : Int} (h : U32 x) : I64 (cosI x) := by have := cosI_b h; exact ⟨by omega, by omega⟩
theorem dotV_I (xs ys : List Int) : I64 (dotV xs ys) := by
  unfold dotV
  split
  · exact ⟨by decide, by decide⟩
  · exact fitV_I _
theorem circI {x : Int} (h : U32 x) : 1152921487426977792 ≤ sinI x * sinI x + cosI x * cosI x ∧ sinI x * sinI x + cosI x * cosI x ≤ 1152921521786716160 := by
  have h1 := circle (t := x.toNat) (by have := h.2; omega)
  have h2 : cosI x = cosV x.toNat := rfl
  have h3 : sinI x = sinV x.toNat := rfl
  rw [h2, h3]
  generalize sinV x.toNat * sinV x.toNat = a at *
  generalize cosV x.toNat * cosV x.toNat = b at *
  omega
theorem mulV_rnd {a b : Int} (ha : -2147483648 ≤ a ∧ a ≤ 2147483648) (hb : -2147483648 ≤ b ∧ b ≤ 2147483648) : mulV a b = rnd (a * b) := by
  have p := bmul ha.1 ha.2 hb.1 hb.2
  unfold mulV ratioV ratioQ
  rw [if_neg (by decide), if_neg (by decide), nearest_one]
  exact (fit_of (by unfold rnd; omega) (by unfold rnd; omega)).1
theorem dot2_rnd {a b c d : Int} (ha : -2147483648 ≤ a ∧ a ≤ 2147483648) (hb : -2147483648 ≤ b ∧ b ≤ 2147483648) (hc : -2147483648 ≤ c ∧ c ≤ 2147483648) (hd : -2147483648 ≤ d ∧ d ≤ 2147483648) : dotV [a, b] [c, d] = rnd (a * c + b * d) := by
  rw [(fit2 (a0 := a) (a1 := b) (b0 := c) (b1 := d) ⟨by omega, by omega⟩ ⟨by omega, by omega⟩ ⟨by omega, by omega⟩ ⟨by omega, by omega⟩).1, ds2, Int.add_zero]
theorem rnd_0 {n : Int} (h : rnd n = 0) : -536870912 ≤ n ∧ n ≤ 536870912 := by unfold rnd at h; omega
theorem rnd_b {n B : Int} (h : -(1073741824 * B) ≤ n ∧ n ≤ 1073741824 * B) : -B ≤ rnd n ∧ rnd n ≤ B := by unfold rnd; omega
theorem half_sq {a : Int} (h : -536870912 ≤ a ∧ a ≤ 536870912) : a * a ≤ 288230376151711744 := (bmul (P := 536870912) (R := 536870912) h.1 h.2 h.1 h.2).2
/-- Where the sum of two squares is great, the two products are not both small. -/
theorem two_small {s a b : Int} (hs : 1152921487426977792 ≤ s * s) (hab : 1152921487426977792 ≤ a * a + b * b) (ha : -536870912 ≤ s * a ∧ s * a ≤ 536870912) (hb : -536870912 ≤ s * b ∧ s * b ≤ 536870912) : False := by
  have h1 := half_sq ha
  have h2 := half_sq hb
  have h3 : s * a * (s * a) + s * b * (s * b) = s * s * (a * a + b * b) := by grind
  have h4 : 1152921487426977792 * 1152921487426977792 ≤ s * s * (a * a + b * b) := Int.mul_le_mul hs hab (by decide) (by omega)
  omega
theorem plane_small {c y C S : Int} (hCS : 1152921487426977792 ≤ C * C + S * S) (h1 : -536870912 ≤ c * C + -y * S ∧ c * C + -y * S ≤ 536870912) (h2 : -536870912 ≤ c * S + y * C ∧ c * S + y * C ≤ 536870912) : c * c + y * y = 0 := by
  have q1 := half_sq h1
  have q2 := half_sq h2
  have e : (c * C + -y * S) * (c * C + -y * S) + (c * S + y * C) * (c * S + y * C) = (c * c + y * y) * (C * C + S * S) := by grind
  have n1 := sq_nn c
  have n2 := sq_nn y
  apply Classical.byContradiction; intro hn
  have h4 : 1 * 1152921487426977792 ≤ (c * c + y * y) * (C * C + S * S) := Int.mul_le_mul (by omega) hCS (by decide) (by omega)
  omega
theorem sq_zero {a b : Int} (h : a * a + b * b = 0) : a = 0 ∧ b = 0 := by
  have n1 := sq_nn a
  have n2 := sq_nn b
  constructor
  · rcases Int.mul_eq_zero.1 (show a * a = 0 by omega) with h | h <;> exact h
  · rcases Int.mul_eq_zero.1 (show b * b = 0 by omega) with h | h <;> exact h
theorem zV_at {f : Nat → Int} (h : zV f = true) : f 0 = 0 ∧ f 1 = 0 ∧ f 2 = 0 := by
  unfold zV at h
  rw [List.all_eq_true] at h
  have k : ∀ i, i < 3 → f i = 0 := fun i hi => beq_iff_eq.1 (h i (List.mem_range.2 hi))
  exact ⟨k 0 (by omega), k 1 (by omega), k 2 (by omega)⟩
theorem of3_I {a b c : Int} (ha : I64 a) (hb : I64 b) (hc : I64 c) : ∀ i, i < 3 → I64 (of3 a b c i) := fun i hi => by
  have : i = 0 ∨ i = 1 ∨ i = 2 := by omega
  rcases this with rfl | rfl | rfl
  · exact ha
  · exact hb
  · exact hc
theorem zV_of3 {a b c : Int} (h : zV (of3 a b c) = true) : a = 0 ∧ b = 0 ∧ c = 0 := zV_at h
theorem okV_of3 {a b c : Int} (ha : -4294967296 ≤ a ∧ a ≤ 4294967296) (hb : -4294967296 ≤ b ∧ b ≤ 4294967296) (hc : -4294967296 ≤ c ∧ c ≤ 4294967296) : okV (of3 a b c) = true := (okV_iff _).2 fun i hi => (vb_iff _).2 (by
  have : i = 0 ∨ i = 1 ∨ i = 2 := by omega
  rcases this with rfl | rfl | rfl
  · show _ ≤ a ∧ a ≤ _; omega
  · show _ ≤ b ∧ b ≤ _; omega
  · show _ ≤ c ∧ c ≤ _; omega)
theorem not_true {b : Bool} (h : b = true → False) : b = false := by cases b with | false => rfl | true => exact (h rfl).elim
abbrev Un (a : Int) : Prop := -1073741824 ≤ a ∧ a ≤ 1073741824
theorem one_b {a b : Int} (ha : Un a) (hb : Un b) : Un (rnd (a * b)) := by
  have p := bmul ha.1 ha.2 hb.1 hb.2
  exact rnd_b ⟨by omega, by omega⟩
theorem two_b {a b c d : Int} (ha : Un a) (hb : Un b) (hc : Un c) (hd : Un d) : -4294967296 ≤ rnd (a * b + c * d) ∧ rnd (a * b + c * d) ≤ 4294967296 := by
  have p := bmul ha.1 ha.2 hb.1 hb.2
  have q := bmul hc.1 hc.2 hd.1 hd.2
  have := rnd_b (n := a * b + c * d) (B := 2147483648) ⟨by omega, by omega⟩
  exact ⟨by omega, by omega⟩
theorem Un.w {a : Int} (h : Un a) : -2147483648 ≤ a ∧ a ≤ 2147483648 := ⟨by have := h.1; omega, by have := h.2; omega⟩
theorem Un.v {a : Int} (h : Un a) : -4294967296 ≤ a ∧ a ≤ 4294967296 := ⟨by have := h.1; omega, by have := h.2; omega⟩
theorem Un.n {a : Int} (h : Un a) : Un (-a) := ⟨by have := h.2; omega, by have := h.1; omega⟩
/-- The craft's vector: bounded, and not zero. -/
theorem pl_nz {s c S C a b y : Int} (k1 : 1152921487426977792 ≤ s * s + c * c) (k2 : 1152921487426977792 ≤ S * S + C * C) (k3 : 1152921487426977792 ≤ a * a + b * b) (hy : y = rnd (s * b))
    (z0 : rnd (c * C + -y * S) = 0) (z1 : rnd (c * S + y * C) = 0) (z2 : rnd (s * a) = 0) : False := by
  obtain ⟨c0, y0⟩ := sq_zero (plane_small (c := c) (y := y) (C := C) (S := S) (by omega) (rnd_0 z0) (rnd_0 z1))
  subst c0
  rw [y0] at hy
  exact two_small (s := s) (a := a) (b := b) (by omega) k3 (rnd_0 z2) (rnd_0 hy.symm)
theorem pl_core {u n i : Int} (hu : U32 u) (hn : U32 n) (hi : U32 i) {y : Int} (hy : y = mulV (sinI u) (cosI i)) :
    okV (of3 (dotV [cosI u, wrap64 (-y)] [cosI n, sinI n]) (dotV [cosI u, y] [sinI n, cosI n]) (mulV (sinI u) (sinI i))) = true ∧ zV (of3 (dotV [cosI u, wrap64 (-y)] [cosI n, sinI n]) (dotV [cosI u, y] [sinI n, cosI n]) (mulV (sinI u) (sinI i))) = false := by
  have su : Un (sinI u) := sinI_b hu
  have cu : Un (cosI u) := cosI_b hu
  have sn : Un (sinI n) := sinI_b hn
  have cn : Un (cosI n) := cosI_b hn
  have si : Un (sinI i) := sinI_b hi
  have ci : Un (cosI i) := cosI_b hi
  have k1 := (circI hu).1
  have k2 := (circI hn).1
  have k3 := (circI hi).1
  generalize sinI u = s at *
  generalize cosI u = c at *
  generalize sinI n = S at *
  generalize cosI n = C at *
  generalize sinI i = a at *
  generalize cosI i = b at *
  rw [mulV_rnd su.w ci.w] at hy
  have hyb : Un y := by rw [hy]; exact one_b su ci
  have hw : wrap64 (-y) = -y := by have := hyb.1; have := hyb.2; unfold wrap64; omega
  rw [hw, dot2_rnd cu.w hyb.n.w cn.w sn.w, dot2_rnd cu.w hyb.w sn.w cn.w, mulV_rnd su.w si.w]
  refine ⟨okV_of3 (two_b cu cn hyb.n sn) (two_b cu sn hyb cn) (one_b su si).v, not_true fun hz => ?_⟩
  obtain ⟨z0, z1, z2⟩ := zV_of3 hz
  exact pl_nz k1 k2 k3 hy z0 z1 z2
theorem su_core {u : Int} (hu : U32 u) : okV (of3 (cosI u) (sinI u) 0) = true ∧ zV (of3 (cosI u) (sinI u) 0) = false := by
  have su := sinI_b hu
  have cu := cosI_b hu
  have k1 := circI hu
  refine ⟨okV_of3 (by omega) (by omega) (by omega), not_true fun hz => ?_⟩
  obtain ⟨z0, z1, _⟩ := zV_of3 hz
  have z0' : cosI u = 0 := z0
  have z1' : sinI u = 0 := z1
  rw [z0', z1'] at k1
  omega
theorem st_nz {s c S C : Int} (k1 : 1152921487426977792 ≤ s * s + c * c) (k2 : 1152921487426977792 ≤ S * S + C * C) (z0 : rnd (c * C) = 0) (z1 : rnd (c * S) = 0) (z2 : s = 0) : False := by
  subst z2
  exact two_small (s := c) (a := C) (b := S) (by omega) (by omega) (rnd_0 z0) (rnd_0 z1)
theorem st_core {l a : Int} (hl : U32 l) (ha : U32 a) : okV (of3 (mulV (cosI l) (cosI a)) (mulV (cosI l) (sinI a)) (sinI l)) = true ∧ zV (of3 (mulV (cosI l) (cosI a)) (mulV (cosI l) (sinI a)) (sinI l)) = false := by
  have sl : Un (sinI l) := sinI_b hl
  have cl : Un (cosI l) := cosI_b hl
  have sa : Un (sinI a) := sinI_b ha
  have ca : Un (cosI a) := cosI_b ha
  have k1 := (circI hl).1
  have k2 := (circI ha).1
  generalize sinI l = s at *
  generalize cosI l = c at *
  generalize sinI a = S at *
  generalize cosI a = C at *
  rw [mulV_rnd cl.w ca.w, mulV_rnd cl.w sa.w]
  refine ⟨okV_of3 (one_b cl ca).v (one_b cl sa).v sl.v, not_true fun hz => ?_⟩
  obtain ⟨z0, z1, z2⟩ := zV_of3 hz
  exact st_nz k1 k2 z0 z1 z2
theorem plX3_ok {f : Nat → Int} (t : Int) (h : OO f) : okV (plX3 f t) = true ∧ zV (plX3 f t) = false := pl_core (wrap_U _) h.2.2.1 h.2.2.2.1 rfl
theorem suX3_ok (f : Nat → Int) (t : Int) : okV (suX3 f t) = true ∧ zV (suX3 f t) = false := su_core (wrap_U _)
theorem stX3_ok {g : Nat → Int} (f : Nat → Int) (t : Int) (h : SS g) : okV (stX3 f g t) = true ∧ zV (stX3 f g t) = false := st_core h.1 (wrap_U _)
/-- The answers. -/
def placeF (f : Nat → Int) (t : Int) : Nat → Int := if okO f && okT t then vunF (plX3 f t) else fun _ => 0
def placeE (f : Nat → Int) (t : Int) : Int := if okO f && okT t then 0 else 2
def sunF (f : Nat → Int) (t : Int) : Nat → Int := if okO f && okT t then vunF (suX3 f t) else fun _ => 0
def okS (g : Nat → Int) : Bool := (decide (g 0 ≤ 1073741824) || decide (3221225472 ≤ g 0)) && (decide (0 ≤ g 2) && decide (g 2 ≤ 1073741824))
def statF (f g : Nat → Int) (t : Int) : Nat → Int := if okO f && okT t && okS g then vunF (stX3 f g t) else fun _ => 0
def statE (f g : Nat → Int) (t : Int) : Int := if okO f && okT t && okS g then 0 else 2
theorem vunE_0 {f : Nat → Int} (h : okV f = true ∧ zV f = false) : vunE f = 0 := by unfold vunE; rw [h.1, h.2]; rfl
def dark0 (c R : Int) : Bool := decide (c < 0) && decide (wrap64 (1152921504606846976 - wrap64 (c * c)) < wrap64 (R * R))
def darkB (f : Nat → Int) (t : Int) : Bool := if okO f && okT t then dark0 (vdotV (placeF f t) (sunF f t)) (f 7) else false
def viewB (f g : Nat → Int) (t : Int) : Bool := if okO f && okT t && okS g then decide (g 2 ≤ vdotV (placeF f t) (statF f g t)) else false
end Go.Proofs.Ytnkjbdfhdenbcaa
