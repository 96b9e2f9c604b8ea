/-
  Sums of squares, and bounds of norms, in integers.
-/

set_option linter.unusedSimpArgs false
set_option linter.unusedVariables false
namespace Go.Proofs.Ytkmelddejdikgaa.La
theorem sqn (x : Int) : 0 ≤ x * x := by
  rcases Int.le_total 0 x with h | h
  · exact Int.mul_nonneg h h
  · have := Int.mul_nonneg (show 0 ≤ -x by omega) (show 0 ≤ -x by omega); rwa [Int.neg_mul_neg] at this
theorem le_of_sq {x y : Int} (hy : 0 ≤ y) (h : x * x ≤ y * y) : x ≤ y := by
  apply Int.not_lt.1; intro hc
  have : y * y < x * x := Int.mul_lt_mul' (Int.le_of_lt hc) hc hy (by omega)
  omega
theorem sq_le {x y : Int} (h0 : -y ≤ x) (h1 : x ≤ y) : x * x ≤ y * y := by
  have a := Int.mul_nonneg (show 0 ≤ y - x by omega) (show 0 ≤ y + x by omega)
  have e : (y - x) * (y + x) = y * y - x * x := by grind
  omega
theorem mulm {a b c d : Int} (h0 : 0 ≤ a) (h1 : a ≤ b) (h2 : 0 ≤ c) (h3 : c ≤ d) : a * c ≤ b * d :=
  Int.mul_le_mul h1 h3 h2 (by omega)
def sm : Nat → (Nat → Int) → Int
  | 0, _ => 0
  | n + 1, f => sm n f + f n
theorem sm_succ (n : Nat) (f : Nat → Int) : sm (n + 1) f = sm n f + f n := rfl
theorem sm_nn {n : Nat} {f : Nat → Int} (h : ∀ i, i < n → 0 ≤ f i) : 0 ≤ sm n f := by
  induction n with
  | zero => exact Int.le_refl _
  | succ n ih => have := ih fun i hi => h i (by omega); have := h n (by omega); unfold sm; omega
theorem sm_le {n : Nat} {f g : Nat → Int} (h : ∀ i, i < n → f i ≤ g i) : sm n f ≤ sm n g := by
  induction n with
  | zero => exact Int.le_refl _
  | succ n ih => have := ih fun i hi => h i (by omega); have := h n (by omega); unfold sm; omega
theorem sm_congr {n : Nat} {f g : Nat → Int} (h : ∀ i, i < n → f i = g i) : sm n f = sm n g := by
  induction n with
  | zero => rfl
  | succ n ih => unfold sm; rw [ih fun i hi => h i (by omega), h n (by omega)]
theorem sm_add (n : Nat) (f g : Nat → Int) : sm n (fun i => f i + g i) = sm n f + sm n g := by
  induction n with
  | zero => rfl
  | succ n ih => simp only [sm_succ]; rw [ih]; omega
theorem sm_mul (n : Nat) (c : Int) (f : Nat → Int) : sm n (fun i => c * f i) = c * sm n f := by
  induction n with
  | zero => simp [sm]
  | succ n ih => unfold sm; rw [ih, Int.mul_add]
theorem sm_const (n : Nat) (c : Int) : sm n (fun _ => c) = n * c := by
  induction n with
  | zero => simp [sm]
  | succ n ih => unfold sm; rw [ih]; grind
theorem sm_one {n : Nat} {f : Nat → Int} (h : ∀ i, i < n → 0 ≤ f i) {k : Nat} (hk : k < n) : f k ≤ sm n f := by
  induction n with
  | zero => omega
  | succ n ih =>
    have h0 := sm_nn fun i hi => h i (by omega : i < n + 1)
    unfold sm
    by_cases e : k = n
    · subst e; have := sm_nn (n := k) (f := f) fun i hi => h i (by omega); omega
    · have := ih (fun i hi => h i (by omega)) (by omega); have := h n (by omega); omega
/-- Cauchy and Schwarz. -/
theorem cs (n : Nat) (f g : Nat → Int) : sm n (fun i => f i * g i) * sm n (fun i => f i * g i) ≤ sm n (fun i => f i * f i) * sm n (fun i => g i * g i) := by
  induction n with
  | zero => exact Int.le_refl _
  | succ n ih =>
    simp only [sm_succ]
    have hF := sm_nn (n := n) (f := fun i => f i * f i) fun i _ => sqn _
    have hG := sm_nn (n := n) (f := fun i => g i * g i) fun i _ => sqn _
    generalize sm n (fun i => f i * g i) = A at *
    generalize sm n (fun i => f i * f i) = F at *
    generalize sm n (fun i => g i * g i) = G at *
    generalize f n = a
    generalize g n = b
    have hb := sqn b
    have ha := sqn a
    have h1 : 2 * (A * (a * b)) ≤ F * (b * b) + G * (a * a) := by
      apply le_of_sq
      · have := Int.mul_nonneg hF hb; have := Int.mul_nonneg hG ha; omega
      · have k1 : (F * (b * b) + G * (a * a)) * (F * (b * b) + G * (a * a)) - 4 * ((F * G) * ((a * a) * (b * b))) = (F * (b * b) - G * (a * a)) * (F * (b * b) - G * (a * a)) := by grind
        have k2 := sqn (F * (b * b) - G * (a * a))
        have k3 : (2 * (A * (a * b))) * (2 * (A * (a * b))) = 4 * ((A * A) * ((a * a) * (b * b))) := by grind
        have k4 := Int.mul_le_mul_of_nonneg_right ih (Int.mul_nonneg ha hb)
        omega
    have e1 : (A + a * b) * (A + a * b) = A * A + 2 * (A * (a * b)) + (a * a) * (b * b) := by grind
    have e2 : (F + a * a) * (G + b * b) = F * G + (F * (b * b) + G * (a * a)) + (a * a) * (b * b) := by grind
    omega
/-- The norm of a vector is at most a. -/
def NB (n : Nat) (v : Nat → Int) (a : Int) : Prop := 0 ≤ a ∧ sm n (fun i => v i * v i) ≤ a * a
theorem dot_le {n : Nat} {v w : Nat → Int} {a b : Int} (hv : NB n v a) (hw : NB n w b) : -(a * b) ≤ sm n (fun i => v i * w i) ∧ sm n (fun i => v i * w i) ≤ a * b := by
  have h := cs n v w
  have ha := sm_nn (n := n) (f := fun i => v i * v i) fun i _ => sqn _
  have hb := sm_nn (n := n) (f := fun i => w i * w i) fun i _ => sqn _
  have h2 := mulm ha hv.2 hb hw.2
  generalize sm n (fun i => v i * w i) = t at *
  have hab := Int.mul_nonneg hv.1 hw.1
  have e : (a * a) * (b * b) = (a * b) * (a * b) := by grind
  constructor
  · have := le_of_sq (x := -t) hab (by rw [Int.neg_mul_neg]; omega)
    omega
  · exact le_of_sq hab (by omega)
theorem NB.add {n : Nat} {v w : Nat → Int} {a b : Int} (hv : NB n v a) (hw : NB n w b) : NB n (fun i => v i + w i) (a + b) := by
  refine ⟨by have := hv.1; have := hw.1; omega, ?_⟩
  have d := dot_le hv hw
  have e : sm n (fun i => (v i + w i) * (v i + w i)) = sm n (fun i => v i * v i) + 2 * sm n (fun i => v i * w i) + sm n (fun i => w i * w i) := by
    rw [← sm_mul, ← sm_add, ← sm_add]
    exact sm_congr fun i _ => by grind
  have e2 : (a + b) * (a + b) = a * a + 2 * (a * b) + b * b := by grind
  have := hv.2
  have := hw.2
  rw [e, e2]
  omega
theorem NB.mul {n : Nat} {v : Nat → Int} {a : Int} (hv : NB n v a) {c : Int} (hc : 0 ≤ c) : NB n (fun i => c * v i) (c * a) := by
  refine ⟨Int.mul_nonneg hc hv.1, ?_⟩
  have e : sm n (fun i => (c * v i) * (c * v i)) = (c * c) * sm n (fun i => v i * v i) := by
    rw [← sm_mul]; exact sm_congr fun i _ => by grind
  rw [e, show c * a * (c * a) = (c * c) * (a * a) by grind]
  exact Int.mul_le_mul_of_nonneg_left hv.2 (sqn c)
theorem NB.neg {n : Nat} {v : Nat → Int} {a : Int} (hv : NB n v a) : NB n (fun i => -v i) a := by
  refine ⟨hv.1, ?_⟩
  rw [sm_congr fun i _ => Int.neg_mul_neg (v i) (v i)]
  exact hv.2
theorem NB.mono {n : Nat} {v : Nat → Int} {a b : Int} (hv : NB n v a) (h : a ≤ b) : NB n v b :=
  ⟨by have := hv.1; omega, Int.le_trans hv.2 (mulm hv.1 h hv.1 h)⟩
theorem NB.congr {n : Nat} {v w : Nat → Int} {a : Int} (hv : NB n v a) (h : ∀ i, i < n → v i = w i) : NB n w a :=
  ⟨hv.1, by rw [← sm_congr (f := fun i => v i * v i) fun i hi => by rw [h i hi]]; exact hv.2⟩
theorem le_cancel {a b c : Int} (hc : 0 < c) (h : c * a ≤ c * b) : a ≤ b := Int.le_of_mul_le_mul_left h hc
theorem NB.cancel {n : Nat} {v : Nat → Int} {a c : Int} (hc : 0 < c) (h : NB n (fun i => c * v i) (c * a)) : NB n v a := by
  obtain ⟨h0, h1⟩ := h
  refine ⟨le_cancel hc (by rw [Int.mul_zero]; exact h0), ?_⟩
  have e : sm n (fun i => (c * v i) * (c * v i)) = (c * c) * sm n (fun i => v i * v i) := by
    rw [← sm_mul]; exact sm_congr fun i _ => by grind
  rw [e, show c * a * (c * a) = (c * c) * (a * a) by grind] at h1
  exact le_cancel (Int.mul_pos hc hc) h1
theorem NB.at {n : Nat} {v : Nat → Int} {a : Int} (h : NB n v a) {i : Nat} (hi : i < n) : -a ≤ v i ∧ v i ≤ a := by
  have h1 := sm_one (f := fun i => v i * v i) (fun i _ => sqn _) hi
  have h2 : v i * v i ≤ a * a := Int.le_trans h1 h.2
  exact ⟨by have := le_of_sq (x := -v i) h.1 (by rw [Int.neg_mul_neg]; exact h2); omega, le_of_sq h.1 h2⟩
theorem NB.of {n : Nat} {v : Nat → Int} {c a : Int} (h : ∀ i, i < n → -c ≤ v i ∧ v i ≤ c) (ha : 0 ≤ a) (hc : n * (c * c) ≤ a * a) : NB n v a := by
  refine ⟨ha, Int.le_trans (sm_le (g := fun _ => c * c) fun i hi => sq_le (h i hi).1 (h i hi).2) ?_⟩
  rw [sm_const]; exact hc
/-- Entries of a table of three rows, as one list. -/
theorem sm9 (f : Nat → Int) : sm 9 f = sm 3 (fun j => sm 3 (fun k => f (j * 3 + k))) := by
  simp [sm]; omega
/-- The product of a table and a vector. -/
theorem NB.app {B r : Nat → Int} {b p : Int} (hB : NB 9 B b) (hr : NB 3 r p) : NB 3 (fun j => sm 3 (fun k => B (j * 3 + k) * r k)) (b * p) := by
  refine ⟨Int.mul_nonneg hB.1 hr.1, ?_⟩
  have h1 : sm 3 (fun j => sm 3 (fun k => B (j * 3 + k) * r k) * sm 3 (fun k => B (j * 3 + k) * r k)) ≤ sm 3 (fun j => sm 3 (fun k => r k * r k) * sm 3 (fun k => B (j * 3 + k) * B (j * 3 + k))) :=
    sm_le fun j _ => by rw [Int.mul_comm (sm 3 fun k => r k * r k)]; exact cs 3 (fun k => B (j * 3 + k)) r
  rw [sm_mul] at h1
  have e := sm9 (fun i => B i * B i)
  have h2 := hB.2
  rw [e] at h2
  have hn : 0 ≤ sm 3 (fun j => sm 3 (fun k => B (j * 3 + k) * B (j * 3 + k))) := sm_nn fun j _ => sm_nn fun k _ => sqn _
  have hr0 := sm_nn (n := 3) (f := fun i => r i * r i) fun i _ => sqn _
  have h3 := mulm hr0 hr.2 hn h2
  rw [show b * p * (b * p) = (p * p) * (b * b) by grind]
  exact Int.le_trans h1 h3
/-- The product of two tables (rows by rows). -/
theorem NB.sqr {B C : Nat → Int} {b c : Int} (hB : NB 9 B b) (hC : NB 9 C c) : NB 9 (fun i => sm 3 (fun l => B (i / 3 * 3 + l) * C (i % 3 * 3 + l))) (b * c) := by
  refine ⟨Int.mul_nonneg hB.1 hC.1, ?_⟩
  rw [sm9]
  have h1 : sm 3 (fun j => sm 3 (fun k => sm 3 (fun l => B ((j * 3 + k) / 3 * 3 + l) * C ((j * 3 + k) % 3 * 3 + l)) * sm 3 (fun l => B ((j * 3 + k) / 3 * 3 + l) * C ((j * 3 + k) % 3 * 3 + l)))) ≤
      sm 3 (fun j => sm 3 (fun k => sm 3 (fun l => B (j * 3 + l) * B (j * 3 + l)) * sm 3 (fun l => C (k * 3 + l) * C (k * 3 + l)))) := by
    refine sm_le fun j hj => sm_le fun k hk => ?_
    rw [show (j * 3 + k) / 3 = j by omega, show (j * 3 + k) % 3 = k by omega]
    exact cs 3 (fun l => B (j * 3 + l)) (fun l => C (k * 3 + l))
  refine Int.le_trans h1 ?_
  rw [sm_congr (g := fun j => sm 3 (fun k => sm 3 fun l => C (k * 3 + l) * C (k * 3 + l)) * sm 3 (fun l => B (j * 3 + l) * B (j * 3 + l))) fun j _ => by rw [sm_mul, Int.mul_comm], sm_mul]
  rw [← sm9 (fun i => C i * C i), ← sm9 (fun i => B i * B i), show b * c * (b * c) = (c * c) * (b * b) by grind]
  exact mulm (sm_nn fun i _ => sqn _) hC.2 (sm_nn fun i _ => sqn _) hB.2
/-- The table of the products of two vectors. -/
theorem NB.out {r q : Nat → Int} {a b : Int} (hr : NB 3 r a) (hq : NB 3 q b) : NB 9 (fun i => r (i / 3) * q (i % 3)) (a * b) := by
  refine ⟨Int.mul_nonneg hr.1 hq.1, ?_⟩
  rw [sm9, sm_congr (g := fun j => sm 3 (fun k => q k * q k) * (r j * r j)) fun j hj => by
    rw [Int.mul_comm, ← sm_mul]
    exact sm_congr fun k hk => by show r ((j * 3 + k) / 3) * q ((j * 3 + k) % 3) * (r ((j * 3 + k) / 3) * q ((j * 3 + k) % 3)) = _; rw [show (j * 3 + k) / 3 = j by omega, show (j * 3 + k) % 3 = k by omega]; grind]
  rw [sm_mul, show a * b * (a * b) = (b * b) * (a * a) by grind]
  exact mulm (sm_nn fun i _ => sqn _) hq.2 (sm_nn fun i _ => sqn _) hr.2
end Go.Proofs.Ytkmelddejdikgaa.La
namespace Go.Proofs.Ytkmelddejdikgaa.La
/-- One squaring: what it makes of the bounds. l: the entry 0, 0; r: the rest of row 0; B: the other block; s: what is divided by; N: the norm of the basis. -/
structure StepH (D p b h p' b' : Int) : Prop where
  D0 : 0 < D
  p0 : 0 ≤ p
  b0 : 0 ≤ b
  h0 : 0 ≤ h
  hD : h < D
  p1 : D * p + b * p + D * h ≤ p' * (D - h)
  b1 : p * p + b * b + D * h ≤ b' * (D - h)
theorem step_l {D p b h p' b' N s l l' R x X : Int} (H : StepH D p b h p' b') (hR : 0 ≤ R) (hl : 0 < l) (hs : 0 < s) (hN : 0 < N)
    (e : 2 * s * N * l' = 2 * (l * l + R) + N * x) (hx : -X ≤ x) (hX : D * (N * X) ≤ 2 * (h * (l * l))) : 2 * ((l * l) * (D - h)) ≤ (2 * s * N) * (D * l') := by
  have h1 : N * (-X) ≤ N * x := Int.mul_le_mul_of_nonneg_left hx (by omega)
  have h2 : D * (2 * s * N * l') = 2 * (D * (l * l)) + 2 * (D * R) + D * (N * x) := by rw [e]; grind
  have h3 : D * (N * (-X)) ≤ D * (N * x) := Int.mul_le_mul_of_nonneg_left h1 (by have := H.D0; omega)
  have h4 : D * (N * (-X)) = -(D * (N * X)) := by grind
  have h5 : 0 ≤ D * R := Int.mul_nonneg (by have := H.D0; omega) hR
  have e1 : (l * l) * (D - h) = D * (l * l) - h * (l * l) := by grind
  have e2 : (2 * s * N) * (D * l') = D * (2 * s * N * l') := by grind
  rw [e1, e2, h2]
  omega
theorem step_pos {D h s N l l' : Int} (hh : h < D) (hD : 0 < D) (hl : 0 < l) (hs : 0 < s) (hN : 0 < N) (h1 : 2 * ((l * l) * (D - h)) ≤ (2 * s * N) * (D * l')) : 0 < l' := by
  apply Int.not_le.1; intro hc
  have a : 0 < (l * l) * (D - h) := Int.mul_pos (Int.mul_pos hl hl) (by omega)
  have b : (2 * s * N) * (D * l') ≤ 0 := Int.mul_nonpos_of_nonneg_of_nonpos (Int.mul_nonneg (Int.mul_nonneg (by omega) (by omega)) (by omega)) (Int.mul_nonpos_of_nonneg_of_nonpos (by omega) hc)
  omega
/-- The scaling of a bound by what is divided by. -/
theorem step_fin {n : Nat} {D q c h s N l l' : Int} {v : Nat → Int} (hh : h < D) (hD : 0 < D) (hs : 0 < s) (hN : 0 < N) (hq : 0 ≤ q) (hl' : 0 < l') (h1 : 2 * ((l * l) * (D - h)) ≤ (2 * s * N) * (D * l')) (hc : c ≤ q * (D - h))
    (hv : NB n (fun i => (2 * s * N * D) * (D * v i)) (2 * ((l * l) * c))) : NB n (fun i => D * v i) (q * l') := by
  have hk : 0 < 2 * s * N * D := Int.mul_pos (Int.mul_pos (Int.mul_pos (by omega) hs) hN) hD
  refine NB.cancel hk (hv.mono ?_)
  have a1 : (l * l) * c ≤ (l * l) * (q * (D - h)) := Int.mul_le_mul_of_nonneg_left hc (sqn l)
  have a2 : q * (2 * ((l * l) * (D - h))) ≤ q * ((2 * s * N) * (D * l')) := Int.mul_le_mul_of_nonneg_left h1 hq
  have e1 : q * (2 * ((l * l) * (D - h))) = 2 * ((l * l) * (q * (D - h))) := by grind
  have e2 : q * ((2 * s * N) * (D * l')) = 2 * s * N * D * (q * l') := by grind
  omega
theorem step_r {D p b h p' b' N s l l' X : Int} {r B r' x : Nat → Int} (H : StepH D p b h p' b') (hp' : 0 ≤ p') (hl : 0 < l) (hs : 0 < s) (hN : 0 < N) (hl' : 0 < l')
    (h1 : 2 * ((l * l) * (D - h)) ≤ (2 * s * N) * (D * l'))
    (hr : NB 3 (fun i => D * r i) (p * l)) (hB : NB 9 (fun i => D * B i) (b * l)) (hx : NB 3 x X) (hX : D * (N * X) ≤ 2 * (h * (l * l)))
    (e : ∀ j, j < 3 → 2 * s * N * r' j = 2 * (l * r j + sm 3 (fun k => B (j * 3 + k) * r k)) + N * x j) : NB 3 (fun i => D * r' i) (p' * l') := by
  have D0 := H.D0
  refine step_fin H.hD D0 hs hN hp' hl' h1 H.p1 ?_
  have a1 : NB 3 (fun i => (2 * (D * l)) * (D * r i)) ((2 * (D * l)) * (p * l)) := hr.mul (Int.mul_nonneg (by omega) (Int.mul_nonneg (by omega) (by omega)))
  have a2 := (NB.app hB hr).mul (c := 2) (by omega)
  have a3 := hx.mul (c := D * D * N) (Int.mul_nonneg (Int.mul_nonneg (by omega) (by omega)) (by omega))
  refine ((a1.add (a2.add a3)).congr fun j hj => ?_).mono ?_
  · have e0 := e j hj
    have e1 : sm 3 (fun k => D * B (j * 3 + k) * (D * r k)) = (D * D) * sm 3 (fun k => B (j * 3 + k) * r k) := by
      rw [← sm_mul]; exact sm_congr fun k _ => by grind
    rw [e1]
    generalize sm 3 (fun k => B (j * 3 + k) * r k) = S at *
    have e2 : 2 * s * N * D * (D * r' j) = D * D * (2 * s * N * r' j) := by grind
    rw [e2, e0]
    grind
  · have : D * (D * (N * X)) ≤ D * (2 * (h * (l * l))) := Int.mul_le_mul_of_nonneg_left hX (by omega)
    have e1 : D * D * N * X = D * (D * (N * X)) := by grind
    have e2 : 2 * ((l * l) * (D * p + b * p + D * h)) = 2 * (D * l) * (p * l) + (2 * (b * l * (p * l)) + D * (2 * (h * (l * l)))) := by grind
    omega
theorem step_B {D p b h p' b' N s l l' X : Int} {r B B' x : Nat → Int} (H : StepH D p b h p' b') (hb' : 0 ≤ b') (hl : 0 < l) (hs : 0 < s) (hN : 0 < N) (hl' : 0 < l')
    (h1 : 2 * ((l * l) * (D - h)) ≤ (2 * s * N) * (D * l'))
    (hr : NB 3 (fun i => D * r i) (p * l)) (hB : NB 9 (fun i => D * B i) (b * l)) (hx : NB 9 x X) (hX : D * (N * X) ≤ 2 * (h * (l * l)))
    (e : ∀ i, i < 9 → 2 * s * N * B' i = 2 * (r (i / 3) * r (i % 3) + sm 3 (fun k => B (i / 3 * 3 + k) * B (i % 3 * 3 + k))) + N * x i) : NB 9 (fun i => D * B' i) (b' * l') := by
  have D0 := H.D0
  refine step_fin H.hD D0 hs hN hb' hl' h1 H.b1 ?_
  have a1 := (NB.out hr hr).mul (c := 2) (by omega)
  have a2 := (NB.sqr hB hB).mul (c := 2) (by omega)
  have a3 := hx.mul (c := D * D * N) (Int.mul_nonneg (Int.mul_nonneg (by omega) (by omega)) (by omega))
  refine ((a1.add (a2.add a3)).congr fun i hi => ?_).mono ?_
  · have e0 := e i hi
    have e1 : sm 3 (fun k => D * B (i / 3 * 3 + k) * (D * B (i % 3 * 3 + k))) = (D * D) * sm 3 (fun k => B (i / 3 * 3 + k) * B (i % 3 * 3 + k)) := by
      rw [← sm_mul]; exact sm_congr fun k _ => by grind
    rw [e1]
    generalize sm 3 (fun k => B (i / 3 * 3 + k) * B (i % 3 * 3 + k)) = S at *
    have e2 : 2 * s * N * D * (D * B' i) = D * D * (2 * s * N * B' i) := by grind
    rw [e2, e0]
    grind
  · have : D * (D * (N * X)) ≤ D * (2 * (h * (l * l))) := Int.mul_le_mul_of_nonneg_left hX (by omega)
    have e1 : D * D * N * X = D * (D * (N * X)) := by grind
    have e2 : 2 * ((l * l) * (p * p + b * b + D * h)) = 2 * (p * l * (p * l)) + (2 * (b * l * (b * l)) + D * (2 * (h * (l * l)))) := by grind
    omega
end Go.Proofs.Ytkmelddejdikgaa.La
namespace Go.Proofs.Ytkmelddejdikgaa.La
/-- Four rows of four. -/
def dt (v w : Nat → Int) : Int := v 0 * w 0 + v 1 * w 1 + v 2 * w 2 + v 3 * w 3
def ap4 (S v : Nat → Int) : Nat → Int := fun i => S (i * 4) * v 0 + S (i * 4 + 1) * v 1 + S (i * 4 + 2) * v 2 + S (i * 4 + 3) * v 3
def sym (S : Nat → Int) : Prop := S 1 = S 4 ∧ S 2 = S 8 ∧ S 3 = S 12 ∧ S 6 = S 9 ∧ S 7 = S 13 ∧ S 11 = S 14
/-- The basis that a quaternion makes. -/
def En (u : Nat → Int) : Nat → Nat → Int
  | 0 => fun i => match i with | 0 => u 0 | 1 => u 1 | 2 => u 2 | _ => u 3
  | 1 => fun i => match i with | 0 => -u 1 | 1 => u 0 | 2 => u 3 | _ => -u 2
  | 2 => fun i => match i with | 0 => -u 2 | 1 => -u 3 | 2 => u 0 | _ => u 1
  | _ => fun i => match i with | 0 => -u 3 | 1 => u 2 | 2 => -u 1 | _ => u 0
def Tn (S u : Nat → Int) (a b : Nat) : Int := dt (ap4 S (En u a)) (En u b)
def SQ (S : Nat → Int) : Nat → Int := fun j => S (j / 4 * 4) * S (j % 4) + S (j / 4 * 4 + 1) * S (4 + j % 4) + S (j / 4 * 4 + 2) * S (8 + j % 4) + S (j / 4 * 4 + 3) * S (12 + j % 4)
theorem compl (u v w : Nat → Int) : dt u u * dt v w = dt v (En u 0) * dt w (En u 0) + dt v (En u 1) * dt w (En u 1) + dt v (En u 2) * dt w (En u 2) + dt v (En u 3) * dt w (En u 3) := by
  unfold dt
  simp only [En]
  generalize u 0 = a0; generalize u 1 = a1; generalize u 2 = a2; generalize u 3 = a3
  generalize v 0 = b0; generalize v 1 = b1; generalize v 2 = b2; generalize v 3 = b3
  generalize w 0 = c0; generalize w 1 = c1; generalize w 2 = c2; generalize w 3 = c3
  grind
theorem ap4_sym {S : Nat → Int} (h : sym S) (v w : Nat → Int) : dt (ap4 S v) w = dt v (ap4 S w) := by
  obtain ⟨h1, h2, h3, h4, h5, h6⟩ := h
  simp only [dt, ap4, Nat.zero_mul, Nat.zero_add, Nat.one_mul, Nat.reduceMul, Nat.reduceAdd, h1, h2, h3, h4, h5, h6]
  grind
theorem dt_comm (v w : Nat → Int) : dt v w = dt w v := by unfold dt; grind
theorem Tn_comm {S : Nat → Int} (h : sym S) (u : Nat → Int) (a b : Nat) : Tn S u a b = Tn S u b a := by
  unfold Tn; rw [ap4_sym h, dt_comm]
theorem ap4_SQ (S v : Nat → Int) : ∀ i, i < 4 → ap4 (SQ S) v i = ap4 S (ap4 S v) i := by
  intro i hi
  have d0 : ∀ k, k < 4 → (i * 4 + k) / 4 = i := fun k hk => by omega
  have d1 : ∀ k, k < 4 → (i * 4 + k) % 4 = k := fun k hk => by omega
  have q0 := d0 0 (by omega); have q1 := d1 0 (by omega)
  rw [Nat.add_zero] at q0 q1
  simp only [ap4, SQ, q0, q1, d0 1 (by omega), d0 2 (by omega), d0 3 (by omega), d1 1 (by omega), d1 2 (by omega), d1 3 (by omega), Nat.zero_mul, Nat.zero_add, Nat.one_mul, Nat.reduceMul, Nat.reduceAdd]
  generalize S (i * 4) = s0; generalize S (i * 4 + 1) = s1; generalize S (i * 4 + 2) = s2; generalize S (i * 4 + 3) = s3
  generalize v 0 = b0; generalize v 1 = b1; generalize v 2 = b2; generalize v 3 = b3
  grind
theorem dt_congr {v v' w : Nat → Int} (h : ∀ i, i < 4 → v i = v' i) : dt v w = dt v' w := by
  unfold dt; rw [h 0 (by omega), h 1 (by omega), h 2 (by omega), h 3 (by omega)]
theorem Tn_SQ {S : Nat → Int} (h : sym S) (u : Nat → Int) (a b : Nat) : dt u u * Tn (SQ S) u a b = Tn S u a 0 * Tn S u b 0 + Tn S u a 1 * Tn S u b 1 + Tn S u a 2 * Tn S u b 2 + Tn S u a 3 * Tn S u b 3 := by
  have e : Tn (SQ S) u a b = dt (ap4 S (En u a)) (ap4 S (En u b)) := by
    unfold Tn
    rw [dt_congr (ap4_SQ S (En u a)), ap4_sym h]
  rw [e, compl]
  rfl
theorem Tn_lin {S S' X : Nat → Int} {s : Int} (h : ∀ j, j < 16 → s * S' j = 2 * S j + X j) (u : Nat → Int) (a b : Nat) : s * Tn S' u a b = 2 * Tn S u a b + Tn X u a b := by
  have key : ∀ v w : Nat → Int, s * dt (ap4 S' v) w = 2 * dt (ap4 S v) w + dt (ap4 X v) w := fun v w => by
    have x : ∀ i, i < 16 → X i = s * S' i - 2 * S i := fun i hi => by have := h i hi; omega
    simp only [dt, ap4, Nat.zero_mul, Nat.zero_add, Nat.one_mul, Nat.reduceMul, Nat.reduceAdd, x 0 (by omega), x 1 (by omega), x 2 (by omega), x 3 (by omega), x 4 (by omega), x 5 (by omega), x 6 (by omega), x 7 (by omega), x 8 (by omega), x 9 (by omega), x 10 (by omega), x 11 (by omega), x 12 (by omega), x 13 (by omega), x 14 (by omega), x 15 (by omega)]
    grind
  exact key _ _
/-- The sum of all squares, in the basis. -/
theorem Tn_F (X u : Nat → Int) : sm 4 (fun a => sm 4 (fun b => Tn X u a b * Tn X u a b)) = (dt u u * dt u u) * sm 16 (fun j => X j * X j) := by
  have h1 : ∀ a, sm 4 (fun b => Tn X u a b * Tn X u a b) = dt u u * dt (ap4 X (En u a)) (ap4 X (En u a)) := fun a => by
    rw [compl]; simp only [sm, Tn]; omega
  rw [sm_congr fun a _ => h1 a, sm_mul]
  have h2 : sm 4 (fun a => dt (ap4 X (En u a)) (ap4 X (En u a))) = dt u u * sm 16 (fun j => X j * X j) := by
    have c := fun i => compl u (fun k => X (i * 4 + k)) (fun k => X (i * 4 + k))
    have e : ∀ i, dt (fun k => X (i * 4 + k)) (fun k => X (i * 4 + k)) = X (i * 4) * X (i * 4) + X (i * 4 + 1) * X (i * 4 + 1) + X (i * 4 + 2) * X (i * 4 + 2) + X (i * 4 + 3) * X (i * 4 + 3) := fun i => rfl
    have e2 : ∀ a i, dt (fun k => X (i * 4 + k)) (En u a) = ap4 X (En u a) i := fun a i => rfl
    have c0 := c 0; have c1 := c 1; have c2 := c 2; have c3 := c 3
    simp only [e, e2] at c0 c1 c2 c3
    simp only [sm, dt, Nat.zero_mul, Nat.zero_add, Nat.one_mul, Nat.reduceMul, Nat.reduceAdd] at c0 c1 c2 c3 ⊢
    generalize u 0 * u 0 + u 1 * u 1 + u 2 * u 2 + u 3 * u 3 = N at *
    simp only [Int.mul_add, Int.mul_zero, Int.zero_add] at c0 c1 c2 c3 ⊢
    omega
  rw [h2]; grind
/-- What is left of small entries. -/
theorem Tn_small {X u : Nat → Int} {c : Int} (hc : 0 ≤ c) (h : ∀ j, j < 16 → -c ≤ X j ∧ X j ≤ c) : NB 16 (fun i => Tn X u (i / 4) (i % 4)) (4 * c * dt u u) := by
  have hN : 0 ≤ dt u u := by
    have a := sqn (u 0); have b := sqn (u 1); have d := sqn (u 2); have e := sqn (u 3)
    show 0 ≤ u 0 * u 0 + u 1 * u 1 + u 2 * u 2 + u 3 * u 3
    omega
  refine ⟨Int.mul_nonneg (by omega) hN, ?_⟩
  have e : sm 16 (fun i => Tn X u (i / 4) (i % 4) * Tn X u (i / 4) (i % 4)) = sm 4 (fun a => sm 4 (fun b => Tn X u a b * Tn X u a b)) := by
    simp only [sm, Nat.reduceDiv, Nat.reduceMod]; omega
  rw [e, Tn_F]
  have h2 : sm 16 (fun j => X j * X j) ≤ 16 * (c * c) := by
    refine Int.le_trans (sm_le (g := fun _ => c * c) fun i hi => sq_le (h i hi).1 (h i hi).2) ?_
    rw [sm_const]; exact Int.le_refl _
  have := Int.mul_le_mul_of_nonneg_left h2 (sqn (dt u u))
  have e3 : 4 * c * dt u u * (4 * c * dt u u) = dt u u * dt u u * (16 * (c * c)) := by grind
  omega
theorem NB.sub3 {v : Nat → Nat → Int} {a : Int} (h : NB 16 (fun i => v (i / 4) (i % 4)) a) : NB 3 (fun j => v 0 (j + 1)) a ∧ NB 3 (fun j => v (j + 1) 0) a ∧ NB 9 (fun i => v (i / 3 + 1) (i % 3 + 1)) a ∧ -a ≤ v 0 0 ∧ v 0 0 ≤ a := by
  have h0 := h.at (i := 0) (by omega)
  obtain ⟨ha, h⟩ := h
  simp only [sm, Nat.reduceDiv, Nat.reduceMod] at h
  have q := fun i k => sqn (v i k)
  have q00 := q 0 0; have q01 := q 0 1; have q02 := q 0 2; have q03 := q 0 3
  have q10 := q 1 0; have q11 := q 1 1; have q12 := q 1 2; have q13 := q 1 3
  have q20 := q 2 0; have q21 := q 2 1; have q22 := q 2 2; have q23 := q 2 3
  have q30 := q 3 0; have q31 := q 3 1; have q32 := q 3 2; have q33 := q 3 3
  refine ⟨⟨ha, ?_⟩, ⟨ha, ?_⟩, ⟨ha, ?_⟩, h0⟩
  · simp only [sm, Nat.reduceAdd]; omega
  · simp only [sm, Nat.reduceAdd]; omega
  · simp only [sm, Nat.reduceDiv, Nat.reduceMod, Nat.reduceAdd]; omega
end Go.Proofs.Ytkmelddejdikgaa.La
namespace Go.Proofs.Ytkmelddejdikgaa.La
/-- What is known of a table in the basis of a quaternion. -/
structure StV (D L p b : Int) (S u : Nat → Int) : Prop where
  sy : sym S
  l0 : L * dt u u ≤ Tn S u 0 0
  r : NB 3 (fun j => D * Tn S u 0 (j + 1)) (p * Tn S u 0 0)
  B : NB 9 (fun i => D * Tn S u (i / 3 + 1) (i % 3 + 1)) (b * Tn S u 0 0)
structure StepN (D L p b h G K L' p' b' : Int) : Prop where
  H : StepH D p b h p' b'
  L0 : 0 < L
  p' : 0 ≤ p'
  b' : 0 ≤ b'
  G0 : 0 ≤ G
  k : D * D * 2147483648 ≤ K * (L * L)
  g : D * D + 2 * (p * p) + b * b + K ≤ G
  x : 4 * D * (1152921504606846976 * (D * D) + G * (L * L)) ≤ 2 * h * (L * L) * (D * D) * 1073741824
  l : L' * G ≤ D * 1073741824 * (D - h)
def trq (S : Nat → Int) : Int := SQ S 0 + SQ S 5 + SQ S 10 + SQ S 15
theorem trq_eq {S : Nat → Int} (h : sym S) : trq S = sm 16 (fun j => S j * S j) := by
  obtain ⟨h1, h2, h3, h4, h5, h6⟩ := h
  simp only [trq, SQ, sm, Nat.reduceDiv, Nat.reduceMod, Nat.reduceMul, Nat.reduceAdd, h1, h2, h3, h4, h5, h6, Nat.zero_mul]
  grind
/-- The upper bound of what is divided by. -/
theorem sig_up {D L p b h G K L' p' b' s : Int} {S u : Nat → Int} (W : StepN D L p b h G K L' p' b') (V : StV D L p b S u) (hN : 0 < dt u u) (h2 : 1073741824 * s ≤ trq S + 2147483648) :
    D * D * (1073741824 * s * (dt u u * dt u u)) ≤ G * (Tn S u 0 0 * Tn S u 0 0) := by
  have hD := W.H.D0
  have hl : 0 < Tn S u 0 0 := by have := Int.mul_pos W.L0 hN; have := V.l0; omega
  have e1 := Tn_F S u
  rw [← trq_eq V.sy] at e1
  have e2 : sm 4 (fun a => sm 4 (fun b => Tn S u a b * Tn S u a b)) = Tn S u 0 0 * Tn S u 0 0 + 2 * sm 3 (fun j => Tn S u 0 (j + 1) * Tn S u 0 (j + 1)) + sm 9 (fun i => Tn S u (i / 3 + 1) (i % 3 + 1) * Tn S u (i / 3 + 1) (i % 3 + 1)) := by
    simp only [sm, Nat.reduceDiv, Nat.reduceMod, Nat.reduceAdd, Tn_comm V.sy u 1 0, Tn_comm V.sy u 2 0, Tn_comm V.sy u 3 0]; omega
  rw [e2] at e1
  have r2 := V.r.2
  have B2 := V.B.2
  have e3 : sm 3 (fun j => D * Tn S u 0 (j + 1) * (D * Tn S u 0 (j + 1))) = D * D * sm 3 (fun j => Tn S u 0 (j + 1) * Tn S u 0 (j + 1)) := by
    rw [← sm_mul]; exact sm_congr fun i _ => by grind
  have e4 : sm 9 (fun i => D * Tn S u (i / 3 + 1) (i % 3 + 1) * (D * Tn S u (i / 3 + 1) (i % 3 + 1))) = D * D * sm 9 (fun i => Tn S u (i / 3 + 1) (i % 3 + 1) * Tn S u (i / 3 + 1) (i % 3 + 1)) := by
    rw [← sm_mul]; exact sm_congr fun i _ => by grind
  rw [e3] at r2
  rw [e4] at B2
  have l0 := V.l0
  have hL := W.L0
  have hk := W.k
  have hg := W.g
  generalize Tn S u 0 0 = l at *
  generalize sm 3 (fun j => Tn S u 0 (j + 1) * Tn S u 0 (j + 1)) = R at *
  generalize sm 9 (fun i => Tn S u (i / 3 + 1) (i % 3 + 1) * Tn S u (i / 3 + 1) (i % 3 + 1)) = Q at *
  generalize dt u u = N at *
  generalize trq S = T at *
  have a1 : (L * N) * (L * N) ≤ l * l := mulm (Int.mul_nonneg (by omega) (by omega)) l0 (Int.mul_nonneg (by omega) (by omega)) l0
  have hLL : 0 < L * L := Int.mul_pos hL hL
  have hK : 0 ≤ K := by
    have : 0 ≤ D * D * 2147483648 := Int.mul_nonneg (sqn D) (by omega)
    have h3 : 0 * (L * L) ≤ K * (L * L) := by rw [Int.zero_mul]; omega
    exact Int.le_of_mul_le_mul_right h3 hLL
  have a2 : D * D * 2147483648 * (N * N) ≤ K * (l * l) := by
    have b1 := Int.mul_le_mul_of_nonneg_right hk (sqn N)
    have b2 := Int.mul_le_mul_of_nonneg_left a1 hK
    have e5 : K * (L * L) * (N * N) = K * (L * N * (L * N)) := by grind
    omega
  have a3 := Int.mul_le_mul_of_nonneg_right h2 (sqn N)
  have a4 := Int.mul_le_mul_of_nonneg_left a3 (sqn D)
  have a5 := Int.mul_le_mul_of_nonneg_right hg (sqn l)
  have e6 : D * D * ((T + 2147483648) * (N * N)) = D * D * (N * N * T) + D * D * 2147483648 * (N * N) := by grind
  have e7 : D * D * (l * l + 2 * R + Q) = D * D * (l * l) + 2 * (D * D * R) + D * D * Q := by grind
  have e8 : (D * D + 2 * (p * p) + b * b + K) * (l * l) = D * D * (l * l) + 2 * (p * l * (p * l)) + b * l * (b * l) + K * (l * l) := by grind
  rw [e6, ← e1, e7] at a4
  rw [e8] at a5
  omega
/-- One squaring keeps the bounds. -/
theorem stepS {D L p b h G K L' p' b' s : Int} {S S' X u : Nat → Int} (W : StepN D L p b h G K L' p' b') (V : StV D L p b S u) (hN : 0 < dt u u) (hs : 0 < s) (hsy : sym S')
    (hE : ∀ j, j < 16 → 2 * s * S' j = 2 * SQ S j + X j) (hX : ∀ j, j < 16 → -(1073741824 + s) ≤ X j ∧ X j ≤ 1073741824 + s) (h2 : 1073741824 * s ≤ trq S + 2147483648) : StV D L' p' b' S' u := by
  have up := sig_up W V hN h2
  have hD := W.H.D0
  have hl : 0 < Tn S u 0 0 := by have := Int.mul_pos W.L0 hN; have := V.l0; omega
  have lin := Tn_lin hE u
  have sqv := Tn_SQ V.sy u
  have small := NB.sub3 (Tn_small (u := u) (by omega) hX)
  obtain ⟨x0, _, xB, xa, _⟩ := small
  -- the size of what is left
  have hXX : D * (dt u u * (4 * (1073741824 + s) * dt u u)) ≤ 2 * (h * (Tn S u 0 0 * Tn S u 0 0)) := by
    have l0 := V.l0
    have hL := W.L0
    have hx := W.x
    have hG := W.G0
    generalize Tn S u 0 0 = l at *
    generalize dt u u = N at *
    have a1 : (L * N) * (L * N) ≤ l * l := mulm (Int.mul_nonneg (by omega) (by omega)) l0 (Int.mul_nonneg (by omega) (by omega)) l0
    have hc : 0 < L * L * (D * D * 1073741824) := Int.mul_pos (Int.mul_pos hL hL) (Int.mul_pos (Int.mul_pos hD hD) (by omega))
    apply le_cancel hc
    have c1 : L * L * (D * D * 1073741824) * (D * (N * (4 * (1073741824 + s) * N))) = 4 * D * (1152921504606846976 * (D * D)) * (L * N * (L * N)) + 4 * D * (L * L) * (D * D * (1073741824 * s * (N * N))) := by grind
    have c2 : 4 * D * (1152921504606846976 * (D * D)) * (L * N * (L * N)) ≤ 4 * D * (1152921504606846976 * (D * D)) * (l * l) := Int.mul_le_mul_of_nonneg_left a1 (Int.mul_nonneg (by omega) (Int.mul_nonneg (by omega) (sqn D)))
    have c3 : 4 * D * (L * L) * (D * D * (1073741824 * s * (N * N))) ≤ 4 * D * (L * L) * (G * (l * l)) := Int.mul_le_mul_of_nonneg_left up (Int.mul_nonneg (by omega) (sqn L))
    have c4 := Int.mul_le_mul_of_nonneg_right hx (sqn l)
    have c5 : 4 * D * (1152921504606846976 * (D * D) + G * (L * L)) * (l * l) = 4 * D * (1152921504606846976 * (D * D)) * (l * l) + 4 * D * (L * L) * (G * (l * l)) := by grind
    have c6 : 2 * h * (L * L) * (D * D) * 1073741824 * (l * l) = L * L * (D * D * 1073741824) * (2 * (h * (l * l))) := by grind
    omega
  have e00 : 2 * s * dt u u * Tn S' u 0 0 = 2 * (Tn S u 0 0 * Tn S u 0 0 + sm 3 (fun j => Tn S u 0 (j + 1) * Tn S u 0 (j + 1))) + dt u u * Tn X u 0 0 := by
    have a := lin 0 0
    have q := sqv 0 0
    have : dt u u * (2 * s * Tn S' u 0 0) = 2 * (dt u u * Tn (SQ S) u 0 0) + dt u u * Tn X u 0 0 := by rw [a]; grind
    rw [q] at this
    simp only [sm, Nat.reduceAdd]
    grind
  have hR : 0 ≤ sm 3 (fun j => Tn S u 0 (j + 1) * Tn S u 0 (j + 1)) := sm_nn fun j _ => sqn _
  have m1 := step_l W.H hR hl hs hN e00 xa hXX
  have hl' := step_pos W.H.hD hD hl hs hN m1
  refine ⟨hsy, ?_, ?_, ?_⟩
  · -- the first entry
    have hG := W.G0
    have hl2 := W.l
    have hh := W.H.hD
    generalize Tn S u 0 0 = l at *
    generalize Tn S' u 0 0 = l' at *
    generalize dt u u = N at *
    rcases Int.lt_or_le 0 G with hG1 | hG1
    · have d1 : D * D * (1073741824 * s * (N * N)) * (D - h) ≤ G * (l * l) * (D - h) := Int.mul_le_mul_of_nonneg_right up (by omega)
      have d2 : G * (2 * ((l * l) * (D - h))) ≤ G * (2 * s * N * (D * l')) := Int.mul_le_mul_of_nonneg_left m1 hG
      have d3 : (s * N * D) * (N * (D * 1073741824 * (D - h))) ≤ (s * N * D) * (G * l') := by
        have f1 : (s * N * D) * (N * (D * 1073741824 * (D - h))) = D * D * (1073741824 * s * (N * N)) * (D - h) := by grind
        have f2 : G * (2 * ((l * l) * (D - h))) = 2 * (G * (l * l) * (D - h)) := by grind
        have f3 : G * (2 * s * N * (D * l')) = 2 * ((s * N * D) * (G * l')) := by grind
        omega
      have d4 := le_cancel (Int.mul_pos (Int.mul_pos hs hN) hD) d3
      have d5 := Int.mul_le_mul_of_nonneg_left hl2 (show 0 ≤ N by omega)
      apply le_cancel hG1
      have f4 : N * (L' * G) = G * (L' * N) := by grind
      omega
    · have hg := W.g
      have q1 := sqn p
      have q2 := sqn b
      have q3 := Int.mul_pos hD hD
      have hk := W.k
      have hL := W.L0
      have hLL : 0 < L * L := Int.mul_pos hL hL
      have hK : 0 ≤ K := by
        have : 0 ≤ D * D * 2147483648 := Int.mul_nonneg (sqn D) (by omega)
        have h3 : 0 * (L * L) ≤ K * (L * L) := by rw [Int.zero_mul]; omega
        exact Int.le_of_mul_le_mul_right h3 hLL
      omega
  · refine step_r W.H W.p' hl hs hN hl' m1 V.r V.B (x := fun j => Tn X u 0 (j + 1)) x0 hXX ?_
    intro j hj
    have a := lin 0 (j + 1)
    have q := sqv 0 (j + 1)
    have : dt u u * (2 * s * Tn S' u 0 (j + 1)) = 2 * (dt u u * Tn (SQ S) u 0 (j + 1)) + dt u u * Tn X u 0 (j + 1) := by rw [a]; grind
    rw [q, Tn_comm V.sy u (j + 1) 0] at this
    rcases (show j = 0 ∨ j = 1 ∨ j = 2 by omega) with rfl | rfl | rfl
    all_goals
      simp only [sm, Nat.reduceMul, Nat.reduceAdd, Nat.reduceDiv, Nat.reduceMod, Nat.zero_add] at this ⊢
      grind
  · refine step_B W.H W.b' hl hs hN hl' m1 V.r V.B (x := fun i => Tn X u (i / 3 + 1) (i % 3 + 1)) xB hXX ?_
    intro i hi
    have a := lin (i / 3 + 1) (i % 3 + 1)
    have q := sqv (i / 3 + 1) (i % 3 + 1)
    have : dt u u * (2 * s * Tn S' u (i / 3 + 1) (i % 3 + 1)) = 2 * (dt u u * Tn (SQ S) u (i / 3 + 1) (i % 3 + 1)) + dt u u * Tn X u (i / 3 + 1) (i % 3 + 1) := by rw [a]; grind
    rw [q, Tn_comm V.sy u (i / 3 + 1) 0, Tn_comm V.sy u (i % 3 + 1) 0] at this
    have d1 : ∀ j k, k < 3 → (j * 3 + k) / 3 = j := fun j k hk => by omega
    have d2 : ∀ j k, k < 3 → (j * 3 + k) % 3 = k := fun j k hk => by omega
    simp only [sm, d1 _ 0 (by omega), d1 _ 1 (by omega), d1 _ 2 (by omega), d2 _ 0 (by omega), d2 _ 1 (by omega), d2 _ 2 (by omega), Nat.reduceAdd, Nat.zero_add]
    grind
end Go.Proofs.Ytkmelddejdikgaa.La
