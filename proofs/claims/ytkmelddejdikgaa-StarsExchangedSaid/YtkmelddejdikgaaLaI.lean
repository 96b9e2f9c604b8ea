/-
  The first matrix of a solution, as it is reckoned, near the exact one.
-/
import Derived.Test.YtkmelddejdikgaaLaH
import Derived.Test.YtkmelddejdikgaaLaE
set_option linter.unusedSimpArgs false
set_option linter.unusedVariables false
namespace Go.Proofs.Ytkmelddejdikgaa.La
open Go.RowKit PM Dt
theorem rnd_er (t : Int) : ∃ e, 1073741824 * rnd t = t + e ∧ -536870912 ≤ e ∧ e ≤ 536870912 := ⟨1073741824 * rnd t - t, by omega, by unfold rnd; omega, by unfold rnd; omega⟩
theorem dot_er {y : Sgt} (h : sgOk y = true) : ∃ e, 1073741824 * vdotV y.a y.b = d3e y.a y.b + e ∧ -536870912 ≤ e ∧ e ≤ 536870912 := by
  simp only [sgOk, Bool.and_eq_true, decide_eq_true_eq] at h
  unfold vdotV
  rw [dirB_ok h.1, dirB_ok h.2.1, if_pos (by rfl)]
  have e : d3 y.a y.b = d3e y.a y.b := by unfold d3 d3e; rw [dotS_cons, dotS_cons, dotS_cons, dotS_nil]; omega
  rw [e]
  exact rnd_er _
theorem crs_er {y : Sgt} (h : sgOk y = true) {i : Nat} (hi : i < 3) : ∃ e, 1073741824 * vcrossF y.b y.a i = (y.b ((i + 1) % 3) * y.a ((i + 2) % 3) - y.b ((i + 2) % 3) * y.a ((i + 1) % 3)) + e ∧ -536870912 ≤ e ∧ e ≤ 536870912 := by
  simp only [sgOk, Bool.and_eq_true, decide_eq_true_eq] at h
  have ha := dirB_bd h.1
  have hb := dirB_bd h.2.1
  have key : ∀ i, i < 3 → -4294967296 ≤ crossX y.b y.a i ∧ crossX y.b y.a i ≤ 4294967296 := fun i hi => by
    unfold crossX twoV
    apply rnd_bd3
    have m0 := mul_bd3 (hb ((i + 1) % 3) (by omega)) (ha ((i + 2) % 3) (by omega))
    have m1 := mul_bd3 (hb ((i + 2) % 3) (by omega)) (ha ((i + 1) % 3) (by omega))
    rw [dotS_cons, dotS_cons, dotS_nil, Int.neg_mul]
    omega
  have hk : okV (crossX y.b y.a) = true := (okV_iff _).2 fun i hi => (vb_iff _).2 (by have := key i hi; omega)
  unfold vcrossF
  rw [dirB_ok h.1, dirB_ok h.2.1, if_pos (by rfl), if_pos hk]
  have e : crossX y.b y.a i = rnd (y.b ((i + 1) % 3) * y.a ((i + 2) % 3) - y.b ((i + 2) % 3) * y.a ((i + 1) % 3)) := by
    unfold crossX twoV; rw [dotS_cons, dotS_cons, dotS_nil]; congr 1; rw [Int.neg_mul]; omega
  rw [e]
  exact rnd_er _
theorem two_er {y : Sgt} (h : sgOk y = true) {i k : Nat} (hi : i < 3) (hk : k < 3) : ∃ e, 1073741824 * dotV [y.a i, y.a k] [y.b k, y.b i] = (y.a i * y.b k + y.a k * y.b i) + e ∧ -536870912 ≤ e ∧ e ≤ 536870912 := by
  simp only [sgOk, Bool.and_eq_true, decide_eq_true_eq] at h
  have ha := dirB_bd h.1
  have hb := dirB_bd h.2.1
  rw [(dot2_dir (ha i hi) (ha k hk) (hb k hk) (hb i hi)).1]
  exact rnd_er _
/-- The entries of the matrix of a sight. -/
theorem ent_er {y : Sgt} (h : sgOk y = true) : ∀ j, j < 16 → ∃ e, 1073741824 * entF y (j / 4) (j % 4) = Kt y.a y.b j + e ∧ -1073741824 ≤ e ∧ e ≤ 1073741824 := by
  obtain ⟨e0, d0, d1, d2⟩ := dot_er h
  obtain ⟨x0, p0, p1, p2⟩ := crs_er h (i := 0) (by omega)
  obtain ⟨x1, q0, q1, q2⟩ := crs_er h (i := 1) (by omega)
  obtain ⟨x2, r0, r1, r2⟩ := crs_er h (i := 2) (by omega)
  obtain ⟨y0, s0, s1, s2⟩ := two_er h (i := 0) (k := 0) (by omega) (by omega)
  obtain ⟨y1, t0, t1, t2⟩ := two_er h (i := 0) (k := 1) (by omega) (by omega)
  obtain ⟨y2, u0, u1, u2⟩ := two_er h (i := 0) (k := 2) (by omega) (by omega)
  obtain ⟨y3, v0, v1, v2⟩ := two_er h (i := 1) (k := 1) (by omega) (by omega)
  obtain ⟨y4, w0, w1, w2⟩ := two_er h (i := 1) (k := 2) (by omega) (by omega)
  obtain ⟨y5, z0, z1, z2⟩ := two_er h (i := 2) (k := 2) (by omega) (by omega)
  simp only [Nat.reduceAdd, Nat.reduceMod] at p0 q0 r0
  have m : ∀ a b x y : Int, a = b + x → -1073741824 ≤ x → x ≤ 1073741824 → ∃ e, a = b + e ∧ -1073741824 ≤ e ∧ e ≤ 1073741824 := fun a b x y h1 h2 h3 => ⟨x, h1, h2, h3⟩
  apply c16
  · refine ⟨e0, ?_, by omega, by omega⟩; simpa [entF, entL, Kt] using d0
  · refine ⟨x0, ?_, by omega, by omega⟩; simpa [entF, entL, Kt] using p0
  · refine ⟨x1, ?_, by omega, by omega⟩; simpa [entF, entL, Kt] using q0
  · refine ⟨x2, ?_, by omega, by omega⟩; simpa [entF, entL, Kt] using r0
  · refine ⟨x0, ?_, by omega, by omega⟩; simpa [entF, entL, Kt] using p0
  · refine ⟨y0 - e0, ?_, by omega, by omega⟩; simp [entF, entL, Kt]; omega
  · refine ⟨y1, ?_, by omega, by omega⟩; simpa [entF, entL, Kt] using t0
  · refine ⟨y2, ?_, by omega, by omega⟩; simpa [entF, entL, Kt] using u0
  · refine ⟨x1, ?_, by omega, by omega⟩; simpa [entF, entL, Kt] using q0
  · refine ⟨y1, ?_, by omega, by omega⟩; simpa [entF, entL, Kt] using t0
  · refine ⟨y3 - e0, ?_, by omega, by omega⟩; simp [entF, entL, Kt]; omega
  · refine ⟨y4, ?_, by omega, by omega⟩; simpa [entF, entL, Kt] using w0
  · refine ⟨x2, ?_, by omega, by omega⟩; simpa [entF, entL, Kt] using r0
  · refine ⟨y2, ?_, by omega, by omega⟩; simpa [entF, entL, Kt] using u0
  · refine ⟨y4, ?_, by omega, by omega⟩; simpa [entF, entL, Kt] using w0
  · refine ⟨y5 - e0, ?_, by omega, by omega⟩; simp [entF, entL, Kt]; omega
theorem fsum_one {S : Nat → Sgt} {f : Sgt → Int} : ∀ {n : Nat}, (∀ s, s < n → (S s).m = 1) → fsum S f n = sm n (fun s => f (S s)) ∧ wsum S n = n
  | 0, _ => ⟨rfl, rfl⟩
  | n + 1, h => by
    obtain ⟨h1, h2⟩ := fsum_one (f := f) (n := n) fun s hs => h s (by omega)
    have h3 := h n (by omega)
    constructor
    · show fsum S f n + (S n).m * f (S n) = sm n (fun s => f (S s)) + f (S n); rw [h1, h3]; omega
    · show wsum S n + (S n).m = _; rw [h2, h3]; simp
theorem entF_comm (y : Sgt) (i k : Nat) : entF y i k = entF y k i := by
  unfold entF
  rcases Nat.lt_trichotomy i k with h | h | h
  · rw [if_neg (by omega), if_pos h]
  · subst h; rfl
  · rw [if_pos h, if_neg (by omega)]
/-- A nearest quotient. -/
theorem near_er {x n : Int} (hn : 0 < n) : 2 * n * nearest x n ≤ 2 * x + n ∧ 2 * x - n ≤ 2 * n * nearest x n := by
  have n1 : 2 * n * nearest x n ≤ 2 * x + n := by unfold nearest; exact Int.mul_ediv_self_le (by omega)
  have n2 : 2 * x + n < 2 * n * nearest x n + 2 * n := by unfold nearest; exact Int.lt_mul_ediv_self_add (by omega)
  omega
theorem fit_id {q : Int} (h : -9223372036854775808 ≤ q ∧ q ≤ 9223372036854775807) : fitV q = q := by unfold fitV inI; rw [if_pos (by simp only [Bool.and_eq_true, decide_eq_true_eq]; exact h)]
/-- The entries of the mean matrix. -/
theorem mat_er {S : Nat → Sgt} {n : Nat} (hn : 1 ≤ n) (h16 : n ≤ 16) (hm : ∀ s, s < n → (S s).m = 1) {j : Nat} {C : Int} (hC : 0 ≤ C) (hC2 : C ≤ 8589934592) (hb : ∀ s, s < n → -C ≤ entF (S s) (j / 4) (j % 4) ∧ entF (S s) (j / 4) (j % 4) ≤ C) :
    2 * n * matF S n j ≤ 2 * sm n (fun s => entF (S s) (j / 4) (j % 4)) + n ∧ 2 * sm n (fun s => entF (S s) (j / 4) (j % 4)) - n ≤ 2 * n * matF S n j ∧ -C - 1 ≤ matF S n j ∧ matF S n j ≤ C + 1 := by
  obtain ⟨h1, h2⟩ := fsum_one (f := fun s => entF s (j / 4) (j % 4)) hm
  have hs : -(n * C) ≤ sm n (fun s => entF (S s) (j / 4) (j % 4)) ∧ sm n (fun s => entF (S s) (j / 4) (j % 4)) ≤ n * C := by
    constructor
    · have := sm_le (n := n) (f := fun _ => -C) (g := fun s => entF (S s) (j / 4) (j % 4)) fun s hs => (hb s hs).1
      rw [sm_const] at this
      have e : (n : Int) * -C = -(n * C) := by grind
      omega
    · have := sm_le (n := n) (f := fun s => entF (S s) (j / 4) (j % 4)) (g := fun _ => C) fun s hs => (hb s hs).2
      rw [sm_const] at this
      omega
  have e0 : matF S n j = fitV (nearest (sm n (fun s => entF (S s) (j / 4) (j % 4))) n) := by
    unfold matF ratioV ratioQ
    rw [h1, h2, if_neg (by omega), if_neg (by omega), Int.mul_one]
  generalize sm n (fun s => entF (S s) (j / 4) (j % 4)) = F at *
  obtain ⟨a, b⟩ := near_er (x := F) (n := (n : Int)) (by omega)
  generalize hq : nearest F n = q at *
  have q1 : q ≤ C + 1 := by
    apply Int.not_lt.1; intro hc
    have : 2 * (n : Int) * (C + 1 + 1) ≤ 2 * n * q := Int.mul_le_mul_of_nonneg_left (by omega) (by omega)
    have e : 2 * (n : Int) * (C + 1 + 1) = 2 * (n * C) + 4 * n := by grind
    omega
  have q2 : -C - 1 ≤ q := by
    apply Int.not_lt.1; intro hc
    have : 2 * (n : Int) * q ≤ 2 * n * (-C - 1 - 1) := Int.mul_le_mul_of_nonneg_left (by omega) (by omega)
    have e : 2 * (n : Int) * (-C - 1 - 1) = -(2 * (n * C)) - 4 * n := by grind
    omega
  rw [e0, fit_id (by omega)]
  exact ⟨a, b, q2, q1⟩
/-- The entries of the first matrix of a solution. -/
theorem hlf_er {m : Nat → Int} {j : Nat} (h : -3221225472 ≤ m j ∧ m j ≤ 3221225472) : m j + 1073741824 * I16 j ≤ 2 * hlfF m j ∧ 2 * hlfF m j ≤ m j + 1073741824 * I16 j + 1 := by
  have e : hlfF m j = fitV (nearest (m j + 1073741824 * I16 j) 2) := by
    unfold hlfF ratioV ratioQ I16
    rw [if_neg (by omega), if_neg (by omega), Int.mul_one]
    split
    · congr 2; unfold wrap64; omega
    · congr 2; omega
  have hi : 0 ≤ I16 j ∧ I16 j ≤ 1 := by unfold I16; split <;> omega
  rw [e, fit_id (by unfold nearest; omega)]
  unfold nearest
  omega
/-- The first matrix, four n and 2^30 times, against the exact matrices. -/
theorem first_er {S : Nat → Sgt} {n : Nat} (hn : 1 ≤ n) (h16 : n ≤ 16) (hok : ∀ s, s < n → sgOk (S s) = true) (hm : ∀ s, s < n → (S s).m = 1)
    (hK : ∀ s, s < n → ∀ j, j < 16 → -(2147483900 * 1073741824) ≤ Kt (S s).a (S s).b j ∧ Kt (S s).a (S s).b j ≤ 2147483900 * 1073741824) :
    ∃ X : Nat → Int, (∀ j, j < 16 → 4 * n * 1073741824 * hlfF (matF S n) j = 2 * sm n (fun s => Kt (S s).a (S s).b j) + (2 * n * 1152921504606846976) * I16 j + X j) ∧ (∀ j, j < 16 → -(5 * n * 1073741824) ≤ X j ∧ X j ≤ 5 * n * 1073741824) ∧ bnd (hlfF (matF S n)) ∧ sym (hlfF (matF S n)) := by
  have hE : ∀ j, j < 16 → ∀ s, s < n → -2147484000 ≤ entF (S s) (j / 4) (j % 4) ∧ entF (S s) (j / 4) (j % 4) ≤ 2147484000 := fun j hj s hs => by
    obtain ⟨e, h0, h1, h2⟩ := ent_er (hok s hs) j hj
    have := hK s hs j hj
    omega
  have hM := fun j (hj : j < 16) => mat_er hn h16 hm (j := j) (C := 2147484000) (by omega) (by omega) (hE j hj)
  have hH := fun j (hj : j < 16) => hlf_er (m := matF S n) (j := j) (by have := hM j hj; omega)
  have hs : ∀ j, j < 16 → -(n * 1073741824) ≤ 1073741824 * sm n (fun s => entF (S s) (j / 4) (j % 4)) - sm n (fun s => Kt (S s).a (S s).b j) ∧ 1073741824 * sm n (fun s => entF (S s) (j / 4) (j % 4)) - sm n (fun s => Kt (S s).a (S s).b j) ≤ n * 1073741824 := fun j hj => by
    rw [← sm_mul]
    have u := sm_le (n := n) (f := fun s => 1073741824 * entF (S s) (j / 4) (j % 4)) (g := fun s => Kt (S s).a (S s).b j + 1073741824) fun s hs => by
      obtain ⟨e, h0, h1, h2⟩ := ent_er (hok s hs) j hj; omega
    have l := sm_le (n := n) (f := fun s => Kt (S s).a (S s).b j + -1073741824) (g := fun s => 1073741824 * entF (S s) (j / 4) (j % 4)) fun s hs => by
      obtain ⟨e, h0, h1, h2⟩ := ent_er (hok s hs) j hj; omega
    rw [sm_add, sm_const] at u l
    omega
  refine ⟨fun j => 4 * n * 1073741824 * hlfF (matF S n) j - 2 * sm n (fun s => Kt (S s).a (S s).b j) - (2 * n * 1152921504606846976) * I16 j, fun j hj => ?_, fun j hj => ?_, fun j hj => ?_, sym_of fun i k hi hk => ?_⟩
  · show _ = _ + _ + (4 * n * 1073741824 * hlfF (matF S n) j - 2 * sm n (fun s => Kt (S s).a (S s).b j) - (2 * n * 1152921504606846976) * I16 j)
    omega
  · show -(5 * (n : Int) * 1073741824) ≤ 4 * n * 1073741824 * hlfF (matF S n) j - 2 * sm n (fun s => Kt (S s).a (S s).b j) - (2 * n * 1152921504606846976) * I16 j ∧ 4 * n * 1073741824 * hlfF (matF S n) j - 2 * sm n (fun s => Kt (S s).a (S s).b j) - (2 * n * 1152921504606846976) * I16 j ≤ 5 * n * 1073741824
    obtain ⟨m1, m2, _, _⟩ := hM j hj
    obtain ⟨g1, g2⟩ := hH j hj
    obtain ⟨s1, s2⟩ := hs j hj
    generalize hlfF (matF S n) j = H at *
    generalize matF S n j = M at *
    generalize sm n (fun s => entF (S s) (j / 4) (j % 4)) = F at *
    generalize sm n (fun s => Kt (S s).a (S s).b j) = K at *
    generalize I16 j = I at *
    have a1 : 2 * (n : Int) * (M + 1073741824 * I) ≤ 2 * n * (2 * H) := Int.mul_le_mul_of_nonneg_left g1 (by omega)
    have a2 : 2 * (n : Int) * (2 * H) ≤ 2 * n * (M + 1073741824 * I + 1) := Int.mul_le_mul_of_nonneg_left g2 (by omega)
    have e1 : 2 * (n : Int) * (M + 1073741824 * I) = 2 * n * M + 2147483648 * (n * I) := by grind
    have e2 : 2 * (n : Int) * (M + 1073741824 * I + 1) = 2 * n * M + 2147483648 * (n * I) + 2 * n := by grind
    have e3 : 2 * (n : Int) * (2 * H) = 4 * (n * H) := by grind
    have e4 : 4 * (n : Int) * 1073741824 * H = 1073741824 * (4 * (n * H)) := by grind
    have e5 : 2 * (n : Int) * 1152921504606846976 * I = 2305843009213693952 * (n * I) := by grind
    rw [e4, e5]
    generalize (n : Int) * H = nH at *
    generalize (n : Int) * I = nI at *
    generalize 2 * (n : Int) * M = nM at *
    omega
  · have a := hH j hj
    have b := hM j hj
    have hi : 0 ≤ I16 j ∧ I16 j ≤ 1 := by unfold I16; split <;> omega
    omega
  · rw [hlf_at _ i k hk, hlf_at _ k i hi, matF_at _ _ i k hk, matF_at _ _ k i hi]
    have : fsum S (fun s => entF s i k) n = fsum S (fun s => entF s k i) n := by congr 1; funext s; exact entF_comm s i k
    rw [this]
    by_cases e : i = k
    · rw [if_pos e, if_pos e.symm]
    · rw [if_neg e, if_neg (Ne.symm e)]
end Go.Proofs.Ytkmelddejdikgaa.La
