/-
  The first matrix of a solution, in the basis of the quaternion by which the stars are seen.
-/
import Derived.Test.YtkmelddejdikgaaLaI
set_option linter.unusedSimpArgs false
set_option linter.unusedVariables false
namespace Go.Proofs.Ytkmelddejdikgaa.La
open Go.RowKit PM Dt
theorem init_st {S : Nat → Sgt} {n : Nat} {u : Nat → Int} (hn : 2 ≤ n) (h4 : n ≤ 4) (hok : ∀ s, s < n → sgOk (S s) = true) (hm : ∀ s, s < n → (S s).m = 1)
    (hN1 : 1073741822 * 1073741822 ≤ dt u u) (hN2 : dt u u < 1073741826 * 1073741826)
    (he : ∀ s, s < n → ∃ e : Nat → Int, (∀ j, j < 3 → 1152921504606846976 * (S s).b j = gv u (S s).a j + e j) ∧ d3e e e ≤ 14987979559889010688 * 14987979559889010688)
    (ha : ∀ s, s < n → d3e (S s).a (S s).a ≤ 1073741889 * 1073741889)
    (hb : ∀ s, s < n → 1073741816 * 1073741816 ≤ d3e (S s).b (S s).b ∧ d3e (S s).b (S s).b ≤ 1073741832 * 1073741832)
    {i k : Nat} (hi : i < n) (hk : k < n) (hne : i ≠ k) (hp : -998459368456895649 ≤ d3e (S i).b (S k).b ∧ d3e (S i).b (S k).b ≤ 998459368456895649) : StV 1152921504606846976 1073741724 21474836480 1134765199415806193 (hlfF (matF S n)) u ∧ bnd (hlfF (matF S n)) := by
  have hK : ∀ s, s < n → ∀ j, j < 16 → -(2147483900 * 1073741824) ≤ Kt (S s).a (S s).b j ∧ Kt (S s).a (S s).b j ≤ 2147483900 * 1073741824 := fun s hs j hj => by
    have := (Kt_nb (E := 1073741889) (B := 1073741832) (by omega) (by omega) (ha s hs) (hb s hs).2).at hj
    omega
  obtain ⟨X, hX, hXb, hbnd, hsy⟩ := first_er (by omega) (by omega) hok hm hK
  refine ⟨?_, hbnd⟩
  obtain ⟨e, he⟩ : ∃ e : Nat → Nat → Int, ∀ s, s < n → (∀ j, j < 3 → 1152921504606846976 * (S s).b j = gv u (S s).a j + e s j) ∧ d3e (e s) (e s) ≤ 14987979559889010688 * 14987979559889010688 := by
    have key : ∀ s, ∃ e : Nat → Int, s < n → (∀ j, j < 3 → 1152921504606846976 * (S s).b j = gv u (S s).a j + e j) ∧ d3e e e ≤ 14987979559889010688 * 14987979559889010688 := fun s => by
      by_cases hs : s < n
      · obtain ⟨e, he⟩ := he s hs; exact ⟨e, fun _ => he⟩
      · exact ⟨fun _ => 0, fun h => absurd h hs⟩
    exact Classical.skolem.1 key
  have hn0 : (0 : Int) ≤ n := by omega
  -- in the basis
  obtain ⟨Y, hY⟩ : ∃ Y : Nat → Nat → Int, Y = fun a b => -(2 * sm n (fun s => Kt (e s) (S s).b (a * 4 + b))) + Tn X u a b := ⟨_, rfl⟩
  have hT : ∀ a b, a < 4 → b < 4 → 4 * n * 1073741824 * Tn (hlfF (matF S n)) u a b = 2305843009213693952 * sm n (fun s => Kt (S s).b (S s).b (a * 4 + b)) + (2 * n * 1152921504606846976) * (if a = b then dt u u else 0) + Y a b := fun a b ha' hb' => by
    have h := Tn_comb hX u a b
    rw [Tn_sum (fun s => Kt (S s).a (S s).b) u a b n, Tn_I u ha' hb'] at h
    rw [h, hY]
    have h2 : sm n (fun s => Tn (Kt (S s).a (S s).b) u a b) = 1152921504606846976 * sm n (fun s => Kt (S s).b (S s).b (a * 4 + b)) - sm n (fun s => Kt (e s) (S s).b (a * 4 + b)) := by
      have h3 : sm n (fun s => Tn (Kt (S s).a (S s).b) u a b) = sm n (fun s => 1152921504606846976 * Kt (S s).b (S s).b (a * 4 + b) + -1 * Kt (e s) (S s).b (a * 4 + b)) := sm_congr fun s hs => by
        rw [Kt_conj _ _ _ ha' hb', Kt_lin (he s hs).1 _ (by omega)]; omega
      rw [h3, sm_add, sm_mul, sm_mul]; omega
    rw [h2]
    show _ = _ + (-(2 * sm n (fun s => Kt (e s) (S s).b (a * 4 + b))) + Tn X u a b)
    omega
  -- the rest
  have hYn : NB 16 (fun j => Y (j / 4) (j % 4)) (n * (4 * (14987979559889010688 * 1073741832)) + 20 * n * 1073741824 * dt u u) := by
    have y1 := NB_sum (n := 16) (m := n) (v := fun s => Kt (e s) (S s).b) (c := 2 * (14987979559889010688 * 1073741832)) (by omega) fun s hs => Kt_nb (by omega) (by omega) (he s hs).2 (hb s hs).2
    have y2 := (y1.mul (c := 2) (by omega)).neg
    have y3 := Tn_small (u := u) (c := 5 * n * 1073741824) (by omega) hXb
    refine ((y2.add y3).congr fun j hj => ?_).mono ?_
    · rw [hY]
      show _ = -(2 * sm n (fun s => Kt (e s) (S s).b (j / 4 * 4 + j % 4))) + Tn X u (j / 4) (j % 4)
      rw [show j / 4 * 4 + j % 4 = j by omega]
    · have e1 : 4 * (5 * (n : Int) * 1073741824) * dt u u = 20 * n * 1073741824 * dt u u := by grind
      have e2 : 2 * ((n : Int) * (2 * (14987979559889010688 * 1073741832))) = n * (4 * (14987979559889010688 * 1073741832)) := by grind
      omega
  obtain ⟨Y0, _, YB, Ya, _⟩ := NB.sub3 hYn
  generalize hNN : dt u u = N at *
  -- the first entry
  have t00 := hT 0 0 (by omega) (by omega)
  rw [if_pos rfl] at t00
  have hvv : n * (1073741816 * 1073741816) ≤ sm n (fun s => Kt (S s).b (S s).b (0 * 4 + 0)) := by
    have := sm_le (n := n) (f := fun _ => 1073741816 * 1073741816) (g := fun s => Kt (S s).b (S s).b (0 * 4 + 0)) fun s hs => (hb s hs).1
    rw [sm_const] at this; exact this
  have hl : 1073741724 * N ≤ Tn (hlfF (matF S n)) u 0 0 := by
    apply le_cancel (show (0 : Int) < 4 * n * 1073741824 by omega)
    rw [t00]
    have e0 : 4 * (n : Int) * 1073741824 * (1073741724 * N) = n * (4 * 1073741824 * 1073741724 * N) := by grind
    have e1 : 2 * (n : Int) * 1152921504606846976 * N = n * (2 * 1152921504606846976 * N) := by grind
    have e2 : 20 * (n : Int) * 1073741824 * N = n * (20 * 1073741824 * N) := by grind
    have k : (n : Int) * (4 * 1073741824 * 1073741724 * N + 4 * (14987979559889010688 * 1073741832) + 20 * 1073741824 * N) ≤ n * (2305843009213693952 * (1073741816 * 1073741816) + 2 * 1152921504606846976 * N) := Int.mul_le_mul_of_nonneg_left (by omega) hn0
    rw [Int.mul_add, Int.mul_add, Int.mul_add] at k
    have e3 : (n : Int) * (2305843009213693952 * (1073741816 * 1073741816)) = 2305843009213693952 * (n * (1073741816 * 1073741816)) := by grind
    rw [e3] at k
    rw [e0, e1]
    rw [e2] at Ya
    generalize (n : Int) * (4 * 1073741824 * 1073741724 * N) = z1 at *
    generalize (n : Int) * (2 * 1152921504606846976 * N) = z2 at *
    generalize (n : Int) * (20 * 1073741824 * N) = z3 at *
    omega
  have hc : (0 : Int) < 4 * n * 1073741824 := by omega
  refine ⟨hsy, by rw [hNN]; exact hl, ?_, ?_⟩
  · -- row 0
    refine NB.cancel hc (((Y0.mul (c := 1152921504606846976) (by omega)).congr fun j hj => ?_).mono ?_)
    · have t := hT 0 (j + 1) (by omega) (by omega)
      rw [if_neg (by omega)] at t
      have z : sm n (fun s => Kt (S s).b (S s).b (0 * 4 + (j + 1))) = 0 := by
        rw [sm_congr (g := fun _ => 0) fun s _ => by rcases (show j = 0 ∨ j = 1 ∨ j = 2 by omega) with rfl | rfl | rfl <;> simp only [Kt, Nat.reduceAdd, Nat.reduceMul] <;> grind, sm_const]; simp
      rw [z] at t
      have e1 : 4 * (n : Int) * 1073741824 * (1152921504606846976 * Tn (hlfF (matF S n)) u 0 (j + 1)) = 1152921504606846976 * (4 * n * 1073741824 * Tn (hlfF (matF S n)) u 0 (j + 1)) := by grind
      rw [e1, t]; omega
    · generalize Tn (hlfF (matF S n)) u 0 0 = l at *
      have k : (n : Int) * (1152921504606846976 * (4 * (14987979559889010688 * 1073741832) + 20 * 1073741824 * N)) ≤ n * (4 * 1073741824 * 21474836480 * l) := Int.mul_le_mul_of_nonneg_left (by omega) hn0
      have e1 : 1152921504606846976 * ((n : Int) * (4 * (14987979559889010688 * 1073741832)) + 20 * n * 1073741824 * N) = n * (1152921504606846976 * (4 * (14987979559889010688 * 1073741832) + 20 * 1073741824 * N)) := by grind
      have e2 : 4 * (n : Int) * 1073741824 * (21474836480 * l) = n * (4 * 1073741824 * 21474836480 * l) := by grind
      rw [e1, e2]; exact k
  · -- the other block
    have g1 : NB 9 (fun j => sm n (fun s => (S s).b (j / 3) * (S s).b (j % 3))) (n * 1134764147204845709) := by
      refine ⟨by omega, ?_⟩
      rw [gram (fun s => (S s).b) n]
      have hC : ∀ s t, s < n → t < n → d3e (S s).b (S t).b * d3e (S s).b (S t).b ≤ 1329228035398997572757835825104818176 := fun s t hs ht => by
        have a := cs 3 (S s).b (S t).b
        have e1 : sm 3 (fun i => (S s).b i * (S t).b i) = d3e (S s).b (S t).b := by simp [sm, d3e]
        have e2 : ∀ x : Nat → Int, sm 3 (fun i => x i * x i) = d3e x x := fun x => by simp [sm, d3e]
        rw [e1, e2, e2] at a
        have b1 := hb s hs
        have b2 := hb t ht
        have := mulm (show 0 ≤ d3e (S s).b (S s).b by omega) b1.2 (show 0 ≤ d3e (S t).b (S t).b by omega) b2.2
        omega
      have hpp : d3e (S i).b (S k).b * d3e (S i).b (S k).b ≤ 998459368456895649 * 998459368456895649 := sq_le hp.1 hp.2
      have hpk : d3e (S k).b (S i).b = d3e (S i).b (S k).b := by unfold d3e; grind
      have := pairs_le hC hi hk hne hpp (by rw [hpk]; exact hpp)
      rcases (show n = 2 ∨ n = 3 ∨ n = 4 by omega) with rfl | rfl | rfl <;> omega
    have g2 : NB 9 (fun j => (if j / 3 = j % 3 then sm n (fun s => N - d3e (S s).b (S s).b) else 0)) (3 * (n * 25769803776)) := by
      have hw : -(n * 25769803776) ≤ sm n (fun s => N - d3e (S s).b (S s).b) ∧ sm n (fun s => N - d3e (S s).b (S s).b) ≤ n * 25769803776 := by
        constructor
        · have := sm_le (n := n) (f := fun _ => -25769803776) (g := fun s => N - d3e (S s).b (S s).b) fun s hs => by have := hb s hs; omega
          rw [sm_const] at this; omega
        · have := sm_le (n := n) (f := fun s => N - d3e (S s).b (S s).b) (g := fun _ => 25769803776) fun s hs => by have := hb s hs; omega
          rw [sm_const] at this; omega
      refine NB.of (c := n * 25769803776) (fun j hj => ?_) (by omega) (by grind)
      split
      · exact hw
      · omega
    refine NB.cancel hc (((((g1.mul (c := 4611686018427387904 * 1152921504606846976) (by omega)).add (g2.mul (c := 2305843009213693952 * 1152921504606846976) (by omega))).add (YB.mul (c := 1152921504606846976) (by omega))).congr fun j hj => ?_).mono ?_)
    · have t := hT (j / 3 + 1) (j % 3 + 1) (by omega) (by omega)
      have e1 : 4 * (n : Int) * 1073741824 * (1152921504606846976 * Tn (hlfF (matF S n)) u (j / 3 + 1) (j % 3 + 1)) = 1152921504606846976 * (4 * n * 1073741824 * Tn (hlfF (matF S n)) u (j / 3 + 1) (j % 3 + 1)) := by grind
      rw [e1, t]
      have z : sm n (fun s => Kt (S s).b (S s).b ((j / 3 + 1) * 4 + (j % 3 + 1))) = 2 * sm n (fun s => (S s).b (j / 3) * (S s).b (j % 3)) - (if j / 3 = j % 3 then sm n (fun s => d3e (S s).b (S s).b) else 0) := by
        have z1 : ∀ s, Kt (S s).b (S s).b ((j / 3 + 1) * 4 + (j % 3 + 1)) = 2 * ((S s).b (j / 3) * (S s).b (j % 3)) + -1 * (if j / 3 = j % 3 then d3e (S s).b (S s).b else 0) := fun s => by
          rcases (show j = 0 ∨ j = 1 ∨ j = 2 ∨ j = 3 ∨ j = 4 ∨ j = 5 ∨ j = 6 ∨ j = 7 ∨ j = 8 by omega) with rfl | rfl | rfl | rfl | rfl | rfl | rfl | rfl | rfl <;> simp [Kt] <;> grind
        rw [sm_congr fun s _ => z1 s, sm_add, sm_mul, sm_mul]
        split
        · omega
        · rw [sm_const]; simp
      rw [z]
      have z2 : sm n (fun s => N - d3e (S s).b (S s).b) = n * N - sm n (fun s => d3e (S s).b (S s).b) := by
        have := sm_add n (fun s => N - d3e (S s).b (S s).b) (fun s => d3e (S s).b (S s).b)
        rw [sm_congr (g := fun _ => N) (fun t _ => by omega), sm_const] at this
        omega
      rw [z2]
      by_cases hjj : j / 3 = j % 3
      · rw [if_pos hjj, if_pos hjj, if_pos (by omega)]; grind
      · rw [if_neg hjj, if_neg hjj, if_neg (by omega)]; grind
    · generalize Tn (hlfF (matF S n)) u 0 0 = l at *
      have k : (n : Int) * (4611686018427387904 * 1152921504606846976 * 1134764147204845709 + 2305843009213693952 * 1152921504606846976 * (3 * 25769803776) + 1152921504606846976 * (4 * (14987979559889010688 * 1073741832) + 20 * 1073741824 * N)) ≤ n * (4 * 1073741824 * 1134765199415806193 * l) := Int.mul_le_mul_of_nonneg_left (by omega) hn0
      have e1 : 4611686018427387904 * 1152921504606846976 * ((n : Int) * 1134764147204845709) + 2305843009213693952 * 1152921504606846976 * (3 * (n * 25769803776)) + 1152921504606846976 * (n * (4 * (14987979559889010688 * 1073741832)) + 20 * n * 1073741824 * N) = n * (4611686018427387904 * 1152921504606846976 * 1134764147204845709 + 2305843009213693952 * 1152921504606846976 * (3 * 25769803776) + 1152921504606846976 * (4 * (14987979559889010688 * 1073741832) + 20 * 1073741824 * N)) := by grind
      have e2 : 4 * (n : Int) * 1073741824 * (1134765199415806193 * l) = n * (4 * 1073741824 * 1134765199415806193 * l) := by grind
      rw [e1, e2]; exact k
end Go.Proofs.Ytkmelddejdikgaa.La
