/-
  Whether sights are valid, by the specification; means of the program, for any function.
-/
import Derived.Test.YtkmelddejdikgaaSkA
set_option linter.unusedSimpArgs false
set_option linter.unusedVariables false
namespace Go.Proofs.Ytkmelddejdikgaa
open Go.RowKit PM Dt
/-- The sum of the weights, and a sum that is weighted. -/
def wsum (S : Nat → Sgt) : Nat → Int
  | 0 => 0
  | n + 1 => wsum S n + (S n).m
def fsum (S : Nat → Sgt) (f : Sgt → Int) : Nat → Int
  | 0 => 0
  | n + 1 => fsum S f n + (S n).m * f (S n)
theorem wsum_bd {S : Nat → Sgt} {n : Nat} (h : ∀ k, k < n → sgOk (S k) = true) : (n : Int) ≤ wsum S n ∧ wsum S n ≤ 65535 * n := by
  induction n with
  | zero => exact ⟨Int.le_refl _, Int.le_refl _⟩
  | succ n ih =>
    have i1 := ih fun k hk => h k (by omega)
    have i2 := h n (by omega)
    simp only [sgOk, Bool.and_eq_true, decide_eq_true_eq] at i2
    unfold wsum
    omega
theorem mul_bd {m x : Int} (h0 : 1 ≤ m) (h1 : m ≤ 65535) (h2 : -4398046511104 ≤ x) (h3 : x ≤ 4398046511104) : -288230376151711744 ≤ m * x ∧ m * x ≤ 288230376151711744 := by
  constructor
  · have : m * 4398046511104 ≥ m * (-x) := Int.mul_le_mul_of_nonneg_left (by omega) (by omega)
    rw [Int.mul_neg] at this; omega
  · have : m * x ≤ m * 4398046511104 := Int.mul_le_mul_of_nonneg_left h3 (by omega)
    omega
theorem fsum_bd {S : Nat → Sgt} {f : Sgt → Int} {n : Nat} (hn : n ≤ 16) (h : ∀ k, k < n → sgOk (S k) = true) (hf : ∀ k, k < n → -4398046511104 ≤ f (S k) ∧ f (S k) ≤ 4398046511104) : -288230376151711744 * n ≤ fsum S f n ∧ fsum S f n ≤ 288230376151711744 * n := by
  induction n with
  | zero => exact ⟨Int.le_refl _, Int.le_refl _⟩
  | succ n ih =>
    have i1 := ih (by omega) (fun k hk => h k (by omega)) (fun k hk => hf k (by omega))
    have i2 := h n (by omega)
    simp only [sgOk, Bool.and_eq_true, decide_eq_true_eq] at i2
    have i3 := mul_bd i2.2.2.1 i2.2.2.2 (hf n (by omega)).1 (hf n (by omega)).2
    unfold fsum
    omega
set_option maxRecDepth 100000 in
set_option maxHeartbeats 20000000 in
theorem smean_any (S : Nat → Sgt) (f : Sgt → Int) (a : Option Addr) (n c N : Nat) (cs : Array Value) (w : World) (el : ElemsA w a n 7 (fun k => (sgc (S k)).toList)) (h16 : n ≤ 16) (hok : ∀ k, k < n → sgOk (S k) = true) (hf : ∀ k, k < n → -4398046511104 ≤ f (S k) ∧ f (S k) ≤ 4398046511104) (CF : ∀ k, k < n → ∀ w1, Below w.heap.size w w1 → Calls Try.prog N (#[.agg (sgc (S k))] ++ cs) w1 fun e w' => e = .returned (.int .i64 (f (S k))) ∧ Below w1.heap.size w1 w') (HN : ∀ ar w1, Sem.run Try.prog (callFunc N ar) w1 = .ok (.enter N ar) w1) : Calls Try.prog 46 #[.slice a n c, .func (.func N) #[] cs] w fun e w' => e = .returned (.int .i64 (ratioV (fsum S f n) 1 (wsum S n))) ∧ Below w.heap.size w w' := by
  replace el := Lib.hid el
  have hn2 : (n : Int) ≤ 16 := by omega
  have hWB := Lib.hid (fun k (hk : k ≤ n) => wsum_bd (S := S) (n := k) (fun j hj => hok j (by omega)))
  have hFB := Lib.hid (fun k (hk : k ≤ n) => fsum_bd (S := S) (f := f) (n := k) (by omega) (fun j hj => hok j (by omega)) (fun j hj => ⟨by have := hf j (by omega); omega, by have := hf j (by omega); omega⟩))
  have hMB := Lib.hid (fun k (hk : k < n) => (by
    have i2 := hok k hk
    simp only [sgOk, Bool.and_eq_true, decide_eq_true_eq] at i2
    exact mul_bd i2.2.2.1 i2.2.2.2 (by have := hf k hk; omega) (by have := hf k hk; omega) : -288230376151711744 ≤ (S k).m * f (S k) ∧ (S k).m * f (S k) ≤ 288230376151711744))
  have hOM := Lib.hid (fun k (hk : k < n) => (by
    have i2 := hok k hk
    simp only [sgOk, Bool.and_eq_true, decide_eq_true_eq] at i2
    exact i2.2.2 : 1 ≤ (S k).m ∧ (S k).m ≤ 65535))
  replace CF := Lib.hid CF
  replace HN := Lib.hid HN
  clear hok hf h16
  have hB : Below w.heap.size w w := Below.refl _ _
  go_enter Try.func46, Try.ntmps46
  go_wp2_with (fail)
  go_loopg [13, 5, 6] n (fun g_ iv j5 j6 wr => ∃ K : Nat, g_ + K = n ∧ iv = .int .i64 K ∧ j5 = .int .i64 (fsum S f K) ∧ j6 = .int .i64 (wsum S K) ∧ Below w.heap.size w wr)
  case atStart => exact ⟨0, by omega, rfl, rfl, rfl, hB⟩
  case round =>
    clear hB
    obtain ⟨K, hK, rfl, rfl, rfl, hB⟩ := hrel
    by_cases hKn : K < n
    · have hdK : decide ((K : Int) < n) = true := decide_eq_true (by omega)
      have hdK' : decide (K < n) = true := decide_eq_true hKn
      have hk3 : (K : Int) < n := by omega
      have hk0 : (0 : Int) ≤ K := by omega
      have hwK : IntKind.i64.wrap ((K : Int) + 1) = ((K + 1 : Nat) : Int) := by rw [IntKind.wrap_i64]; omega
      obtain ⟨eb, eo, rfl, hEl, hE⟩ := el.out K hKn
      replace hE : w.rangeAt eb (eo + K * 7) ((sgc (S K)).toList) := hE
      have b1 := hWB.out (K + 1) hKn
      have b2 := hFB.out (K + 1) hKn
      have b3 := hMB.out K hKn
      have b4 := hWB.out K (by omega)
      have b5 := hOM.out K hKn
      have CC := Lib.hid (CF.out K hKn)
      have u1 : fsum S f (K + 1) = fsum S f K + (S K).m * f (S K) := rfl
      have u2 : wsum S (K + 1) = wsum S K + (S K).m := rfl
      obtain ⟨y, hy⟩ : ∃ y, S K = y := ⟨_, rfl⟩
      rw [hy] at hE b3 b5 CC u1 u2
      obtain ⟨z, hz⟩ : ∃ z, f y = z := ⟨_, rfl⟩
      rw [hz] at b3 CC u1
      obtain ⟨F1, hF1⟩ : ∃ F1, fsum S f (K + 1) = F1 := ⟨_, rfl⟩
      obtain ⟨W1, hW1⟩ : ∃ W1, wsum S (K + 1) = W1 := ⟨_, rfl⟩
      rw [hF1] at b2 u1
      rw [hW1] at b1 u2
      generalize fsum S f K = F0 at *
      generalize wsum S K = W0 at *
      replace hF1 := Lib.hid hF1
      replace hW1 := Lib.hid hW1
      have e1 : IntKind.i64.wrap (y.m * z) = y.m * z := by rw [IntKind.wrap_i64]; generalize y.m * z = t at *; omega
      have e2 : IntKind.i64.wrap (F0 + y.m * z) = F1 := by rw [u1, IntKind.wrap_i64]; generalize y.m * z = t at *; omega
      have e3 : IntKind.i64.wrap (W0 + y.m) = W1 := by rw [u2, IntKind.wrap_i64]; omega
      replace u1 := Lib.hid u1
      replace u2 := Lib.hid u2
      clear b1 b2 b3 b4 b5 hy hz
      go_upto_region 4 with (fail)
      have hW0 : w.heap.size ≤ wr.heap.size := by have := hB.size; first | exact this | simpa using this
      apply wp_region_Q 4 [0, 1, 3, 7] [2] [_, _, (fun p => .pointer (some ⟨p 2, 0, none⟩)), (fun _ => undef)] (fun p L w' => wr.heap.size ≤ w'.heap.size ∧ Below w.heap.size w w' ∧ (L 2 = true → wr.heap.size ≤ p 2 ∧ blk w' (p 2) (bif L 3 then (sgc y) else (sgc Sgt.zero)) 36)) _ [(0, 15), (1, 16), (2, 8)] [0, 1, 2, 3]
      case hn => rfl
      case hB => kernel_rfl
      case hds => kernel_rfl
      case hA => (intro p; simp only [putsD, Act.put, List.setIfInBounds_toArray, List.set_cons_zero, List.set_cons_succ, List.getD_cons_zero, List.getD_cons_succ]; exact rfl)
      case h0 => exact fun p => ⟨Nat.le_refl _, hB, fun h => absurd h (by decide)⟩
      case hmore => exact fun p L w1 w2 ⟨hsz, hB, h_s⟩ hm => ⟨Nat.le_trans hsz hm.size, hB.trans (hm.mono (Nat.le_trans hW0 hsz)), fun hl => ⟨(h_s hl).1, (h_s hl).2.below hm (h_s hl).2.lt⟩⟩
      case hs =>
        intro more
        refine stepV _ rfl rfl (fun _ _ _ h => h) (by intros; go_simp; exact ⟨rfl, rfl⟩) ?_
        refine stepV 1 rfl rfl (fun _ _ _ h => h) ?_ ?_
        · rintro p L w1 ⟨hsz, hB, h_s⟩ hk
          have hr := range_below hE hB hEl
          exact valR_range _ _ rfl _ _ rfl _ (eo + K * 7) 0 hr (by first | rfl | omega) (sgc y) (sg_L y) _ Try.underlying36 rfl (by rw [sgc_size]; kernel_rfl) rfl
        refine AllI.cons ?_ ?_
        · refine stepI_alloc 2 rfl (fun p => rfl) rfl (sgc Sgt.zero) 36 (fun p => rfl) ?_ ?_
          · intro p w1
            go_simp
            first | rfl | rw [sgc_zero]
          rintro p L w1 ⟨hsz, hB, h_s⟩ hk
          have L3 : L 3 = false := hk.2.2 3 rfl
          refine ⟨Nat.le_trans hsz (by simp), hB.alloc (Nat.le_trans (by first | exact hW0 | (have := hB.size; simp at this ⊢; omega)) hsz) _, fun _ => ⟨hsz, ?_⟩⟩
          rw [show upL L 2 3 = false from L3]
          exact blk.new _ _ _
        refine AllI.cons ?_ ?_
        · refine stepI_store 3 rfl (fun p => rfl) (fun p => rfl) _ _ _ rfl (fun p => p 2) 0 (fun p => rfl) (fun p => (sgc y)) (fun p => rfl) (fun p => (sgc Sgt.zero)) (fun p => (sgc y)) 36 (fun p => sgover _ _) (fun p => by first | (rw [sgc_size, sgc_size]; decide) | simp [sgc_size, sgc_size]) (fun p => by rw [sgc_size]; kernel_rfl) (fun p => sgc_one _) ?_ ?_
          · rintro p L w1 ⟨hsz, hB, h_s⟩ hk
            have L3 : L 3 = false := hk.1
            have hh := (h_s (hk.2.1 2 rfl)).2
            rw [L3] at hh
            try simp only [cond_true, cond_false] at hh
            exact hh
          · rintro p L w1 ⟨hsz, hB, h_s⟩ hk
            have L3 : L 3 = false := hk.1
            skip
            have hp := h_s (hk.2.1 2 rfl)
            refine ⟨(by simpa using hsz), Below.setRow hB (by first | exact Nat.le_trans hW0 hp.1 | exact ge_s | omega | (have := hB.size; simp at this ⊢; omega)) _, fun _ => ⟨hp.1, ?_⟩⟩
            rw [show upL L 3 3 = true from rfl]
            exact hp.2.row _
        exact AllI.nil
      case hV0 =>
        intro p q
        refine AllI.cons ?_ ?_
        · skip
          iterate 4 (refine AllI.cons (by first | exact .inl rfl | (refine .inr ?_; simp only [List.getD_cons_zero, List.getD_cons_succ]; done) | exact .inr rfl) ?_)
          exact AllI.nil
        exact AllI.nil
      case he =>
      clear hB 
      rintro p wrr ⟨hsz, hB, h_s⟩
      obtain ⟨le_s, s⟩ := h_s rfl
      clear h_s
      replace s : blk wrr (p 2) (sgc y) 36 := s
      have ge_s : w.heap.size ≤ p 2 := Nat.le_trans hW0 le_s
      generalize p 2 = s_b at *
      clear hsz hW0
      clear hE
      go_upto_region 5 with (fail)
      refine wp_region_X 8 (by kernel_rfl) (by kernel_rfl) ?_
      replace s := s.drew
      replace hB : Below w.heap.size w wrr.drew := hB.drew
      generalize wrr.drew = wrrd at *
      apply wpX_take 0; (case ho' => exact rfl); (case hg => exact rfl); (case hB => kernel_rfl); (case h => (intro w1 h1; go_simp; exact ⟨rfl, Below.refl _ _⟩))
      simp only [Act.put, List.setIfInBounds_toArray, List.set_cons_zero, List.set_cons_succ]
      apply wpX_take 1; (case ho' => exact rfl); (case hg => exact rfl); (case hB => kernel_rfl); (case h => (intro w1 h1; go_simp; exact ⟨rfl, Below.refl _ _⟩))
      simp only [Act.put, List.setIfInBounds_toArray, List.set_cons_zero, List.set_cons_succ]
      apply wpX_take 2; (case ho' => exact rfl); (case hg => exact rfl); (case hB => kernel_rfl); (case h => (intro w1 h1; have hc : w1.cell? ⟨s_b, 6, none⟩ = some (.int .i64 y.m) := (s.below h1 s.lt).cellIs rfl; go_simp; exact ⟨rfl, Below.refl _ _⟩))
      simp only [Act.put, List.setIfInBounds_toArray, List.set_cons_zero, List.set_cons_succ]
      apply wpX_take 3; (case ho' => exact rfl); (case hg => exact rfl); (case hB => kernel_rfl); (case h => (intro w1 h1; go_simp; exact ⟨rfl, Below.refl _ _⟩))
      simp only [Act.put, List.setIfInBounds_toArray, List.set_cons_zero, List.set_cons_succ]
      apply wpX_take 4; (case ho' => exact rfl); (case hg => exact rfl); (case hB => kernel_rfl); (case h => (intro w1 h1; exact detR_row _ _ rfl _ rfl _ _ _ (s.below h1 s.lt) Try.underlying36 rfl (by first | kernel_rfl | (rw [sgc_size]; kernel_rfl)) rfl))
      simp only [Act.put, List.setIfInBounds_toArray, List.set_cons_zero, List.set_cons_succ]
      apply wpX_take 5; (case ho' => exact rfl); (case hg => exact rfl); (case hB => kernel_rfl); (case h => (intro w1 h1; go_simp; rw [HN.out]; simp only [DetR]; refine (CC.out _ (hB.trans (h1.mono hB.size))).mono ?_; rintro e w2 ⟨rfl, h2⟩; exact ⟨rfl, h2⟩))
      simp only [Act.put, List.setIfInBounds_toArray, List.set_cons_zero, List.set_cons_succ]
      apply wpX_take 6; (case ho' => exact rfl); (case hg => exact rfl); (case hB => kernel_rfl); (case h => (intro w1 h1; go_simp; exact ⟨rfl, Below.refl _ _⟩))
      simp only [Act.put, List.setIfInBounds_toArray, List.set_cons_zero, List.set_cons_succ]
      apply wpX_take 7; (case ho' => exact rfl); (case hg => exact rfl); (case hB => kernel_rfl); (case h => (intro w1 h1; go_simp; exact ⟨rfl, Below.refl _ _⟩))
      simp only [Act.put, List.setIfInBounds_toArray, List.set_cons_zero, List.set_cons_succ]
      refine wpX_tail (by kernel_rfl) (fun we140 ht => ?_)
      simp only [List.drop_succ_cons, List.drop_zero]
      replace hB := hB.trans (ht.mono hB.size)
      replace s := s.below ht s.lt
      clear ht
      clear CC
      have hc6 : we140.cell? ⟨s_b, 6, none⟩ = some (.int .i64 y.m) := s.cellIs rfl
      go_wp2_with (fail)
      go_roundg (n - (K + 1))
      case rel => exact ⟨K + 1, by omega, rfl, by rw [hF1.out], by rw [hW1.out], hB⟩
      case measure => omega
    · obtain rfl : K = n := by omega
      have hdK : decide ((K : Int) < K) = false := decide_eq_false (by omega)
      have hdK' : decide (K < K) = false := decide_eq_false (by omega)
      have b1 := hWB.out K (Nat.le_refl _)
      have b2 := hFB.out K (Nat.le_refl _)
      have RA := Lib.hid (fun w => ratio_any (fsum S f K) 1 (wsum S K) w ⟨by omega, by omega⟩ ⟨by omega, by omega⟩ ⟨by omega, by omega⟩)
      clear b1 b2
      go_wp2_with (first
        | (go_at_call 58; with_reducible refine (RA.out _).mono ?_; rintro e w9 ⟨rfl, hb⟩; replace hB := hB.trans (hb.mono hB.size); clear hb))
      go_ret
      exact ⟨rfl, hB⟩
end Go.Proofs.Ytkmelddejdikgaa
