/-
  The attitude of sights.
-/
import Derived.Test.YtkmelddejdikgaaSkI
set_option linter.unusedSimpArgs false
set_option linter.unusedVariables false
namespace Go.Proofs.Ytkmelddejdikgaa
open Go.RowKit PM Dt
theorem over_q' (a b : Nat → Int) : over (qfn a) 0 (qfn b).toList = qfn b := by unfold qfn; rfl
theorem hlf_I (m : Nat → Int) : ∀ j, j < 16 → I64 (hlfF m j) := fun j _ => ratioV_J _ _ _
theorem mat_I (S : Nat → Sgt) (n : Nat) : ∀ j, j < 16 → I64 (matF S n j) := fun j _ => ratioV_J _ _ _
theorem prd_I (m : Nat → Int) : ∀ j, j < 16 → I64 (prdF m j) := fun j _ => dotV_J _ _
theorem itr_I {m : Nat → Int} (h : ∀ j, j < 16 → I64 (m j)) (k : Nat) : ∀ j, j < 16 → I64 (itrF m k j) := by
  cases k with
  | zero => exact h
  | succ k => exact fun j _ => ratioV_J _ _ _
theorem trc_I (m : Nat → Int) : I64 (trcF m) := wrap64_J _
set_option maxRecDepth 100000 in
theorem fill1_any (m : Nat → Int) (b : Nat) (w : World) (p : blk w b (tbn m) 38) (hm : ∀ j, j < 16 → I64 (m j)) : Calls Try.prog 56 #[.func (.func 57) #[] #[.pointer (some ⟨b, 0, none⟩)]] w fun e w' => e = .returned (.agg (tbn (hlfF m))) ∧ Below w.heap.size w w' :=
  sfill_any (hlfF m) _ _ w (fun i k hi hk w1 h1 => sol1_any m i k b w1 (p.below h1 p.lt) hm hi hk) (fun ar w1 => rfl)
set_option maxRecDepth 100000 in
theorem fill2_any (m : Nat → Int) (b : Nat) (w : World) (p : blk w b (tbn m) 113) (hm : ∀ j, j < 16 → I64 (m j)) : Calls Try.prog 56 #[.func (.func 59) #[] #[.pointer (some ⟨b, 0, none⟩)]] w fun e w' => e = .returned (.agg (tbn (prdF m))) ∧ Below w.heap.size w w' :=
  sfill_any (prdF m) _ _ w (fun i k hi hk w1 h1 => sol2_any m i k b w1 (p.below h1 p.lt) hm hi hk) (fun ar w1 => rfl)
set_option maxRecDepth 100000 in
theorem fill3_any (m : Nat → Int) (t : Int) (b c : Nat) (w : World) (p : blk w b (tbn m) 113) (q : blk w c #[.int .i64 t] 2) (hm : ∀ j, j < 16 → I64 (m j)) (ht : I64 t) : Calls Try.prog 56 #[.func (.func 62) #[] #[.pointer (some ⟨b, 0, none⟩), .pointer (some ⟨c, 0, none⟩)]] w fun e w' => e = .returned (.agg (tbn (divF m t))) ∧ Below w.heap.size w w' :=
  sfill_any (divF m t) _ _ w (fun i k hi hk w1 h1 => sol3_any m t i k b c w1 (p.below h1 p.lt) (q.below h1 q.lt) hm ht hi hk) (fun ar w1 => rfl)
theorem qfn_of' (F : Nat → Int) : #[Value.int .i64 (F 0), .int .i64 (F 1), .int .i64 (F 2), .int .i64 (F 3)] = qfn F := by unfold qfn; rfl
set_option maxRecDepth 100000 in
set_option maxHeartbeats 20000000 in
theorem ssolve_any (S : Nat → Sgt) (a : Option Addr) (n c : Nat) (w : World) (el : ElemsA w a n 7 (fun k => (sgc (S k)).toList)) (hn : n ≤ 1000) : Calls Try.prog 15 #[.slice a n c] w fun e w' => e = .returned (.tuple #[.agg (qfn (slvV S n)), .int .i64 (slvE S n)]) ∧ Below w.heap.size w w' := by
  have SP := Lib.hid (fun w el => sspread_any S a n c w el hn)
  have MA := Lib.hid (fun w el => smatrix_any S a n c w el hn)
  replace el := Lib.hid el
  unfold slvV slvE slvOk
  unfold sprV matE at SP
  unfold matV matE at MA
  have hm0 := Lib.hid (mat_I S n)
  obtain ⟨b1, h1⟩ : ∃ b, valS S n = b := ⟨_, rfl⟩
  rw [h1] at SP MA ⊢
  generalize sprI S n n = G at *
  generalize matF S n = M at *
  clear h1 hn
  cases b1
  · skip
    go_enter Try.func15, Try.ntmps15
    go_upto_region 1 with (fail)
    simp only [zero_quat]
    have r : blk (w.alloc (.cells (qfn fun _ => 0) 23)) w.heap.size (qfn fun _ => 0) 23 := blk.new _ _ _
    have hB : Below w.heap.size w (w.alloc (.cells (qfn fun _ => 0) 23)) := by go_grown
    generalize (w.alloc (.cells (qfn fun _ => 0) 23)) = w0 at *
    go_wp2_with (first | (go_at_call 16; with_reducible refine (SP.out _ (el.out.below hB)).mono ?_; rintro e w1 ⟨rfl, hb⟩; replace hB := hB.trans (hb.mono hB.size); replace r := r.below hb r.lt; clear hb) | (rw [zero_quat]; refine wpList_store_row rfl _ _ _ rfl _ rfl _ rfl _ _ r (by first | kernel_rfl | (rw [qfn_size]; kernel_rfl)) (by first | rfl | simp only [qfn_size]) (by first | exact qfn_one _ | rfl) ?_))
    refine bodyPost_ret (results_vec rfl _ _ _ _ _ _ _ rfl (r.row (qfn fun _ => 0)) Try.underlying23 rfl (by first | kernel_rfl | (rw [qfn_size]; kernel_rfl))) rfl ?_
    refine ⟨?_, Below.setRow hB (by omega) _⟩
    rfl
  by_cases hG : 536870912 ≤ G
  case neg =>
    have d1 : decide (G < 536870912) = true := decide_eq_true (by omega)
    have d2 : decide (536870912 ≤ G) = false := decide_eq_false hG
    rw [d2, if_neg hG]
    clear hG
    go_enter Try.func15, Try.ntmps15
    go_upto_region 1 with (fail)
    simp only [zero_quat]
    have r : blk (w.alloc (.cells (qfn fun _ => 0) 23)) w.heap.size (qfn fun _ => 0) 23 := blk.new _ _ _
    have hB : Below w.heap.size w (w.alloc (.cells (qfn fun _ => 0) 23)) := by go_grown
    generalize (w.alloc (.cells (qfn fun _ => 0) 23)) = w0 at *
    go_wp2_with (first | (go_at_call 16; with_reducible refine (SP.out _ (el.out.below hB)).mono ?_; rintro e w1 ⟨rfl, hb⟩; replace hB := hB.trans (hb.mono hB.size); replace r := r.below hb r.lt; clear hb) | (rw [zero_quat]; refine wpList_store_row rfl _ _ _ rfl _ rfl _ rfl _ _ r (by first | kernel_rfl | (rw [qfn_size]; kernel_rfl)) (by first | rfl | simp only [qfn_size]) (by first | exact qfn_one _ | rfl) ?_))
    refine bodyPost_ret (results_vec rfl _ _ _ _ _ _ _ rfl (r.row (qfn fun _ => 0)) Try.underlying23 rfl (by first | kernel_rfl | (rw [qfn_size]; kernel_rfl))) rfl ?_
    refine ⟨?_, Below.setRow hB (by omega) _⟩
    first | rfl | simp
  have d1 : decide (G < 536870912) = false := decide_eq_false (by omega)
  have d2 : decide (536870912 ≤ G) = true := decide_eq_true hG
  rw [d2, if_pos hG]
  clear hG
  obtain ⟨RS, hRS⟩ : ∃ RS, solF (itrF (hlfF M) 12) = RS := ⟨_, rfl⟩
  simp only [Bool.true_and, if_true]
  rw [hRS]
  replace hRS := Lib.hid hRS
  go_enter Try.func15, Try.ntmps15
  go_upto_region 1 with (fail)
  simp only [zero_quat]
  have r : blk (w.alloc (.cells (qfn fun _ => 0) 23)) w.heap.size (qfn fun _ => 0) 23 := blk.new _ _ _
  have hB : Below w.heap.size w (w.alloc (.cells (qfn fun _ => 0) 23)) := by go_grown
  generalize (w.alloc (.cells (qfn fun _ => 0) 23)) = w0 at *
  go_upto_region 6 with ((go_at_call 16; with_reducible refine (SP.out _ (el.out.below hB)).mono ?_; rintro e w1 ⟨rfl, hb⟩; replace hB := hB.trans (hb.mono hB.size); replace r := r.below hb r.lt; clear hb))
  clear SP
  have lt_r := r.lt
  have hW0 : w.heap.size ≤ w1.heap.size := by have := hB.size; first | exact this | simpa using this
  apply wp_region_Q 8 [0, 1, 3, 7, 15, 31, 63, 127] [5] [_, _, _, _, _, (fun p => .pointer (some ⟨p 5, 0, none⟩)), (fun _ => undef), _] (fun p L w' => w1.heap.size ≤ w'.heap.size ∧ Below w.heap.size w w' ∧ blk w' w.heap.size (qfn fun _ => 0) 23 ∧ (L 5 = true → w1.heap.size ≤ p 5 ∧ blk w' (p 5) (bif L 6 then (tbn M) else (tbn fun _ => 0)) 38)) _ [(0, 30), (1, 31), (2, 29), (3, 32), (4, 33), (5, 6), (7, 7)] [0, 1, 2, 3, 4, 5, 6, 7]
  case hn => rfl
  case hB => kernel_rfl
  case hds => kernel_rfl
  case hA => (intro p; simp only [putsD, Act.put, List.setIfInBounds_toArray, List.set_cons_zero, List.set_cons_succ, List.getD_cons_zero, List.getD_cons_succ]; exact rfl)
  case h0 => exact fun p => ⟨Nat.le_refl _, hB, r, fun h => absurd h (by decide)⟩
  case hmore => exact fun p L w1 w2 ⟨hsz, hB, r, h_m⟩ hm => ⟨Nat.le_trans hsz hm.size, hB.trans (hm.mono (Nat.le_trans hW0 hsz)), r.below hm r.lt, fun hl => ⟨(h_m hl).1, (h_m hl).2.below hm (h_m hl).2.lt⟩⟩
  case hs =>
    intro more
    refine stepV _ rfl rfl (fun _ _ _ h => h) (by intros; go_simp; exact ⟨rfl, rfl⟩) ?_
    refine stepD 1 rfl (fun p => rfl) (fun _ _ _ h => h) more ?_ ?_
    · rintro p L w1 ⟨hsz, hB, r, h_m⟩ hk
      go_simp
      refine (MA.out _ (el.out.below hB)).mono ?_
      rintro e w2 ⟨rfl, h2⟩
      first | exact ⟨rfl, h2⟩ | (subst h2; exact ⟨rfl, Below.refl _ _⟩)
    iterate 3 (refine stepV _ rfl rfl (fun _ _ _ h => h) (by intros; go_simp; exact ⟨rfl, rfl⟩) ?_)
    refine AllI.cons ?_ ?_
    · refine stepI_alloc 5 rfl (fun p => rfl) rfl (tbn fun _ => 0) 38 (fun p => rfl) ?_ ?_
      · intro p w1
        go_simp
        first | done | rfl | rw [zero_tb]
      rintro p L w1 ⟨hsz, hB, r, h_m⟩ hk
      have L6 : L 6 = false := hk.2.2 6 rfl
      refine ⟨Nat.le_trans hsz (by simp), hB.alloc (Nat.le_trans (by first | exact hW0 | (have := hB.size; simp at this ⊢; omega)) hsz) _, r.alloc _, fun _ => ⟨hsz, ?_⟩⟩
      rw [show upL L 5 6 = false from L6]
      exact blk.new _ _ _
    refine AllI.cons ?_ ?_
    · refine stepI_store 6 rfl (fun p => rfl) (fun p => rfl) _ _ _ rfl (fun p => p 5) 0 (fun p => rfl) (fun p => (tbn M)) (fun p => rfl) (fun p => (tbn fun _ => 0)) (fun p => (tbn M)) 38 (fun p => tbover _ _) (fun p => by first | (rw [tbn_size, tbn_size]; decide) | simp [tbn_size, tbn_size]) (fun p => by rw [tbn_size]; kernel_rfl) (fun p => tbn_one _) ?_ ?_
      · rintro p L w1 ⟨hsz, hB, r, h_m⟩ hk
        have L6 : L 6 = false := hk.1
        have hh := (h_m (hk.2.1 5 rfl)).2
        rw [L6] at hh
        try simp only [cond_true, cond_false] at hh
        exact hh
      · rintro p L w1 ⟨hsz, hB, r, h_m⟩ hk
        have L6 : L 6 = false := hk.1
        skip
        have hp := h_m (hk.2.1 5 rfl)
        refine ⟨(by simpa using hsz), Below.setRow hB (by first | exact Nat.le_trans hW0 hp.1 | exact ge_m | omega | (have := hB.size; simp at this ⊢; omega)) _, r.rowOther (by first | exact Nat.ne_of_lt (Nat.lt_of_lt_of_le lt_r hp.1) | omega) _, fun _ => ⟨hp.1, ?_⟩⟩
        rw [show upL L 6 6 = true from rfl]
        exact hp.2.row _
    refine stepV _ rfl rfl (fun _ _ _ h => h) (by intros; go_simp; exact ⟨rfl, rfl⟩) ?_
    exact AllI.nil
  case hV0 =>
    intro p q
    refine AllI.cons ?_ ?_
    · skip
      iterate 8 (refine AllI.cons (by first | exact .inl rfl | (refine .inr ?_; simp only [List.getD_cons_zero, List.getD_cons_succ]; done) | exact .inr rfl) ?_)
      exact AllI.nil
    exact AllI.nil
  case he =>
  clear hB r
  rintro p w1r ⟨hsz, hB, r, h_m⟩
  obtain ⟨le_m, m⟩ := h_m rfl
  clear h_m
  replace m : blk w1r (p 5) (tbn M) 38 := m
  have ne_r_m : w.heap.size ≠ p 5 := Nat.ne_of_lt (Nat.lt_of_lt_of_le lt_r le_m)
  have ge_m : w.heap.size ≤ p 5 := Nat.le_trans hW0 le_m
  generalize p 5 = m_b at *
  clear lt_r
  clear hsz hW0
  clear MA
  go_upto_region 7 with (fail)
  have F1 := Lib.hid (fun w p => fill1_any M m_b w p hm0.out)
  have lt_r := r.lt
  have lt_m := m.lt
  have hW0 : w.heap.size ≤ w1r.heap.size := by have := hB.size; first | exact this | simpa using this
  apply wp_region_Q 4 [0, 1, 3, 7] [2] [_, _, (fun p => .pointer (some ⟨p 2, 0, none⟩)), (fun _ => undef)] (fun p L w' => w1r.heap.size ≤ w'.heap.size ∧ Below w.heap.size w w' ∧ blk w' w.heap.size (qfn fun _ => 0) 23 ∧ blk w' m_b (tbn M) 38 ∧ (L 2 = true → w1r.heap.size ≤ p 2 ∧ blk w' (p 2) (bif L 3 then (tbn (hlfF M)) else (tbn fun _ => 0)) 113)) _ [(0, 34), (1, 35), (2, 8)] [0, 1, 2, 3]
  case hn => rfl
  case hB => kernel_rfl
  case hds => kernel_rfl
  case hA => (intro p; simp only [putsD, Act.put, List.setIfInBounds_toArray, List.set_cons_zero, List.set_cons_succ, List.getD_cons_zero, List.getD_cons_succ]; exact rfl)
  case h0 => exact fun p => ⟨Nat.le_refl _, hB, r, m, fun h => absurd h (by decide)⟩
  case hmore => exact fun p L w1 w2 ⟨hsz, hB, r, m, h_s⟩ hm => ⟨Nat.le_trans hsz hm.size, hB.trans (hm.mono (Nat.le_trans hW0 hsz)), r.below hm r.lt, m.below hm m.lt, fun hl => ⟨(h_s hl).1, (h_s hl).2.below hm (h_s hl).2.lt⟩⟩
  case hs =>
    intro more
    refine stepV _ rfl rfl (fun _ _ _ h => h) (by intros; go_simp; exact ⟨rfl, rfl⟩) ?_
    refine stepD 1 rfl (fun p => rfl) (fun _ _ _ h => h) more ?_ ?_
    · rintro p L w1 ⟨hsz, hB, r, m, h_s⟩ hk
      have L3 : L 3 = false := hk.2.2 3 rfl
      go_simp
      refine (F1.out _ m).mono ?_
      rintro e w2 ⟨rfl, h2⟩
      first | exact ⟨rfl, h2⟩ | (subst h2; exact ⟨rfl, Below.refl _ _⟩)
    refine AllI.cons ?_ ?_
    · refine stepI_alloc 2 rfl (fun p => rfl) rfl (tbn fun _ => 0) 113 (fun p => rfl) ?_ ?_
      · intro p w1
        go_simp
        first | done | rfl | rw [zero_tb]
      rintro p L w1 ⟨hsz, hB, r, m, h_s⟩ hk
      have L3 : L 3 = false := hk.2.2 3 rfl
      refine ⟨Nat.le_trans hsz (by simp), hB.alloc (Nat.le_trans (by first | exact hW0 | (have := hB.size; simp at this ⊢; omega)) hsz) _, r.alloc _, m.alloc _, fun _ => ⟨hsz, ?_⟩⟩
      rw [show upL L 2 3 = false from L3]
      exact blk.new _ _ _
    refine AllI.cons ?_ ?_
    · refine stepI_store 3 rfl (fun p => rfl) (fun p => rfl) _ _ _ rfl (fun p => p 2) 0 (fun p => rfl) (fun p => (tbn (hlfF M))) (fun p => rfl) (fun p => (tbn fun _ => 0)) (fun p => (tbn (hlfF M))) 113 (fun p => tbover _ _) (fun p => by first | (rw [tbn_size, tbn_size]; decide) | simp [tbn_size, tbn_size]) (fun p => by rw [tbn_size]; kernel_rfl) (fun p => tbn_one _) ?_ ?_
      · rintro p L w1 ⟨hsz, hB, r, m, h_s⟩ hk
        have L3 : L 3 = false := hk.1
        have hh := (h_s (hk.2.1 2 rfl)).2
        rw [L3] at hh
        try simp only [cond_true, cond_false] at hh
        exact hh
      · rintro p L w1 ⟨hsz, hB, r, m, h_s⟩ hk
        have L3 : L 3 = false := hk.1
        skip
        have hp := h_s (hk.2.1 2 rfl)
        refine ⟨(by simpa using hsz), Below.setRow hB (by first | exact Nat.le_trans hW0 hp.1 | exact ge_s | omega | (have := hB.size; simp at this ⊢; omega)) _, r.rowOther (by first | exact Nat.ne_of_lt (Nat.lt_of_lt_of_le lt_r hp.1) | omega) _, m.rowOther (by first | exact Nat.ne_of_lt (Nat.lt_of_lt_of_le lt_m hp.1) | omega) _, fun _ => ⟨hp.1, ?_⟩⟩
        rw [show upL L 3 3 = true from rfl]
        exact hp.2.row _
    exact AllI.nil
  case hV0 =>
    intro p q
    refine AllI.cons ?_ ?_
    · skip
      iterate 4 (refine AllI.cons (by first | exact .inl rfl | (refine .inr ?_; simp only [List.getD_cons_zero, List.getD_cons_succ]; done) | exact .inr rfl) ?_)
      exact AllI.nil
    exact AllI.nil
  case he =>
  clear hB r m
  rintro p w1rr ⟨hsz, hB, r, m, h_s⟩
  obtain ⟨le_s, s⟩ := h_s rfl
  clear h_s
  replace s : blk w1rr (p 2) (tbn (hlfF M)) 113 := s
  have ne_r_s : w.heap.size ≠ p 2 := Nat.ne_of_lt (Nat.lt_of_lt_of_le lt_r le_s)
  have ne_m_s : m_b ≠ p 2 := Nat.ne_of_lt (Nat.lt_of_lt_of_le lt_m le_s)
  have ge_s : w.heap.size ≤ p 2 := Nat.le_trans hW0 le_s
  generalize p 2 = s_b at *
  clear lt_r
  clear lt_m
  clear hsz hW0
  clear F1
  have hs0 := Lib.hid (hlf_I M)
  clear hm0
  clear m
  replace s : blk w1rr s_b (tbn (itrF (hlfF M) 0)) 113 := s
  generalize hlfF M = H at *
  have ge_s2 := ge_s
  go_wp2_with (fail)
  go_loopg [36] 12 (fun g_ iv wr => ∃ K : Nat, g_ + K = 12 ∧ iv = .int .i64 K ∧ blk wr w.heap.size (qfn fun _ => 0) 23 ∧ blk wr s_b (tbn (itrF H K)) 113 ∧ Below w.heap.size w wr)
  case atStart => exact ⟨0, rfl, rfl, r, s, hB⟩
  case round =>
    clear r s hB
    obtain ⟨K, hK, rfl, r, s, hB⟩ := hrel
    by_cases hKn : K < 12
    · have hdK : decide ((K : Int) < 12) = true := decide_eq_true (by omega)
      have hdK' : decide (K < 12) = true := decide_eq_true hKn
      have hk3 : (K : Int) < 12 := by omega
      have hwK : IntKind.i64.wrap ((K : Int) + 1) = ((K + 1 : Nat) : Int) := by rw [IntKind.wrap_i64]; omega
      have hI := Lib.hid (itr_I hs0.out K)
      obtain ⟨X, hX⟩ : ∃ X, itrF H K = X := ⟨_, rfl⟩
      have hX2 : itrF H (K + 1) = divF (prdF X) (trcF (prdF X)) := by rw [← hX]; rfl
      rw [hX] at hI s
      have F2 := Lib.hid (fun w p => fill2_any X s_b w p hI.out)
      have TR := Lib.hid (fun w => strace_any (prdF X) w)
      have hP := Lib.hid (prd_I X)
      have hT := Lib.hid (trc_I (prdF X))
      obtain ⟨P, hPX⟩ : ∃ P, prdF X = P := ⟨_, rfl⟩
      rw [hPX] at F2 TR hP hT hX2
      obtain ⟨t, htX⟩ : ∃ t, trcF P = t := ⟨_, rfl⟩
      rw [htX] at TR hT hX2
      replace hX := Lib.hid hX
      replace hX2 := Lib.hid hX2
      replace hPX := Lib.hid hPX
      replace htX := Lib.hid htX
      go_upto_region 10 with (fail)
      have lt_r := r.lt
      have lt_s := s.lt
      have hW0 : w.heap.size ≤ wr.heap.size := by have := hB.size; first | exact this | simpa using this
      apply wp_region_Q 4 [0, 1, 3, 7] [2] [_, _, (fun p => .pointer (some ⟨p 2, 0, none⟩)), (fun _ => undef)] (fun p L w' => wr.heap.size ≤ w'.heap.size ∧ Below w.heap.size w w' ∧ blk w' w.heap.size (qfn fun _ => 0) 23 ∧ blk w' s_b (tbn X) 113 ∧ (L 2 = true → wr.heap.size ≤ p 2 ∧ blk w' (p 2) (bif L 3 then (tbn P) else (tbn fun _ => 0)) 113)) _ [(0, 38), (1, 39), (2, 9)] [0, 1, 2, 3]
      case hn => rfl
      case hB => kernel_rfl
      case hds => kernel_rfl
      case hA => (intro p; simp only [putsD, Act.put, List.setIfInBounds_toArray, List.set_cons_zero, List.set_cons_succ, List.getD_cons_zero, List.getD_cons_succ]; exact rfl)
      case h0 => exact fun p => ⟨Nat.le_refl _, hB, r, s, fun h => absurd h (by decide)⟩
      case hmore => exact fun p L w1 w2 ⟨hsz, hB, r, s, h_p1⟩ hm => ⟨Nat.le_trans hsz hm.size, hB.trans (hm.mono (Nat.le_trans hW0 hsz)), r.below hm r.lt, s.below hm s.lt, fun hl => ⟨(h_p1 hl).1, (h_p1 hl).2.below hm (h_p1 hl).2.lt⟩⟩
      case hs =>
        intro more
        refine stepV _ rfl rfl (fun _ _ _ h => h) (by intros; go_simp; exact ⟨rfl, rfl⟩) ?_
        refine stepD 1 rfl (fun p => rfl) (fun _ _ _ h => h) more ?_ ?_
        · rintro p L w1 ⟨hsz, hB, r, s, h_p1⟩ hk
          have L3 : L 3 = false := hk.2.2 3 rfl
          go_simp
          refine (F2.out _ s).mono ?_
          rintro e w2 ⟨rfl, h2⟩
          first | exact ⟨rfl, h2⟩ | (subst h2; exact ⟨rfl, Below.refl _ _⟩)
        refine AllI.cons ?_ ?_
        · refine stepI_alloc 2 rfl (fun p => rfl) rfl (tbn fun _ => 0) 113 (fun p => rfl) ?_ ?_
          · intro p w1
            go_simp
            first | done | rfl | rw [zero_tb]
          rintro p L w1 ⟨hsz, hB, r, s, h_p1⟩ hk
          have L3 : L 3 = false := hk.2.2 3 rfl
          refine ⟨Nat.le_trans hsz (by simp), hB.alloc (Nat.le_trans (by first | exact hW0 | (have := hB.size; simp at this ⊢; omega)) hsz) _, r.alloc _, s.alloc _, fun _ => ⟨hsz, ?_⟩⟩
          rw [show upL L 2 3 = false from L3]
          exact blk.new _ _ _
        refine AllI.cons ?_ ?_
        · refine stepI_store 3 rfl (fun p => rfl) (fun p => rfl) _ _ _ rfl (fun p => p 2) 0 (fun p => rfl) (fun p => (tbn P)) (fun p => rfl) (fun p => (tbn fun _ => 0)) (fun p => (tbn P)) 113 (fun p => tbover _ _) (fun p => by first | (rw [tbn_size, tbn_size]; decide) | simp [tbn_size, tbn_size]) (fun p => by rw [tbn_size]; kernel_rfl) (fun p => tbn_one _) ?_ ?_
          · rintro p L w1 ⟨hsz, hB, r, s, h_p1⟩ hk
            have L3 : L 3 = false := hk.1
            have hh := (h_p1 (hk.2.1 2 rfl)).2
            rw [L3] at hh
            try simp only [cond_true, cond_false] at hh
            exact hh
          · rintro p L w1 ⟨hsz, hB, r, s, h_p1⟩ hk
            have L3 : L 3 = false := hk.1
            skip
            have hp := h_p1 (hk.2.1 2 rfl)
            refine ⟨(by simpa using hsz), Below.setRow hB (by first | exact Nat.le_trans hW0 hp.1 | exact ge_p1 | omega | (have := hB.size; simp at this ⊢; omega)) _, r.rowOther (by first | exact Nat.ne_of_lt (Nat.lt_of_lt_of_le lt_r hp.1) | omega) _, s.rowOther (by first | exact Nat.ne_of_lt (Nat.lt_of_lt_of_le lt_s hp.1) | omega) _, fun _ => ⟨hp.1, ?_⟩⟩
            rw [show upL L 3 3 = true from rfl]
            exact hp.2.row _
        exact AllI.nil
      case hV0 =>
        intro p q
        refine AllI.cons ?_ ?_
        · skip
          iterate 4 (refine AllI.cons (by first | exact .inl rfl | (refine .inr ?_; simp only [List.getD_cons_zero, List.getD_cons_succ]; done) | exact .inr rfl) ?_)
          exact AllI.nil
        exact AllI.nil
      case he =>
      clear hB r s
      rintro p wrr ⟨hsz, hB, r, s, h_p1⟩
      obtain ⟨le_p1, p1⟩ := h_p1 rfl
      clear h_p1
      replace p1 : blk wrr (p 2) (tbn P) 113 := p1
      have ne_r_p1 : w.heap.size ≠ p 2 := Nat.ne_of_lt (Nat.lt_of_lt_of_le lt_r le_p1)
      have ne_s_p1 : s_b ≠ p 2 := Nat.ne_of_lt (Nat.lt_of_lt_of_le lt_s le_p1)
      have ge_p1 : w.heap.size ≤ p 2 := Nat.le_trans hW0 le_p1
      generalize p 2 = p1_b at *
      clear lt_r
      clear lt_s
      clear hsz hW0
      clear F2
      go_upto_region 11 with (fail)
      have lt_r := r.lt
      have lt_s := s.lt
      have lt_p1 := p1.lt
      have hW0 : w.heap.size ≤ wrr.heap.size := by have := hB.size; first | exact this | simpa using this
      apply wp_region_Q 4 [0, 1, 3, 7] [2] [_, _, (fun p => .pointer (some ⟨p 2, 0, none⟩)), (fun _ => undef)] (fun p L w' => wrr.heap.size ≤ w'.heap.size ∧ Below w.heap.size w w' ∧ blk w' w.heap.size (qfn fun _ => 0) 23 ∧ blk w' s_b (tbn X) 113 ∧ blk w' p1_b (tbn P) 113 ∧ (L 2 = true → wrr.heap.size ≤ p 2 ∧ blk w' (p 2) (bif L 3 then #[.int .i64 t] else #[.int .i64 0]) 2)) _ [(0, 40), (1, 41), (2, 10)] [0, 1, 2, 3]
      case hn => rfl
      case hB => kernel_rfl
      case hds => kernel_rfl
      case hA => (intro p; simp only [putsD, Act.put, List.setIfInBounds_toArray, List.set_cons_zero, List.set_cons_succ, List.getD_cons_zero, List.getD_cons_succ]; exact rfl)
      case h0 => exact fun p => ⟨Nat.le_refl _, hB, r, s, p1, fun h => absurd h (by decide)⟩
      case hmore => exact fun p L w1 w2 ⟨hsz, hB, r, s, p1, h_sm⟩ hm => ⟨Nat.le_trans hsz hm.size, hB.trans (hm.mono (Nat.le_trans hW0 hsz)), r.below hm r.lt, s.below hm s.lt, p1.below hm p1.lt, fun hl => ⟨(h_sm hl).1, (h_sm hl).2.below hm (h_sm hl).2.lt⟩⟩
      case hs =>
        intro more
        refine stepV 0 rfl rfl (fun _ _ _ h => h) ?_ ?_
        · rintro p L w1 ⟨hsz, hB, r, s, p1, h_sm⟩ hk
          have L3 : L 3 = false := hk.2.2 3 rfl
          first | exact valR_row _ _ rfl _ rfl _ _ p1 _ Try.underlying113 rfl (by first | kernel_rfl | (rw [tbn_size]; kernel_rfl)) rfl | (have hc := p1.cellIs (tbn_get _ (show 0 < 16 by omega)); go_simp; exact ⟨rfl, rfl⟩)
        refine stepD 1 rfl (fun p => rfl) (fun _ _ _ h => h) more ?_ ?_
        · rintro p L w1 ⟨hsz, hB, r, s, p1, h_sm⟩ hk
          go_simp
          refine (TR.out _).mono ?_
          rintro e w2 ⟨rfl, h2⟩
          first | exact ⟨rfl, h2⟩ | (subst h2; exact ⟨rfl, Below.refl _ _⟩)
        refine AllI.cons ?_ ?_
        · refine stepI_alloc 2 rfl (fun p => rfl) rfl #[.int .i64 0] 2 (fun p => rfl) ?_ ?_
          · intro p w1
            go_simp
            first | done | rfl | fail
          rintro p L w1 ⟨hsz, hB, r, s, p1, h_sm⟩ hk
          have L3 : L 3 = false := hk.2.2 3 rfl
          refine ⟨Nat.le_trans hsz (by simp), hB.alloc (Nat.le_trans (by first | exact hW0 | (have := hB.size; simp at this ⊢; omega)) hsz) _, r.alloc _, s.alloc _, p1.alloc _, fun _ => ⟨hsz, ?_⟩⟩
          rw [show upL L 2 3 = false from L3]
          exact blk.new _ _ _
        refine AllI.cons ?_ ?_
        · refine stepI_cell 3 rfl (fun p => rfl) (fun p => rfl) (fun p => p 2) (0) (fun p => .int .i64 t) (fun p => #[.int .i64 0]) (fun p => #[.int .i64 t]) 2 (fun p => rfl) ?_ ?_ ?_
          · rintro p L w1 ⟨hsz, hB, r, s, p1, h_sm⟩ hk
            have L3 : L 3 = false := hk.1
            have hh := (h_sm (hk.2.1 2 rfl)).2
            rw [L3] at hh
            try simp only [cond_true, cond_false] at hh
            exact hh
          · intro p w1 hb
            have fz : w1.frozen? ⟨(p 2), 0, none⟩ = false := hb.free _
            have cz : ∃ u, w1.cell? ⟨(p 2), 0, none⟩ = some u := ⟨_, hb.cellIs (rfl)⟩
            obtain ⟨u, cz⟩ := cz
            go_simp
            try exact ⟨_, rfl, by first | exact .inl rfl | exact .inr rfl⟩
          · rintro p L w1 ⟨hsz, hB, r, s, p1, h_sm⟩ hk
            have L3 : L 3 = false := hk.1
            have hp := h_sm (hk.2.1 2 rfl)
            refine ⟨(by simpa using hsz), Below.setRow hB (by first | exact Nat.le_trans hW0 hp.1 | exact ge_sm | omega | (have := hB.size; simp at this ⊢; omega)) _, r.rowOther (by first | exact Nat.ne_of_lt (Nat.lt_of_lt_of_le lt_r hp.1) | omega) _, s.rowOther (by first | exact Nat.ne_of_lt (Nat.lt_of_lt_of_le lt_s hp.1) | omega) _, p1.rowOther (by first | exact Nat.ne_of_lt (Nat.lt_of_lt_of_le lt_p1 hp.1) | omega) _, fun _ => ⟨hp.1, ?_⟩⟩
            rw [show upL L 3 3 = true from rfl]
            exact hp.2.row _
        exact AllI.nil
      case hV0 =>
        intro p q
        refine AllI.cons ?_ ?_
        · skip
          iterate 4 (refine AllI.cons (by first | exact .inl rfl | (refine .inr ?_; simp only [List.getD_cons_zero, List.getD_cons_succ]; done) | exact .inr rfl) ?_)
          exact AllI.nil
        exact AllI.nil
      case he =>
      clear hB r s p1
      rintro p wrrr ⟨hsz, hB, r, s, p1, h_sm⟩
      obtain ⟨le_sm, sm⟩ := h_sm rfl
      clear h_sm
      replace sm : blk wrrr (p 2) #[.int .i64 t] 2 := sm
      have ne_r_sm : w.heap.size ≠ p 2 := Nat.ne_of_lt (Nat.lt_of_lt_of_le lt_r le_sm)
      have ne_s_sm : s_b ≠ p 2 := Nat.ne_of_lt (Nat.lt_of_lt_of_le lt_s le_sm)
      have ne_p1_sm : p1_b ≠ p 2 := Nat.ne_of_lt (Nat.lt_of_lt_of_le lt_p1 le_sm)
      have ge_sm : w.heap.size ≤ p 2 := Nat.le_trans hW0 le_sm
      generalize p 2 = sm_b at *
      clear lt_r
      clear lt_s
      clear lt_p1
      clear hsz hW0
      clear TR
      go_upto_region 12 with (fail)
      have F3 := Lib.hid (fun w p q => fill3_any P t p1_b sm_b w p q hP.out hT.out)
      have lt_r := r.lt
      have lt_s := s.lt
      have lt_p1 := p1.lt
      have lt_sm := sm.lt
      have hW0 : w.heap.size ≤ wrrr.heap.size := by have := hB.size; first | exact this | simpa using this
      apply wp_region_Q 3 [0, 1, 3] [] [_, _, (fun _ => undef)] (fun p L w' => wrrr.heap.size ≤ w'.heap.size ∧ Below w.heap.size w w' ∧ blk w' w.heap.size (qfn fun _ => 0) 23 ∧ blk w' s_b (bif L 2 then (tbn (divF P t)) else (tbn X)) 113 ∧ blk w' p1_b (tbn P) 113 ∧ blk w' sm_b #[.int .i64 t] 2) _ [(0, 42), (1, 43)] [0, 1, 2]
      case hn => rfl
      case hB => kernel_rfl
      case hds => kernel_rfl
      case hA => (intro p; simp only [putsD, Act.put, List.setIfInBounds_toArray, List.set_cons_zero, List.set_cons_succ, List.getD_cons_zero, List.getD_cons_succ]; exact rfl)
      case h0 => exact fun p => ⟨Nat.le_refl _, hB, r, s, p1, sm⟩
      case hmore => exact fun p L w1 w2 ⟨hsz, hB, r, s, p1, sm⟩ hm => ⟨Nat.le_trans hsz hm.size, hB.trans (hm.mono (Nat.le_trans hW0 hsz)), r.below hm r.lt, s.below hm s.lt, p1.below hm p1.lt, sm.below hm sm.lt⟩
      case hs =>
        intro more
        refine stepV _ rfl rfl (fun _ _ _ h => h) (by intros; go_simp; exact ⟨rfl, rfl⟩) ?_
        refine stepD 1 rfl (fun p => rfl) (fun _ _ _ h => h) more ?_ ?_
        · rintro p L w1 ⟨hsz, hB, r, s, p1, sm⟩ hk
          have L2 : L 2 = false := hk.2.2 2 rfl
          go_simp
          refine (F3.out _ p1 sm).mono ?_
          rintro e w2 ⟨rfl, h2⟩
          first | exact ⟨rfl, h2⟩ | (subst h2; exact ⟨rfl, Below.refl _ _⟩)
        refine AllI.cons ?_ ?_
        · refine stepI_store 2 rfl (fun p => rfl) (fun p => rfl) _ _ _ rfl (fun _ => s_b) 0 (fun p => rfl) (fun p => (tbn (divF P t))) (fun p => rfl) (fun p => (tbn X)) (fun p => (tbn (divF P t))) 113 (fun p => tbover _ _) (fun p => by first | (rw [tbn_size, tbn_size]; decide) | simp [tbn_size, tbn_size]) (fun p => by rw [tbn_size]; kernel_rfl) (fun p => tbn_one _) ?_ ?_
          · rintro p L w1 ⟨hsz, hB, r, s, p1, sm⟩ hk
            have L2 : L 2 = false := hk.1
            rw [L2] at s
            try simp only [cond_true, cond_false] at s
            exact s
          · rintro p L w1 ⟨hsz, hB, r, s, p1, sm⟩ hk
            have L2 : L 2 = false := hk.1
            skip
            refine ⟨(by simpa using hsz), Below.setRow hB (by first | exact Nat.le_trans hW0 hp.1 | exact ge_s | omega | (have := hB.size; simp at this ⊢; omega)) _, r.rowOther (by first | exact ne_r_s | exact Ne.symm ne_s_r | omega) _, ?_, p1.rowOther (by first | exact ne_p1_s | exact Ne.symm ne_s_p1 | omega) _, sm.rowOther (by first | exact ne_sm_s | exact Ne.symm ne_s_sm | omega) _⟩
            rw [show upL L 2 2 = true from rfl]
            exact s.row _
        exact AllI.nil
      case hV0 => exact fun p q => AllI.nil
      case he =>
      clear hB r s p1 sm
      rintro p wrrrr ⟨hsz, hB, r, s, p1, sm⟩
      replace s : blk wrrrr s_b (tbn (divF P t)) 113 := s
      clear lt_r
      clear lt_s
      clear lt_p1
      clear lt_sm
      clear hsz hW0
      clear F3
      go_wp2_with (fail)
      go_roundg (12 - (K + 1))
      case rel => exact ⟨K + 1, by omega, rfl, r, by rw [hX2.out]; exact s, hB⟩
      case measure => omega
    · obtain rfl : K = 12 := by omega
      have hI := Lib.hid (itr_I hs0.out 12)
      obtain ⟨X, hX⟩ : ∃ X, itrF H 12 = X := ⟨_, rfl⟩
      rw [hX] at s hI hRS
      clear hX hs0
      go_wp2_with (fail)
      go_loopg [45, 11] 4 (fun g_ iv jb wr => ∃ k : Nat, g_ + k = 4 ∧ iv = .int .i64 k ∧ jb = .int .i64 (bstF X k) ∧ blk wr w.heap.size (qfn fun _ => 0) 23 ∧ blk wr s_b (tbn X) 113 ∧ Below w.heap.size w wr)
      case atStart => exact ⟨0, rfl, rfl, rfl, r, s, hB⟩
      case round =>
        clear r s hB
        obtain ⟨k, hk, rfl, rfl, r, s, hB⟩ := hrel
        by_cases hkn : k < 4
        · have hdk : decide ((k : Int) < 4) = true := decide_eq_true (by omega)
          have hdk' : decide (k < 4) = true := decide_eq_true hkn
          have hk3 : (k : Int) < 4 := by omega
          have hwk : IntKind.i64.wrap ((k : Int) + 1) = ((k + 1 : Nat) : Int) := by rw [IntKind.wrap_i64]; omega
          have hbl := bst_lt X k (by omega)
          have hst : bstF X (k + 1) = if X (bstF X k * 5) < X (k * 5) then k else bstF X k := rfl
          obtain ⟨bs, hbs⟩ : ∃ bs, bstF X k = bs := ⟨_, rfl⟩
          rw [hbs] at hst hbl ⊢
          have hdb : decide ((bs : Int) < 4) = true := decide_eq_true (by omega)
          have hdb' : decide (bs < 4) = true := decide_eq_true hbl
          have hb3 : (bs : Int) < 4 := by omega
          replace hbs := Lib.hid hbs
          have q1 : Hid (k * 4 + k = k * 5) := by show _ = _; omega
          have q2 : Hid (bs * 4 + bs = bs * 5) := by show _ = _; omega
          rw [← q1.out, ← q2.out] at hst
          clear q1 q2
          by_cases hlt : X (bs * 4 + bs) < X (k * 4 + k)
          · have hdl : decide (X (bs * 4 + bs) < X (k * 4 + k)) = true := decide_eq_true hlt
            rw [if_pos hlt] at hst
            replace hst := Lib.hid hst
            clear hlt
            go_upto_region 18 with (fail)
            have lt_r := r.lt
            have lt_s := s.lt
            have hW0 : w.heap.size ≤ wr.heap.size := by have := hB.size; first | exact this | simpa using this
            apply wp_region_I 11 [0, 0, 1, 7, 15, 0, 0, 32, 224, 480, 1023] [] [_, _, _, _, _, _, _, _, _, _, _] (fun p L w' => wr.heap.size ≤ w'.heap.size ∧ Below w.heap.size w w' ∧ blk w' w.heap.size (qfn fun _ => 0) 23 ∧ blk w' s_b (tbn X) 113) _ [(0, 48), (1, 49), (2, 50), (3, 51), (4, 52), (5, 53), (6, 54), (7, 55), (8, 56), (9, 57), (10, 58)] [0, 1, 2, 3, 4, 5, 6, 7, 8, 9, 10]
            case hn => rfl
            case hm => kernel_rfl
            case hB => kernel_rfl
            case hds => kernel_rfl
            case hA => (intro p; simp only [putsD, Act.put, List.setIfInBounds_toArray, List.set_cons_zero, List.set_cons_succ, List.getD_cons_zero, List.getD_cons_succ]; exact rfl)
            case h0 => exact fun p => ⟨Nat.le_refl _, hB.drew, r.drew, s.drew⟩
            case hmore => exact fun p L w1 w2 ⟨hsz, hB, r, s⟩ hm => ⟨Nat.le_trans hsz hm.size, hB.trans (hm.mono (Nat.le_trans hW0 hsz)), r.below hm r.lt, s.below hm s.lt⟩
            case hs =>
              intro more
              iterate 4 (refine stepV _ rfl rfl (fun _ _ _ h => h) (by intros; go_simp; exact ⟨rfl, rfl⟩) ?_)
              refine stepV 4 rfl rfl (fun _ _ _ h => h) ?_ ?_
              · rintro p L w1 ⟨hsz, hB, r, s⟩ hk
                have hc : w1.cell? ⟨s_b, k * 4 + k, none⟩ = some (.int .i64 (X (k * 4 + k))) := s.cellIs (tbn_get X (by omega))
                go_simp
                exact ⟨rfl, rfl⟩
              iterate 4 (refine stepV _ rfl rfl (fun _ _ _ h => h) (by intros; go_simp; exact ⟨rfl, rfl⟩) ?_)
              refine stepV 9 rfl rfl (fun _ _ _ h => h) ?_ ?_
              · rintro p L w1 ⟨hsz, hB, r, s⟩ hk
                have hc : w1.cell? ⟨s_b, bs * 4 + bs, none⟩ = some (.int .i64 (X (bs * 4 + bs))) := s.cellIs (tbn_get X (by omega))
                go_simp
                exact ⟨rfl, rfl⟩
              refine stepV _ rfl rfl (fun _ _ _ h => h) (by intros; go_simp; exact ⟨rfl, rfl⟩) ?_
              exact AllI.nil
            case hV0 => exact fun p q => AllI.nil
            case he =>
            clear hB r s
            rintro p wrr ⟨hsz, hB, r, s⟩
            clear lt_r
            clear lt_s
            clear hsz hW0
            go_wp2_with (fail)
            go_roundg (4 - (k + 1))
            case rel => exact ⟨k + 1, by omega, rfl, by rw [hst.out], r, s, hB⟩
            case measure => omega
          have hdl : decide (X (bs * 4 + bs) < X (k * 4 + k)) = false := decide_eq_false hlt
          rw [if_neg hlt] at hst
          replace hst := Lib.hid hst
          clear hlt
          go_upto_region 18 with (fail)
          have lt_r := r.lt
          have lt_s := s.lt
          have hW0 : w.heap.size ≤ wr.heap.size := by have := hB.size; first | exact this | simpa using this
          apply wp_region_I 11 [0, 0, 1, 7, 15, 0, 0, 32, 224, 480, 1023] [] [_, _, _, _, _, _, _, _, _, _, _] (fun p L w' => wr.heap.size ≤ w'.heap.size ∧ Below w.heap.size w w' ∧ blk w' w.heap.size (qfn fun _ => 0) 23 ∧ blk w' s_b (tbn X) 113) _ [(0, 48), (1, 49), (2, 50), (3, 51), (4, 52), (5, 53), (6, 54), (7, 55), (8, 56), (9, 57), (10, 58)] [0, 1, 2, 3, 4, 5, 6, 7, 8, 9, 10]
          case hn => rfl
          case hm => kernel_rfl
          case hB => kernel_rfl
          case hds => kernel_rfl
          case hA => (intro p; simp only [putsD, Act.put, List.setIfInBounds_toArray, List.set_cons_zero, List.set_cons_succ, List.getD_cons_zero, List.getD_cons_succ]; exact rfl)
          case h0 => exact fun p => ⟨Nat.le_refl _, hB.drew, r.drew, s.drew⟩
          case hmore => exact fun p L w1 w2 ⟨hsz, hB, r, s⟩ hm => ⟨Nat.le_trans hsz hm.size, hB.trans (hm.mono (Nat.le_trans hW0 hsz)), r.below hm r.lt, s.below hm s.lt⟩
          case hs =>
            intro more
            iterate 4 (refine stepV _ rfl rfl (fun _ _ _ h => h) (by intros; go_simp; exact ⟨rfl, rfl⟩) ?_)
            refine stepV 4 rfl rfl (fun _ _ _ h => h) ?_ ?_
            · rintro p L w1 ⟨hsz, hB, r, s⟩ hk
              have hc : w1.cell? ⟨s_b, k * 4 + k, none⟩ = some (.int .i64 (X (k * 4 + k))) := s.cellIs (tbn_get X (by omega))
              go_simp
              exact ⟨rfl, rfl⟩
            iterate 4 (refine stepV _ rfl rfl (fun _ _ _ h => h) (by intros; go_simp; exact ⟨rfl, rfl⟩) ?_)
            refine stepV 9 rfl rfl (fun _ _ _ h => h) ?_ ?_
            · rintro p L w1 ⟨hsz, hB, r, s⟩ hk
              have hc : w1.cell? ⟨s_b, bs * 4 + bs, none⟩ = some (.int .i64 (X (bs * 4 + bs))) := s.cellIs (tbn_get X (by omega))
              go_simp
              exact ⟨rfl, rfl⟩
            refine stepV _ rfl rfl (fun _ _ _ h => h) (by intros; go_simp; exact ⟨rfl, rfl⟩) ?_
            exact AllI.nil
          case hV0 => exact fun p q => AllI.nil
          case he =>
          clear hB r s
          rintro p wrr ⟨hsz, hB, r, s⟩
          clear lt_r
          clear lt_s
          clear hsz hW0
          go_wp2_with (fail)
          go_roundg (4 - (k + 1))
          case rel => exact ⟨k + 1, by omega, rfl, by rw [hst.out], r, s, hB⟩
          case measure => omega
        · obtain rfl : k = 4 := by omega
          have hbl := bst_lt X 4 (by omega)
          unfold solF at hRS
          obtain ⟨bs, hbs⟩ : ∃ bs, bstF X 4 = bs := ⟨_, rfl⟩
          rw [hbs] at hbl hRS
          rw [hbs]
          clear hbs
          have hdb : decide ((bs : Int) < 4) = true := decide_eq_true (by omega)
          have hdb' : decide (bs < 4) = true := decide_eq_true hbl
          have hb3 : (bs : Int) < 4 := by omega
          have UN := Lib.hid (fun w => qunit_any (colF X bs) w)
          rw [show qfn (colF X bs) = #[.int .i64 (X bs), .int .i64 (X (4 + bs)), .int .i64 (X (8 + bs)), .int .i64 (X (12 + bs))] from by unfold qfn colF; rfl] at UN
          generalize qunE (colF X bs) = QE at *
          generalize qunF (colF X bs) = Q at *
          go_upto_region 21 with (fail)
          have lt_r := r.lt
          have lt_s := s.lt
          have hW0 : w.heap.size ≤ wr.heap.size := by have := hB.size; first | exact this | simpa using this
          apply wp_region_I 24 [0, 0, 3, 7, 0, 0, 48, 112, 0, 0, 768, 1792, 0, 0, 12288, 28672, 65535, 131071, 262143, 524287, 524287, 0, 3145727, 8388607] [21] [_, _, _, _, _, _, _, _, _, _, _, _, _, _, _, _, _, _, _, _, _, (fun p => .pointer (some ⟨p 21, 0, none⟩)), (fun _ => undef), _] (fun p L w' => wr.heap.size ≤ w'.heap.size ∧ Below w.heap.size w w' ∧ blk w' w.heap.size (qfn fun _ => 0) 23 ∧ blk w' s_b (tbn X) 113 ∧ (L 21 = true → wr.heap.size ≤ p 21 ∧ blk w' (p 21) (bif L 22 then (qfn Q) else (qfn fun _ => 0)) 23)) _ [(0, 62), (1, 63), (2, 64), (3, 65), (4, 66), (5, 67), (6, 68), (7, 69), (8, 70), (9, 71), (10, 72), (11, 73), (12, 74), (13, 75), (14, 76), (15, 77), (16, 78), (17, 79), (18, 61), (19, 80), (20, 81), (21, 13), (23, 14)] [0, 1, 2, 3, 4, 5, 6, 7, 8, 9, 10, 11, 12, 13, 14, 15, 16, 17, 18, 19, 20, 21, 22, 23]
          case hn => rfl
          case hm => kernel_rfl
          case hB => kernel_rfl
          case hds => kernel_rfl
          case hA => (intro p; simp only [putsD, Act.put, List.setIfInBounds_toArray, List.set_cons_zero, List.set_cons_succ, List.getD_cons_zero, List.getD_cons_succ]; exact rfl)
          case h0 => exact fun p => ⟨Nat.le_refl _, hB.drew, r.drew, s.drew, fun h => absurd h (by decide)⟩
          case hmore => exact fun p L w1 w2 ⟨hsz, hB, r, s, h_qq⟩ hm => ⟨Nat.le_trans hsz hm.size, hB.trans (hm.mono (Nat.le_trans hW0 hsz)), r.below hm r.lt, s.below hm s.lt, fun hl => ⟨(h_qq hl).1, (h_qq hl).2.below hm (h_qq hl).2.lt⟩⟩
          case hs =>
            intro more
            iterate 3 (refine stepV _ rfl rfl (fun _ _ _ h => h) (by intros; go_simp; exact ⟨rfl, rfl⟩) ?_)
            refine stepV 3 rfl rfl (fun _ _ _ h => h) ?_ ?_
            · rintro p L w1 ⟨hsz, hB, r, s, h_qq⟩ hk
              have L22 : L 22 = false := hk.2.2 22 rfl
              have hc : w1.cell? ⟨s_b, bs, none⟩ = some (.int .i64 (X bs)) := s.cellIs (tbn_get X (by omega))
              go_simp
              exact ⟨rfl, rfl⟩
            iterate 3 (refine stepV _ rfl rfl (fun _ _ _ h => h) (by intros; go_simp; exact ⟨rfl, rfl⟩) ?_)
            refine stepV 7 rfl rfl (fun _ _ _ h => h) ?_ ?_
            · rintro p L w1 ⟨hsz, hB, r, s, h_qq⟩ hk
              have L22 : L 22 = false := hk.2.2 22 rfl
              have hc : w1.cell? ⟨s_b, 4 + bs, none⟩ = some (.int .i64 (X (4 + bs))) := s.cellIs (tbn_get X (by omega))
              go_simp
              exact ⟨rfl, rfl⟩
            iterate 3 (refine stepV _ rfl rfl (fun _ _ _ h => h) (by intros; go_simp; exact ⟨rfl, rfl⟩) ?_)
            refine stepV 11 rfl rfl (fun _ _ _ h => h) ?_ ?_
            · rintro p L w1 ⟨hsz, hB, r, s, h_qq⟩ hk
              have L22 : L 22 = false := hk.2.2 22 rfl
              have hc : w1.cell? ⟨s_b, 8 + bs, none⟩ = some (.int .i64 (X (8 + bs))) := s.cellIs (tbn_get X (by omega))
              go_simp
              exact ⟨rfl, rfl⟩
            iterate 3 (refine stepV _ rfl rfl (fun _ _ _ h => h) (by intros; go_simp; exact ⟨rfl, rfl⟩) ?_)
            refine stepV 15 rfl rfl (fun _ _ _ h => h) ?_ ?_
            · rintro p L w1 ⟨hsz, hB, r, s, h_qq⟩ hk
              have L22 : L 22 = false := hk.2.2 22 rfl
              have hc : w1.cell? ⟨s_b, 12 + bs, none⟩ = some (.int .i64 (X (12 + bs))) := s.cellIs (tbn_get X (by omega))
              go_simp
              exact ⟨rfl, rfl⟩
            refine stepV 16 rfl rfl (fun _ _ _ h => h) ?_ ?_
            · intros; (try simp only [vfn, qfn]); go_simp; exact ⟨rfl, rfl⟩
            refine stepD 17 rfl (fun p => rfl) (fun _ _ _ h => h) more ?_ ?_
            · rintro p L w1 ⟨hsz, hB, r, s, h_qq⟩ hk
              go_simp
              refine (UN.out _).mono ?_
              rintro e w2 ⟨rfl, h2⟩
              first | exact ⟨rfl, h2⟩ | (subst h2; exact ⟨rfl, Below.refl _ _⟩)
            iterate 3 (refine stepV _ rfl rfl (fun _ _ _ h => h) (by intros; go_simp; exact ⟨rfl, rfl⟩) ?_)
            refine AllI.cons ?_ ?_
            · refine stepI_alloc 21 rfl (fun p => rfl) rfl (qfn fun _ => 0) 23 (fun p => rfl) ?_ ?_
              · intro p w1
                go_simp
                first | done | rfl | rw [zero_quat]
              rintro p L w1 ⟨hsz, hB, r, s, h_qq⟩ hk
              have L22 : L 22 = false := hk.2.2 22 rfl
              refine ⟨Nat.le_trans hsz (by simp), hB.alloc (Nat.le_trans (by first | exact hW0 | (have := hB.size; simp at this ⊢; omega)) hsz) _, r.alloc _, s.alloc _, fun _ => ⟨hsz, ?_⟩⟩
              rw [show upL L 21 22 = false from L22]
              exact blk.new _ _ _
            refine AllI.cons ?_ ?_
            · refine stepI_store 22 rfl (fun p => rfl) (fun p => rfl) _ _ _ rfl (fun p => p 21) 0 (fun p => rfl) (fun p => (qfn Q)) (fun p => rfl) (fun p => (qfn fun _ => 0)) (fun p => (qfn Q)) 23 (fun p => over_q' _ _) (fun p => by first | (rw [qfn_size, qfn_size]; decide) | simp [qfn_size, qfn_size]) (fun p => by rw [qfn_size]; kernel_rfl) (fun p => qfn_one _) ?_ ?_
              · rintro p L w1 ⟨hsz, hB, r, s, h_qq⟩ hk
                have L22 : L 22 = false := hk.1
                have hh := (h_qq (hk.2.1 21 rfl)).2
                rw [L22] at hh
                try simp only [cond_true, cond_false] at hh
                exact hh
              · rintro p L w1 ⟨hsz, hB, r, s, h_qq⟩ hk
                have L22 : L 22 = false := hk.1
                skip
                have hp := h_qq (hk.2.1 21 rfl)
                refine ⟨(by simpa using hsz), Below.setRow hB (by first | exact Nat.le_trans hW0 hp.1 | exact ge_qq | omega | (have := hB.size; simp at this ⊢; omega)) _, r.rowOther (by first | exact Nat.ne_of_lt (Nat.lt_of_lt_of_le lt_r hp.1) | omega) _, s.rowOther (by first | exact Nat.ne_of_lt (Nat.lt_of_lt_of_le lt_s hp.1) | omega) _, fun _ => ⟨hp.1, ?_⟩⟩
                rw [show upL L 22 22 = true from rfl]
                exact hp.2.row _
            refine stepV _ rfl rfl (fun _ _ _ h => h) (by intros; go_simp; exact ⟨rfl, rfl⟩) ?_
            exact AllI.nil
          case hV0 =>
            intro p q
            refine AllI.cons ?_ ?_
            · skip
              iterate 24 (refine AllI.cons (by first | exact .inl rfl | (refine .inr ?_; simp only [List.getD_cons_zero, List.getD_cons_succ]; done) | exact .inr rfl) ?_)
              exact AllI.nil
            exact AllI.nil
          case he =>
          clear hB r s
          rintro p wrr ⟨hsz, hB, r, s, h_qq⟩
          obtain ⟨le_qq, qq⟩ := h_qq rfl
          clear h_qq
          replace qq : blk wrr (p 21) (qfn Q) 23 := qq
          have ne_r_qq : w.heap.size ≠ p 21 := Nat.ne_of_lt (Nat.lt_of_lt_of_le lt_r le_qq)
          have ne_s_qq : s_b ≠ p 21 := Nat.ne_of_lt (Nat.lt_of_lt_of_le lt_s le_qq)
          have ge_qq : w.heap.size ≤ p 21 := Nat.le_trans hW0 le_qq
          generalize p 21 = qq_b at *
          clear lt_r
          clear lt_s
          clear hsz hW0
          clear UN
          have cq : wrr.cell? ⟨qq_b, 0, none⟩ = some (.int .i64 (Q 0)) := qq.cellIs (qfn_get Q (by omega))
          by_cases h0 : Q 0 < 0
          · have d0 : decide (Q 0 < 0) = true := decide_eq_true h0
            have hN : posF Q = negW Q := by unfold posF; rw [if_pos h0]
            rw [hN] at hRS
            clear hN h0
            have n0 : IntKind.i64.wrap (-Q 0) = negW Q 0 := by rw [wrap_W]; rfl
            have n1 : IntKind.i64.wrap (-Q 1) = negW Q 1 := by rw [wrap_W]; rfl
            have n2 : IntKind.i64.wrap (-Q 2) = negW Q 2 := by rw [wrap_W]; rfl
            have n3 : IntKind.i64.wrap (-Q 3) = negW Q 3 := by rw [wrap_W]; rfl
            go_upto_region 23 with (fail)
            clear cq
            have lt_r := r.lt
            have lt_s := s.lt
            have lt_qq := qq.lt
            have hW0 : w.heap.size ≤ wrr.heap.size := by have := hB.size; first | exact this | simpa using this
            apply wp_region_Q 14 [0, 1, 3, 7, 15, 31, 63, 127, 255, 511, 1023, 2047, 4095, 8191] [] [_, _, _, _, _, _, _, _, _, _, _, _, _, (fun _ => undef)] (fun p L w' => wrr.heap.size ≤ w'.heap.size ∧ Below w.heap.size w w' ∧ blk w' w.heap.size (qfn fun _ => 0) 23 ∧ blk w' s_b (tbn X) 113 ∧ blk w' qq_b (bif L 13 then (qfn (negW Q)) else (qfn Q)) 23) _ [(0, 85), (1, 86), (2, 87), (3, 88), (4, 89), (5, 90), (6, 91), (7, 92), (8, 93), (9, 94), (10, 95), (11, 96), (12, 97)] [0, 1, 2, 3, 4, 5, 6, 7, 8, 9, 10, 11, 12, 13]
            case hn => rfl
            case hB => kernel_rfl
            case hds => kernel_rfl
            case hA => (intro p; simp only [putsD, Act.put, List.setIfInBounds_toArray, List.set_cons_zero, List.set_cons_succ, List.getD_cons_zero, List.getD_cons_succ]; exact rfl)
            case h0 => exact fun p => ⟨Nat.le_refl _, hB, r, s, qq⟩
            case hmore => exact fun p L w1 w2 ⟨hsz, hB, r, s, qq⟩ hm => ⟨Nat.le_trans hsz hm.size, hB.trans (hm.mono (Nat.le_trans hW0 hsz)), r.below hm r.lt, s.below hm s.lt, qq.below hm qq.lt⟩
            case hs =>
              intro more
              refine stepV _ rfl rfl (fun _ _ _ h => h) (by intros; go_simp; exact ⟨rfl, rfl⟩) ?_
              refine stepV 1 rfl rfl (fun _ _ _ h => h) ?_ ?_
              · rintro p L w1 ⟨hsz, hB, r, s, qq⟩ hk
                have L13 : L 13 = false := hk.2.2 13 rfl
                rw [L13] at qq
                try simp only [cond_true, cond_false] at qq
                have hc : w1.cell? ⟨qq_b, 0, none⟩ = some (.int .i64 (Q 0)) := qq.cellIs (qfn_get Q (by omega))
                go_simp
                exact ⟨rfl, rfl⟩
              iterate 2 (refine stepV _ rfl rfl (fun _ _ _ h => h) (by intros; go_simp; exact ⟨rfl, rfl⟩) ?_)
              refine stepV 4 rfl rfl (fun _ _ _ h => h) ?_ ?_
              · rintro p L w1 ⟨hsz, hB, r, s, qq⟩ hk
                have L13 : L 13 = false := hk.2.2 13 rfl
                rw [L13] at qq
                try simp only [cond_true, cond_false] at qq
                have hc : w1.cell? ⟨qq_b, 1, none⟩ = some (.int .i64 (Q 1)) := qq.cellIs (qfn_get Q (by omega))
                go_simp
                exact ⟨rfl, rfl⟩
              iterate 2 (refine stepV _ rfl rfl (fun _ _ _ h => h) (by intros; go_simp; exact ⟨rfl, rfl⟩) ?_)
              refine stepV 7 rfl rfl (fun _ _ _ h => h) ?_ ?_
              · rintro p L w1 ⟨hsz, hB, r, s, qq⟩ hk
                have L13 : L 13 = false := hk.2.2 13 rfl
                rw [L13] at qq
                try simp only [cond_true, cond_false] at qq
                have hc : w1.cell? ⟨qq_b, 2, none⟩ = some (.int .i64 (Q 2)) := qq.cellIs (qfn_get Q (by omega))
                go_simp
                exact ⟨rfl, rfl⟩
              iterate 2 (refine stepV _ rfl rfl (fun _ _ _ h => h) (by intros; go_simp; exact ⟨rfl, rfl⟩) ?_)
              refine stepV 10 rfl rfl (fun _ _ _ h => h) ?_ ?_
              · rintro p L w1 ⟨hsz, hB, r, s, qq⟩ hk
                have L13 : L 13 = false := hk.2.2 13 rfl
                rw [L13] at qq
                try simp only [cond_true, cond_false] at qq
                have hc : w1.cell? ⟨qq_b, 3, none⟩ = some (.int .i64 (Q 3)) := qq.cellIs (qfn_get Q (by omega))
                go_simp
                exact ⟨rfl, rfl⟩
              refine stepV _ rfl rfl (fun _ _ _ h => h) (by intros; go_simp; exact ⟨rfl, rfl⟩) ?_
              refine stepV 12 rfl rfl (fun _ _ _ h => h) ?_ ?_
              · intros; (try simp only [vfn, qfn]); go_simp; exact ⟨rfl, rfl⟩
              refine AllI.cons ?_ ?_
              · refine stepI_store 13 rfl (fun p => rfl) (fun p => rfl) _ _ _ rfl (fun _ => qq_b) 0 (fun p => rfl) (fun p => (qfn (negW Q))) (fun p => congrArg Value.agg (qfn_of' (negW Q))) (fun p => (qfn Q)) (fun p => (qfn (negW Q))) 23 (fun p => over_q' _ _) (fun p => by first | (rw [qfn_size, qfn_size]; decide) | simp [qfn_size, qfn_size]) (fun p => by rw [qfn_size]; kernel_rfl) (fun p => qfn_one _) ?_ ?_
                · rintro p L w1 ⟨hsz, hB, r, s, qq⟩ hk
                  have L13 : L 13 = false := hk.1
                  rw [L13] at qq
                  try simp only [cond_true, cond_false] at qq
                  exact qq
                · rintro p L w1 ⟨hsz, hB, r, s, qq⟩ hk
                  have L13 : L 13 = false := hk.1
                  skip
                  refine ⟨(by simpa using hsz), Below.setRow hB (by first | exact Nat.le_trans hW0 hp.1 | exact ge_qq | omega | (have := hB.size; simp at this ⊢; omega)) _, r.rowOther (by first | exact ne_r_qq | exact Ne.symm ne_qq_r | omega) _, s.rowOther (by first | exact ne_s_qq | exact Ne.symm ne_qq_s | omega) _, ?_⟩
                  rw [show upL L 13 13 = true from rfl]
                  exact qq.row _
              exact AllI.nil
            case hV0 => exact fun p q => AllI.nil
            case he =>
            clear hB r s qq
            rintro p wrrr ⟨hsz, hB, r, s, qq⟩
            replace qq : blk wrrr qq_b (qfn (negW Q)) 23 := qq
            clear lt_r
            clear lt_s
            clear lt_qq
            clear hsz hW0
            clear n0 n1 n2 n3
            rw [hRS.out] at qq
            go_upto_region 24 with (fail)
            have lt_r := r.lt
            have lt_s := s.lt
            have lt_qq := qq.lt
            have hW0 : w.heap.size ≤ wrrr.heap.size := by have := hB.size; first | exact this | simpa using this
            apply wp_region_Q 3 [0, 1, 3] [] [_, (fun _ => undef), _] (fun p L w' => wrrr.heap.size ≤ w'.heap.size ∧ Below w.heap.size w w' ∧ blk w' w.heap.size (bif L 1 then (qfn RS) else (qfn fun _ => 0)) 23 ∧ blk w' s_b (tbn X) 113 ∧ blk w' qq_b (qfn RS) 23) _ [(0, 98), (2, 3)] [0, 1, 2]
            case hn => rfl
            case hB => kernel_rfl
            case hds => kernel_rfl
            case hA => (intro p; simp only [putsD, Act.put, List.setIfInBounds_toArray, List.set_cons_zero, List.set_cons_succ, List.getD_cons_zero, List.getD_cons_succ]; exact rfl)
            case h0 => exact fun p => ⟨Nat.le_refl _, hB, r, s, qq⟩
            case hmore => exact fun p L w1 w2 ⟨hsz, hB, r, s, qq⟩ hm => ⟨Nat.le_trans hsz hm.size, hB.trans (hm.mono (Nat.le_trans hW0 hsz)), r.below hm r.lt, s.below hm s.lt, qq.below hm qq.lt⟩
            case hs =>
              intro more
              refine stepV 0 rfl rfl (fun _ _ _ h => h) ?_ ?_
              · rintro p L w1 ⟨hsz, hB, r, s, qq⟩ hk
                have L1 : L 1 = false := hk.2.2 1 rfl
                first | exact valR_row _ _ rfl _ rfl _ _ qq _ Try.underlying23 rfl (by first | kernel_rfl | (rw [qfn_size]; kernel_rfl)) rfl | (have hc := qq.cellIs (qfn_get _ (show 0 < 4 by omega)); go_simp; exact ⟨rfl, rfl⟩)
              refine AllI.cons ?_ ?_
              · refine stepI_store 1 rfl (fun p => rfl) (fun p => rfl) _ _ _ rfl (fun _ => w.heap.size) 0 (fun p => rfl) (fun p => (qfn RS)) (fun p => rfl) (fun p => (qfn fun _ => 0)) (fun p => (qfn RS)) 23 (fun p => over_q' _ _) (fun p => by first | (rw [qfn_size, qfn_size]; decide) | simp [qfn_size, qfn_size]) (fun p => by rw [qfn_size]; kernel_rfl) (fun p => qfn_one _) ?_ ?_
                · rintro p L w1 ⟨hsz, hB, r, s, qq⟩ hk
                  have L1 : L 1 = false := hk.1
                  rw [L1] at r
                  try simp only [cond_true, cond_false] at r
                  exact r
                · rintro p L w1 ⟨hsz, hB, r, s, qq⟩ hk
                  have L1 : L 1 = false := hk.1
                  skip
                  refine ⟨(by simpa using hsz), Below.setRow hB (by first | exact Nat.le_trans hW0 hp.1 | exact ge_r | omega | (have := hB.size; simp at this ⊢; omega)) _, ?_, s.rowOther (by first | exact ne_s_r | exact Ne.symm ne_r_s | omega) _, qq.rowOther (by first | exact ne_qq_r | exact Ne.symm ne_r_qq | omega) _⟩
                  rw [show upL L 1 1 = true from rfl]
                  exact r.row _
              refine stepV _ rfl rfl (fun _ _ _ h => h) (by intros; go_simp; exact ⟨rfl, rfl⟩) ?_
              exact AllI.nil
            case hV0 => exact fun p q => AllI.nil
            case he =>
            clear hB r s qq
            rintro p wrrrr ⟨hsz, hB, r, s, qq⟩
            replace r : blk wrrrr w.heap.size (qfn RS) 23 := r
            clear lt_r
            clear lt_s
            clear lt_qq
            clear hsz hW0
            go_wp2_with (fail)
            refine bodyPost_ret (results_vec rfl _ _ _ _ _ _ _ rfl r Try.underlying23 rfl (by first | kernel_rfl | (rw [qfn_size]; kernel_rfl))) rfl ?_
            exact ⟨rfl, hB⟩
          have d0 : decide (Q 0 < 0) = false := decide_eq_false h0
          have hN : posF Q = Q := by unfold posF; rw [if_neg h0]
          rw [hN] at hRS
          clear hN h0
          go_upto_region 24 with (fail)
          clear cq
          rw [hRS.out] at qq
          have lt_r := r.lt
          have lt_s := s.lt
          have lt_qq := qq.lt
          have hW0 : w.heap.size ≤ wrr.heap.size := by have := hB.size; first | exact this | simpa using this
          apply wp_region_Q 3 [0, 1, 3] [] [_, (fun _ => undef), _] (fun p L w' => wrr.heap.size ≤ w'.heap.size ∧ Below w.heap.size w w' ∧ blk w' w.heap.size (bif L 1 then (qfn RS) else (qfn fun _ => 0)) 23 ∧ blk w' s_b (tbn X) 113 ∧ blk w' qq_b (qfn RS) 23) _ [(0, 98), (2, 3)] [0, 1, 2]
          case hn => rfl
          case hB => kernel_rfl
          case hds => kernel_rfl
          case hA => (intro p; simp only [putsD, Act.put, List.setIfInBounds_toArray, List.set_cons_zero, List.set_cons_succ, List.getD_cons_zero, List.getD_cons_succ]; exact rfl)
          case h0 => exact fun p => ⟨Nat.le_refl _, hB, r, s, qq⟩
          case hmore => exact fun p L w1 w2 ⟨hsz, hB, r, s, qq⟩ hm => ⟨Nat.le_trans hsz hm.size, hB.trans (hm.mono (Nat.le_trans hW0 hsz)), r.below hm r.lt, s.below hm s.lt, qq.below hm qq.lt⟩
          case hs =>
            intro more
            refine stepV 0 rfl rfl (fun _ _ _ h => h) ?_ ?_
            · rintro p L w1 ⟨hsz, hB, r, s, qq⟩ hk
              have L1 : L 1 = false := hk.2.2 1 rfl
              first | exact valR_row _ _ rfl _ rfl _ _ qq _ Try.underlying23 rfl (by first | kernel_rfl | (rw [qfn_size]; kernel_rfl)) rfl | (have hc := qq.cellIs (qfn_get _ (show 0 < 4 by omega)); go_simp; exact ⟨rfl, rfl⟩)
            refine AllI.cons ?_ ?_
            · refine stepI_store 1 rfl (fun p => rfl) (fun p => rfl) _ _ _ rfl (fun _ => w.heap.size) 0 (fun p => rfl) (fun p => (qfn RS)) (fun p => rfl) (fun p => (qfn fun _ => 0)) (fun p => (qfn RS)) 23 (fun p => over_q' _ _) (fun p => by first | (rw [qfn_size, qfn_size]; decide) | simp [qfn_size, qfn_size]) (fun p => by rw [qfn_size]; kernel_rfl) (fun p => qfn_one _) ?_ ?_
              · rintro p L w1 ⟨hsz, hB, r, s, qq⟩ hk
                have L1 : L 1 = false := hk.1
                rw [L1] at r
                try simp only [cond_true, cond_false] at r
                exact r
              · rintro p L w1 ⟨hsz, hB, r, s, qq⟩ hk
                have L1 : L 1 = false := hk.1
                skip
                refine ⟨(by simpa using hsz), Below.setRow hB (by first | exact Nat.le_trans hW0 hp.1 | exact ge_r | omega | (have := hB.size; simp at this ⊢; omega)) _, ?_, s.rowOther (by first | exact ne_s_r | exact Ne.symm ne_r_s | omega) _, qq.rowOther (by first | exact ne_qq_r | exact Ne.symm ne_r_qq | omega) _⟩
                rw [show upL L 1 1 = true from rfl]
                exact r.row _
            refine stepV _ rfl rfl (fun _ _ _ h => h) (by intros; go_simp; exact ⟨rfl, rfl⟩) ?_
            exact AllI.nil
          case hV0 => exact fun p q => AllI.nil
          case he =>
          clear hB r s qq
          rintro p wrrr ⟨hsz, hB, r, s, qq⟩
          replace r : blk wrrr w.heap.size (qfn RS) 23 := r
          clear lt_r
          clear lt_s
          clear lt_qq
          clear hsz hW0
          go_wp2_with (fail)
          refine bodyPost_ret (results_vec rfl _ _ _ _ _ _ _ rfl r Try.underlying23 rfl (by first | kernel_rfl | (rw [qfn_size]; kernel_rfl))) rfl ?_
          exact ⟨rfl, hB⟩
end Go.Proofs.Ytkmelddejdikgaa
