/-
  Residuals of the specification.
-/
import Derived.Test.YtkmelddejdikgaaSkC
set_option linter.unusedSimpArgs false
set_option linter.unusedVariables false
namespace Go.Proofs.Ytkmelddejdikgaa
open Go.RowKit PM Dt
theorem mean_fit {N W : Int} (hW : 1 ≤ W) (hN : -4611686018427387904 ≤ N ∧ N ≤ 4611686018427387904) : ratioE N 1 W = 0 := by
  unfold ratioE ratioQ
  rw [if_neg (by omega), if_neg (by omega), Int.mul_one]
  unfold nearest
  have h1 : (2 * N + W) / (2 * W) < 4611686018427387905 + 1 := by
    apply Int.ediv_lt_of_lt_mul (by omega)
    have : (4611686018427387905 + 1) * (2 * 1) ≤ (4611686018427387905 + 1) * (2 * W) := Int.mul_le_mul_of_nonneg_left (by omega) (by omega)
    omega
  have h2 : -4611686018427387906 ≤ (2 * N + W) / (2 * W) := by
    apply Int.le_ediv_of_mul_le (by omega)
    have : 4611686018427387906 * (2 * 1) ≤ 4611686018427387906 * (2 * W) := Int.mul_le_mul_of_nonneg_left (by omega) (by omega)
    omega
  unfold fitE inI
  rw [if_pos]
  simp only [Bool.and_eq_true, decide_eq_true_eq]
  omega
set_option maxRecDepth 100000 in
set_option maxHeartbeats 20000000 in
theorem rsres_any (q : Nat → Int) (S : Nat → Sgt) (a : Option Addr) (n c : Nat) (w : World) (el : ElemsA w a n 7 (fun k => (sgc (S k)).toList)) (hn : n ≤ 1000) (hI : ∀ i, i < 4 → I64 (q i)) : Calls Try.prog 13 #[.agg (qfn q), .slice a n c] w fun e w' => e = .returned (.tuple #[.int .i64 (resV q S n), .int .i64 (resE2 q S n)]) ∧ Below w.heap.size w w' := by
  have VA := Lib.hid (fun w el => rsvalid_any S a n c w el hn)
  have VQ := Lib.hid (fun w => rqvalid_any q w hI)
  replace el := Lib.hid el
  unfold resV resE2 resOk
  have hOK : Hid (valS S n = true → n ≤ 16 ∧ 0 < n ∧ ∀ k, k < n → sgOk (S k) = true) := fun h => ⟨(valS_iff.1 h).2.1, (valS_iff.1 h).1, (valS_iff.1 h).2.2⟩
  obtain ⟨b1, h1⟩ : ∃ b, valS S n = b := ⟨_, rfl⟩
  obtain ⟨b2, h2⟩ : ∃ b, validQ q = b := ⟨_, rfl⟩
  rw [h1] at VA hOK ⊢
  rw [h2] at VQ ⊢
  replace hI := Lib.hid hI
  clear h1 h2
  cases b1
  · cases b2
    all_goals
      go_enter Try.func13, Try.ntmps13
      go_upto_region 1 with (fail)
      have qb : blk (w.alloc (.cells (qfn q) 23)) w.heap.size (qfn q) 23 := blk.new _ _ _
      have hB : Below w.heap.size w (w.alloc (.cells (qfn q) 23)) := by go_grown
      generalize (w.alloc (.cells (qfn q) 23)) = w0 at *
      go_wp2_with (first | (refine wpList_load_rowG ?hw _ _ rfl _ rfl _ _ _ _ qb Try.underlying23 rfl ?hi ?_; (case hw => (first | rfl | (simp [Region.wanted, yielded]; done))); (case hi => (first | kernel_rfl | (rw [qfn_size]; kernel_rfl)))) | (go_at_call 50; with_reducible refine (VA.out _ (el.out.below hB)).mono ?_; rintro e w1 ⟨rfl, hb⟩; replace hB := hB.trans (hb.mono hB.size); replace qb := qb.below hb qb.lt; clear hb) | (go_at_call 51; with_reducible refine (VQ.out _).mono ?_; rintro e w2 ⟨rfl, hb⟩; replace hB := hB.trans (hb.mono hB.size); replace qb := qb.below hb qb.lt; clear hb))
      go_ret2
      exact ⟨by first | rfl | simp, hB⟩
  cases b2
  · skip
    go_enter Try.func13, Try.ntmps13
    go_upto_region 1 with (fail)
    have qb : blk (w.alloc (.cells (qfn q) 23)) w.heap.size (qfn q) 23 := blk.new _ _ _
    have hB : Below w.heap.size w (w.alloc (.cells (qfn q) 23)) := by go_grown
    generalize (w.alloc (.cells (qfn q) 23)) = w0 at *
    go_wp2_with (first | (refine wpList_load_rowG ?hw _ _ rfl _ rfl _ _ _ _ qb Try.underlying23 rfl ?hi ?_; (case hw => (first | rfl | (simp [Region.wanted, yielded]; done))); (case hi => (first | kernel_rfl | (rw [qfn_size]; kernel_rfl)))) | (go_at_call 50; with_reducible refine (VA.out _ (el.out.below hB)).mono ?_; rintro e w1 ⟨rfl, hb⟩; replace hB := hB.trans (hb.mono hB.size); replace qb := qb.below hb qb.lt; clear hb) | (go_at_call 51; with_reducible refine (VQ.out _).mono ?_; rintro e w2 ⟨rfl, hb⟩; replace hB := hB.trans (hb.mono hB.size); replace qb := qb.below hb qb.lt; clear hb))
    go_ret2
    exact ⟨by first | rfl | simp, hB⟩
  obtain ⟨h16, h0, hok⟩ := hOK.out rfl
  have hn2 : (n : Int) ≤ 16 := by omega
  have hWB := Lib.hid (fun k (hk : k ≤ n) => wsum_bd (S := S) (n := k) (fun j hj => hok j (by omega)))
  have hFB := Lib.hid (fun k (hk : k ≤ n) => fsum_bd (S := S) (f := sgRes q) (n := k) (by omega) (fun j hj => hok j (by omega)) (fun j hj => sgRes_bd q (S j)))
  have hMB := Lib.hid (fun k (hk : k < n) => (by
    have i2 := hok k hk
    simp only [sgOk, Bool.and_eq_true, decide_eq_true_eq] at i2
    exact mul_bd i2.2.2.1 i2.2.2.2 (sgRes_bd q (S k)).1 (sgRes_bd q (S k)).2 : -288230376151711744 ≤ (S k).m * sgRes q (S k) ∧ (S k).m * sgRes q (S k) ≤ 288230376151711744))
  have hOM := Lib.hid (fun k (hk : k < n) => (by
    have i2 := hok k hk
    simp only [sgOk, Bool.and_eq_true, decide_eq_true_eq] at i2
    exact i2.2.2 : 1 ≤ (S k).m ∧ (S k).m ≤ 65535))
  have hPos := Lib.hid h0
  clear hok h16 hOK h0
  go_enter Try.func13, Try.ntmps13
  go_upto_region 1 with (fail)
  have qb : blk (w.alloc (.cells (qfn q) 23)) w.heap.size (qfn q) 23 := blk.new _ _ _
  have hB : Below w.heap.size w (w.alloc (.cells (qfn q) 23)) := by go_grown
  generalize (w.alloc (.cells (qfn q) 23)) = w0 at *
  go_wp2_with (first | (refine wpList_load_rowG ?hw _ _ rfl _ rfl _ _ _ _ qb Try.underlying23 rfl ?hi ?_; (case hw => (first | rfl | (simp [Region.wanted, yielded]; done))); (case hi => (first | kernel_rfl | (rw [qfn_size]; kernel_rfl)))) | (go_at_call 50; with_reducible refine (VA.out _ (el.out.below hB)).mono ?_; rintro e w1 ⟨rfl, hb⟩; replace hB := hB.trans (hb.mono hB.size); replace qb := qb.below hb qb.lt; clear hb) | (go_at_call 51; with_reducible refine (VQ.out _).mono ?_; rintro e w2 ⟨rfl, hb⟩; replace hB := hB.trans (hb.mono hB.size); replace qb := qb.below hb qb.lt; clear hb))
  go_loopg [8, 6, 7] n (fun g_ iv j5 j6 wr => ∃ K : Nat, g_ + K = n ∧ iv = .int .i64 K ∧ j5 = .int .i64 (fsum S (sgRes q) K) ∧ j6 = .int .i64 (wsum S K) ∧ blk wr w.heap.size (qfn q) 23 ∧ Below w.heap.size w wr)
  case atStart => exact ⟨0, by omega, rfl, rfl, rfl, qb, hB⟩
  case round =>
    clear hB qb
    obtain ⟨K, hK, rfl, rfl, rfl, qb, hB⟩ := hrel
    by_cases hKn : K < n
    · have hdK : decide ((K : Int) < n) = true := decide_eq_true (by omega)
      have hdK' : decide (K < n) = true := decide_eq_true hKn
      have hk3 : (K : Int) < n := by omega
      have hk0 : (0 : Int) ≤ K := by omega
      have hwK : IntKind.i64.wrap ((K : Int) + 1) = ((K + 1 : Nat) : Int) := by rw [IntKind.wrap_i64]; omega
      obtain ⟨eb, eo, rfl, hEl, hE⟩ := el.out K hKn
      replace hE : w.rangeAt eb (eo + K * 7) ((sgc (S K)).toList) := hE
      have b1 := hWB.out (K + 1) hKn
      have b2 := hFB.out (K + 1) hKn
      have b3 := hMB.out K hKn
      have b4 := hWB.out K (by omega)
      have b5 := hOM.out K hKn
      have u1 : fsum S (sgRes q) (K + 1) = fsum S (sgRes q) K + (S K).m * sgRes q (S K) := rfl
      have u2 : wsum S (K + 1) = wsum S K + (S K).m := rfl
      obtain ⟨y, hy⟩ : ∃ y, S K = y := ⟨_, rfl⟩
      rw [hy] at hE b3 b5 u1 u2
      have RO := Lib.hid (fun w => rqrot_any q y.b w hI.out)
      have SU := Lib.hid (fun w => rvsub_any y.a (qrotF q y.b) w (okV_I (okV_qrotF q y.b)))
      have NO := Lib.hid (fun w => rvnorm_any (vsubF y.a (qrotF q y.b)) w)
      rw [show normV (vsubF y.a (qrotF q y.b)) = sgRes q y from rfl] at NO
      generalize vsubF y.a (qrotF q y.b) = D at *
      generalize vsubE y.a (qrotF q y.b) = DE at *
      generalize qrotF q y.b = T at *
      generalize qrotE q y.b = TE at *
      generalize normE D = NE at *
      obtain ⟨z, hz⟩ : ∃ z, sgRes q y = z := ⟨_, rfl⟩
      rw [hz] at b3 u1 NO
      obtain ⟨F1, hF1⟩ : ∃ F1, fsum S (sgRes q) (K + 1) = F1 := ⟨_, rfl⟩
      obtain ⟨W1, hW1⟩ : ∃ W1, wsum S (K + 1) = W1 := ⟨_, rfl⟩
      rw [hF1] at b2 u1
      rw [hW1] at b1 u2
      generalize fsum S (sgRes q) K = F0 at *
      generalize wsum S K = W0 at *
      replace hF1 := Lib.hid hF1
      replace hW1 := Lib.hid hW1
      have e1 : IntKind.i64.wrap (y.m * z) = y.m * z := by rw [IntKind.wrap_i64]; generalize y.m * z = t at *; omega
      have e2 : IntKind.i64.wrap (F0 + y.m * z) = F1 := by rw [u1, IntKind.wrap_i64]; generalize y.m * z = t at *; omega
      have e3 : IntKind.i64.wrap (W0 + y.m) = W1 := by rw [u2, IntKind.wrap_i64]; omega
      replace u1 := Lib.hid u1
      replace u2 := Lib.hid u2
      clear b1 b2 b3 b4 b5 hy hz
      go_upto_region 7 with (fail)
      have lt_qb := qb.lt
      have hW0 : w.heap.size ≤ wr.heap.size := by have := hB.size; first | exact this | simpa using this
      apply wp_region_I 13 [0, 0, 0, 6, 14, 30, 63, 127, 255, 255, 0, 1535, 4095] [10] [_, _, _, _, _, _, _, _, _, _, (fun p => .pointer (some ⟨p 10, 0, none⟩)), (fun _ => undef), _] (fun p L w' => wr.heap.size ≤ w'.heap.size ∧ Below w.heap.size w w' ∧ blk w' w.heap.size (qfn q) 23 ∧ (L 10 = true → wr.heap.size ≤ p 10 ∧ blk w' (p 10) (bif L 11 then (vfn T) else (vfn fun _ => 0)) 31)) _ [(0, 30), (1, 31), (2, 32), (3, 33), (4, 34), (5, 35), (6, 36), (7, 29), (8, 37), (9, 38), (10, 9), (12, 10)] [0, 1, 2, 3, 4, 5, 6, 7, 8, 9, 10, 11, 12]
      case hn => rfl
      case hm => kernel_rfl
      case hB => kernel_rfl
      case hds => kernel_rfl
      case hA => (intro p; simp only [putsD, Act.put, List.setIfInBounds_toArray, List.set_cons_zero, List.set_cons_succ, List.getD_cons_zero, List.getD_cons_succ]; exact rfl)
      case h0 => exact fun p => ⟨Nat.le_refl _, hB.drew, qb.drew, fun h => absurd h (by decide)⟩
      case hmore => exact fun p L w1 w2 ⟨hsz, hB, qb, h_t⟩ hm => ⟨Nat.le_trans hsz hm.size, hB.trans (hm.mono (Nat.le_trans hW0 hsz)), qb.below hm qb.lt, fun hl => ⟨(h_t hl).1, (h_t hl).2.below hm (h_t hl).2.lt⟩⟩
      case hs =>
        intro more
        refine stepV 0 rfl rfl (fun _ _ _ h => h) ?_ ?_
        · rintro p L w1 ⟨hsz, hB, qb, h_t⟩ hk
          have L11 : L 11 = false := hk.2.2 11 rfl
          first | exact valR_row _ _ rfl _ rfl _ _ qb _ Try.underlying23 rfl (by first | kernel_rfl | (rw [qfn_size]; kernel_rfl)) rfl | (have hc := qb.cellIs (qfn_get _ (show 0 < 4 by omega)); go_simp; exact ⟨rfl, rfl⟩)
        iterate 4 (refine stepV _ rfl rfl (fun _ _ _ h => h) (by intros; go_simp; exact ⟨rfl, rfl⟩) ?_)
        refine stepV 5 rfl rfl (fun _ _ _ h => h) ?_ ?_
        · rintro p L w1 ⟨hsz, hB, qb, h_t⟩ hk
          have hr := range_below hE hB hEl
          exact valR_range _ _ rfl _ _ rfl _ (eo + K * 7) 3 hr (by first | rfl | omega) (vfn y.b) (sg_bL y) _ Try.underlying31 rfl (by rw [vfn_size]; kernel_rfl) rfl
        refine stepD 6 rfl (fun p => rfl) (fun _ _ _ h => h) more ?_ ?_
        · rintro p L w1 ⟨hsz, hB, qb, h_t⟩ hk
          go_simp
          refine (RO.out _).mono ?_
          rintro e w2 ⟨rfl, h2⟩
          first | exact ⟨rfl, h2⟩ | (subst h2; exact ⟨rfl, Below.refl _ _⟩)
        iterate 3 (refine stepV _ rfl rfl (fun _ _ _ h => h) (by intros; go_simp; exact ⟨rfl, rfl⟩) ?_)
        refine AllI.cons ?_ ?_
        · refine stepI_alloc 10 rfl (fun p => rfl) rfl (vfn fun _ => 0) 31 (fun p => rfl) ?_ ?_
          · intro p w1
            go_simp
            first | rfl | rw [zero_vec]
          rintro p L w1 ⟨hsz, hB, qb, h_t⟩ hk
          have L11 : L 11 = false := hk.2.2 11 rfl
          refine ⟨Nat.le_trans hsz (by simp), hB.alloc (Nat.le_trans (by first | exact hW0 | (have := hB.size; simp at this ⊢; omega)) hsz) _, qb.alloc _, fun _ => ⟨hsz, ?_⟩⟩
          rw [show upL L 10 11 = false from L11]
          exact blk.new _ _ _
        refine AllI.cons ?_ ?_
        · refine stepI_store 11 rfl (fun p => rfl) (fun p => rfl) _ _ _ rfl (fun p => p 10) 0 (fun p => rfl) (fun p => (vfn T)) (fun p => rfl) (fun p => (vfn fun _ => 0)) (fun p => (vfn T)) 31 (fun p => over_v' _ _) (fun p => by first | (rw [vfn_size, vfn_size]; decide) | simp [vfn_size, vfn_size]) (fun p => by rw [vfn_size]; kernel_rfl) (fun p => vfn_one _) ?_ ?_
          · rintro p L w1 ⟨hsz, hB, qb, h_t⟩ hk
            have L11 : L 11 = false := hk.1
            have hh := (h_t (hk.2.1 10 rfl)).2
            rw [L11] at hh
            try simp only [cond_true, cond_false] at hh
            exact hh
          · rintro p L w1 ⟨hsz, hB, qb, h_t⟩ hk
            have L11 : L 11 = false := hk.1
            skip
            have hp := h_t (hk.2.1 10 rfl)
            refine ⟨(by simpa using hsz), Below.setRow hB (by first | exact Nat.le_trans hW0 hp.1 | exact ge_t | omega | (have := hB.size; simp at this ⊢; omega)) _, qb.rowOther (by first | exact Nat.ne_of_lt (Nat.lt_of_lt_of_le lt_qb hp.1) | omega) _, fun _ => ⟨hp.1, ?_⟩⟩
            rw [show upL L 11 11 = true from rfl]
            exact hp.2.row _
        refine stepV _ rfl rfl (fun _ _ _ h => h) (by intros; go_simp; exact ⟨rfl, rfl⟩) ?_
        exact AllI.nil
      case hV0 =>
        intro p q
        refine AllI.cons ?_ ?_
        · skip
          iterate 13 (refine AllI.cons (by first | exact .inl rfl | (refine .inr ?_; simp only [List.getD_cons_zero, List.getD_cons_succ]; done) | exact .inr rfl) ?_)
          exact AllI.nil
        exact AllI.nil
      case he =>
      clear hB qb
      rintro p wrr ⟨hsz, hB, qb, h_t⟩
      obtain ⟨le_t, t⟩ := h_t rfl
      clear h_t
      replace t : blk wrr (p 10) (vfn T) 31 := t
      have ne_qb_t : w.heap.size ≠ p 10 := Nat.ne_of_lt (Nat.lt_of_lt_of_le lt_qb le_t)
      have ge_t : w.heap.size ≤ p 10 := Nat.le_trans hW0 le_t
      generalize p 10 = t_b at *
      clear lt_qb
      clear hsz hW0
      clear RO
      go_upto_region 8 with (fail)
      have lt_qb := qb.lt
      have lt_t := t.lt
      have hW0 : w.heap.size ≤ wrr.heap.size := by have := hB.size; first | exact this | simpa using this
      apply wp_region_I 13 [0, 0, 3, 7, 15, 0, 63, 127, 255, 255, 0, 1535, 4095] [10] [_, _, _, _, _, _, _, _, _, _, (fun p => .pointer (some ⟨p 10, 0, none⟩)), (fun _ => undef), _] (fun p L w' => wrr.heap.size ≤ w'.heap.size ∧ Below w.heap.size w w' ∧ blk w' w.heap.size (qfn q) 23 ∧ blk w' t_b (vfn T) 31 ∧ (L 10 = true → wrr.heap.size ≤ p 10 ∧ blk w' (p 10) (bif L 11 then (vfn D) else (vfn fun _ => 0)) 31)) _ [(0, 40), (1, 41), (2, 42), (3, 43), (4, 44), (5, 45), (6, 46), (7, 39), (8, 47), (9, 48), (10, 11), (12, 12)] [0, 1, 2, 3, 4, 5, 6, 7, 8, 9, 10, 11, 12]
      case hn => rfl
      case hm => kernel_rfl
      case hB => kernel_rfl
      case hds => kernel_rfl
      case hA => (intro p; simp only [putsD, Act.put, List.setIfInBounds_toArray, List.set_cons_zero, List.set_cons_succ, List.getD_cons_zero, List.getD_cons_succ]; exact rfl)
      case h0 => exact fun p => ⟨Nat.le_refl _, hB.drew, qb.drew, t.drew, fun h => absurd h (by decide)⟩
      case hmore => exact fun p L w1 w2 ⟨hsz, hB, qb, t, h_d⟩ hm => ⟨Nat.le_trans hsz hm.size, hB.trans (hm.mono (Nat.le_trans hW0 hsz)), qb.below hm qb.lt, t.below hm t.lt, fun hl => ⟨(h_d hl).1, (h_d hl).2.below hm (h_d hl).2.lt⟩⟩
      case hs =>
        intro more
        iterate 4 (refine stepV _ rfl rfl (fun _ _ _ h => h) (by intros; go_simp; exact ⟨rfl, rfl⟩) ?_)
        refine stepV 4 rfl rfl (fun _ _ _ h => h) ?_ ?_
        · rintro p L w1 ⟨hsz, hB, qb, t, h_d⟩ hk
          have hr := range_below hE hB hEl
          exact valR_range _ _ rfl _ _ rfl _ (eo + K * 7) 0 hr (by first | rfl | omega) (vfn y.a) (sg_aL y) _ Try.underlying31 rfl (by rw [vfn_size]; kernel_rfl) rfl
        refine stepV 5 rfl rfl (fun _ _ _ h => h) ?_ ?_
        · rintro p L w1 ⟨hsz, hB, qb, t, h_d⟩ hk
          have L11 : L 11 = false := hk.2.2 11 rfl
          first | exact valR_row _ _ rfl _ rfl _ _ t _ Try.underlying31 rfl (by first | kernel_rfl | (rw [vfn_size]; kernel_rfl)) rfl | (have hc := t.cellIs (vfn_get _ (show 0 < 3 by omega)); go_simp; exact ⟨rfl, rfl⟩)
        refine stepD 6 rfl (fun p => rfl) (fun _ _ _ h => h) more ?_ ?_
        · rintro p L w1 ⟨hsz, hB, qb, t, h_d⟩ hk
          go_simp
          refine (SU.out _).mono ?_
          rintro e w2 ⟨rfl, h2⟩
          first | exact ⟨rfl, h2⟩ | (subst h2; exact ⟨rfl, Below.refl _ _⟩)
        iterate 3 (refine stepV _ rfl rfl (fun _ _ _ h => h) (by intros; go_simp; exact ⟨rfl, rfl⟩) ?_)
        refine AllI.cons ?_ ?_
        · refine stepI_alloc 10 rfl (fun p => rfl) rfl (vfn fun _ => 0) 31 (fun p => rfl) ?_ ?_
          · intro p w1
            go_simp
            first | rfl | rw [zero_vec]
          rintro p L w1 ⟨hsz, hB, qb, t, h_d⟩ hk
          have L11 : L 11 = false := hk.2.2 11 rfl
          refine ⟨Nat.le_trans hsz (by simp), hB.alloc (Nat.le_trans (by first | exact hW0 | (have := hB.size; simp at this ⊢; omega)) hsz) _, qb.alloc _, t.alloc _, fun _ => ⟨hsz, ?_⟩⟩
          rw [show upL L 10 11 = false from L11]
          exact blk.new _ _ _
        refine AllI.cons ?_ ?_
        · refine stepI_store 11 rfl (fun p => rfl) (fun p => rfl) _ _ _ rfl (fun p => p 10) 0 (fun p => rfl) (fun p => (vfn D)) (fun p => rfl) (fun p => (vfn fun _ => 0)) (fun p => (vfn D)) 31 (fun p => over_v' _ _) (fun p => by first | (rw [vfn_size, vfn_size]; decide) | simp [vfn_size, vfn_size]) (fun p => by rw [vfn_size]; kernel_rfl) (fun p => vfn_one _) ?_ ?_
          · rintro p L w1 ⟨hsz, hB, qb, t, h_d⟩ hk
            have L11 : L 11 = false := hk.1
            have hh := (h_d (hk.2.1 10 rfl)).2
            rw [L11] at hh
            try simp only [cond_true, cond_false] at hh
            exact hh
          · rintro p L w1 ⟨hsz, hB, qb, t, h_d⟩ hk
            have L11 : L 11 = false := hk.1
            skip
            have hp := h_d (hk.2.1 10 rfl)
            refine ⟨(by simpa using hsz), Below.setRow hB (by first | exact Nat.le_trans hW0 hp.1 | exact ge_d | omega | (have := hB.size; simp at this ⊢; omega)) _, qb.rowOther (by first | exact Nat.ne_of_lt (Nat.lt_of_lt_of_le lt_qb hp.1) | omega) _, t.rowOther (by first | exact Nat.ne_of_lt (Nat.lt_of_lt_of_le lt_t hp.1) | omega) _, fun _ => ⟨hp.1, ?_⟩⟩
            rw [show upL L 11 11 = true from rfl]
            exact hp.2.row _
        refine stepV _ rfl rfl (fun _ _ _ h => h) (by intros; go_simp; exact ⟨rfl, rfl⟩) ?_
        exact AllI.nil
      case hV0 =>
        intro p q
        refine AllI.cons ?_ ?_
        · skip
          iterate 13 (refine AllI.cons (by first | exact .inl rfl | (refine .inr ?_; simp only [List.getD_cons_zero, List.getD_cons_succ]; done) | exact .inr rfl) ?_)
          exact AllI.nil
        exact AllI.nil
      case he =>
      clear hB qb t
      rintro p wrrr ⟨hsz, hB, qb, t, h_d⟩
      obtain ⟨le_d, d⟩ := h_d rfl
      clear h_d
      replace d : blk wrrr (p 10) (vfn D) 31 := d
      have ne_qb_d : w.heap.size ≠ p 10 := Nat.ne_of_lt (Nat.lt_of_lt_of_le lt_qb le_d)
      have ne_t_d : t_b ≠ p 10 := Nat.ne_of_lt (Nat.lt_of_lt_of_le lt_t le_d)
      have ge_d : w.heap.size ≤ p 10 := Nat.le_trans hW0 le_d
      generalize p 10 = d_b at *
      clear lt_qb
      clear lt_t
      clear hsz hW0
      clear SU
      go_upto_region 9 with (fail)
      have lt_qb := qb.lt
      have lt_t := t.lt
      have lt_d := d.lt
      have hW0 : w.heap.size ≤ wrrr.heap.size := by have := hB.size; first | exact this | simpa using this
      apply wp_region_Q 7 [0, 1, 3, 7, 15, 31, 63] [] [_, _, _, _, _, _, _] (fun p L w' => wrrr.heap.size ≤ w'.heap.size ∧ Below w.heap.size w w' ∧ blk w' w.heap.size (qfn q) 23 ∧ blk w' t_b (vfn T) 31 ∧ blk w' d_b (vfn D) 31) _ [(0, 50), (1, 51), (2, 49), (3, 52), (4, 53), (5, 13), (6, 14)] [0, 1, 2, 3, 4, 5, 6]
      case hn => rfl
      case hB => kernel_rfl
      case hds => kernel_rfl
      case hA => (intro p; simp only [putsD, Act.put, List.setIfInBounds_toArray, List.set_cons_zero, List.set_cons_succ, List.getD_cons_zero, List.getD_cons_succ]; exact rfl)
      case h0 => exact fun p => ⟨Nat.le_refl _, hB, qb, t, d⟩
      case hmore => exact fun p L w1 w2 ⟨hsz, hB, qb, t, d⟩ hm => ⟨Nat.le_trans hsz hm.size, hB.trans (hm.mono (Nat.le_trans hW0 hsz)), qb.below hm qb.lt, t.below hm t.lt, d.below hm d.lt⟩
      case hs =>
        intro more
        refine stepV 0 rfl rfl (fun _ _ _ h => h) ?_ ?_
        · rintro p L w1 ⟨hsz, hB, qb, t, d⟩ hk
          first | exact valR_row _ _ rfl _ rfl _ _ d _ Try.underlying31 rfl (by first | kernel_rfl | (rw [vfn_size]; kernel_rfl)) rfl | (have hc := d.cellIs (vfn_get _ (show 0 < 3 by omega)); go_simp; exact ⟨rfl, rfl⟩)
        refine stepD 1 rfl (fun p => rfl) (fun _ _ _ h => h) more ?_ ?_
        · rintro p L w1 ⟨hsz, hB, qb, t, d⟩ hk
          go_simp
          refine (NO.out _).mono ?_
          rintro e w2 ⟨rfl, h2⟩
          first | exact ⟨rfl, h2⟩ | (subst h2; exact ⟨rfl, Below.refl _ _⟩)
        iterate 5 (refine stepV _ rfl rfl (fun _ _ _ h => h) (by intros; go_simp; exact ⟨rfl, rfl⟩) ?_)
        exact AllI.nil
      case hV0 => exact fun p q => AllI.nil
      case he =>
      clear hB qb t d
      rintro p wrrrr ⟨hsz, hB, qb, t, d⟩
      clear lt_qb
      clear lt_t
      clear lt_d
      clear hsz hW0
      clear NO
      have hr := range_below hE hB hEl
      have hc : wrrrr.cell? ⟨eb, eo + K * 7 + 6, none⟩ = some (.int .i64 y.m) := hr 6 _ rfl
      clear hr hE
      go_wp2_with (fail)
      go_roundg (n - (K + 1))
      case rel => exact ⟨K + 1, by omega, rfl, by rw [hF1.out], by rw [hW1.out], qb, hB⟩
      case measure => omega
    · obtain rfl : K = n := by omega
      have hdK : decide ((K : Int) < K) = false := decide_eq_false (by omega)
      have hdK' : decide (K < K) = false := decide_eq_false (by omega)
      have b1 := hWB.out K (Nat.le_refl _)
      have b2 := hFB.out K (Nat.le_refl _)
      have b3 := hPos.out
      have RA := Lib.hid (fun w => rratio_any (fsum S (sgRes q) K) 1 (wsum S K) w ⟨by omega, by omega⟩ ⟨by omega, by omega⟩ ⟨by omega, by omega⟩)
      rw [mean_fit (N := fsum S (sgRes q) K) (W := wsum S K) (by omega) (by omega)] at RA
      clear b1 b2 b3
      go_wp2_with (first
        | (go_at_call 55; with_reducible refine (RA.out _).mono ?_; rintro e w9 ⟨rfl, hb⟩; replace hB := hB.trans (hb.mono hB.size); clear hb))
      go_ret2
      exact ⟨by first | rfl | simp, hB⟩
end Go.Proofs.Ytkmelddejdikgaa
