/-
  Residuals of the program.
-/
import Derived.Test.YtkmelddejdikgaaSkB
import Derived.Test.YtkmelddejdikgaaLawQ
import Derived.Test.YtkmelddejdikgaaLenN
import Derived.Test.YtkmelddejdikgaaVecH
import Derived.Test.YtkmelddejdikgaaLawVec
import Derived.Test.YtkmelddejdikgaaBase
set_option linter.unusedSimpArgs false
set_option linter.unusedVariables false
namespace Go.Proofs.Ytkmelddejdikgaa
open Go.RowKit PM Dt
theorem over_v' (a b : Nat → Int) : over (vfn a) 0 (vfn b).toList = vfn b := by unfold vfn; rfl
theorem normV_bd (f : Nat → Int) : 0 ≤ normV f ∧ normV f ≤ 2199023255552 := by
  by_cases hk : okV f = true
  · obtain ⟨_, N, h, _, _, h2⟩ := norm_val hk
    omega
  · unfold normV; rw [if_neg hk]; omega
/-- How far a star is from where it would be. -/
def sgRes (q : Nat → Int) (s : Sgt) : Int := normV (vsubF s.a (qrotF q s.b))
theorem sgRes_bd (q : Nat → Int) (s : Sgt) : -4398046511104 ≤ sgRes q s ∧ sgRes q s ≤ 4398046511104 := by
  have := normV_bd (vsubF s.a (qrotF q s.b))
  unfold sgRes; omega
def resOk (q : Nat → Int) (S : Nat → Sgt) (n : Nat) : Bool := valS S n && validQ q
def resV (q : Nat → Int) (S : Nat → Sgt) (n : Nat) : Int := if resOk q S n then ratioV (fsum S (sgRes q) n) 1 (wsum S n) else 0
def resE2 (q : Nat → Int) (S : Nat → Sgt) (n : Nat) : Int := if resOk q S n then 0 else 2
theorem valS_iff {S : Nat → Sgt} {n : Nat} : valS S n = true ↔ (0 < n ∧ n ≤ 16 ∧ ∀ k, k < n → sgOk (S k) = true) := by
  unfold valS
  simp only [Bool.and_eq_true, decide_eq_true_eq, List.all_eq_true, List.mem_range]
set_option maxRecDepth 100000 in
set_option maxHeartbeats 6000000 in
theorem sres1_any (q : Nat → Int) (b : Nat) (y : Sgt) (w : World) (hq : blk w b (qfn q) 23) (hI : ∀ i, i < 4 → I64 (q i)) : Calls Try.prog 47 #[.agg (sgc y), .pointer (some ⟨b, 0, none⟩)] w fun e w' => e = .returned (.int .i64 (sgRes q y)) ∧ Below w.heap.size w w' := by
  have RO := Lib.hid (fun w => qrot_any q y.b w hI)
  have SU := Lib.hid (fun w => vsub_any y.a (qrotF q y.b) w)
  have NO := Lib.hid (fun w => vnorm_any (vsubF y.a (qrotF q y.b)) w)
  unfold sgRes
  generalize vsubF y.a (qrotF q y.b) = D at *
  generalize vsubE y.a (qrotF q y.b) = DE at *
  generalize qrotF q y.b = T at *
  generalize qrotE q y.b = TE at *
  generalize normV D = N at *
  generalize normE D = NE at *
  have ltq := hq.lt
  go_enter Try.func47, Try.ntmps47
  go_upto_region 1 with (fail)
  have s : blk (w.alloc (.cells (sgc y) 36)) w.heap.size (sgc y) 36 := blk.new _ _ _
  have hB : Below w.heap.size w (w.alloc (.cells (sgc y) 36)) := by go_grown
  generalize (w.alloc (.cells (sgc y) 36)) = w0 at *
  have qb : blk w0 b (qfn q) 23 := hq.below hB hq.lt
  clear hq
  have ne_s_qb : w.heap.size ≠ b := by omega
  have lt_s := s.lt
  have lt_qb := qb.lt
  have hW0 : w.heap.size ≤ w0.heap.size := by have := hB.size; first | exact this | simpa using this
  apply wp_region_Q 10 [0, 1, 3, 7, 15, 31, 63, 127, 255, 511] [7] [_, _, _, _, _, _, _, (fun p => .pointer (some ⟨p 7, 0, none⟩)), (fun _ => undef), _] (fun p L w' => w0.heap.size ≤ w'.heap.size ∧ Below w.heap.size w w' ∧ blk w' w.heap.size (sgc y) 36 ∧ blk w' b (qfn q) 23 ∧ (L 7 = true → w0.heap.size ≤ p 7 ∧ blk w' (p 7) (bif L 8 then (vfn T) else (vfn fun _ => 0)) 31)) _ [(0, 11), (1, 12), (2, 13), (3, 14), (4, 10), (5, 15), (6, 16), (7, 4), (9, 5)] [0, 1, 2, 3, 4, 5, 6, 7, 8, 9]
  case hn => rfl
  case hB => kernel_rfl
  case hds => kernel_rfl
  case hA => (intro p; simp only [putsD, Act.put, List.setIfInBounds_toArray, List.set_cons_zero, List.set_cons_succ, List.getD_cons_zero, List.getD_cons_succ]; exact rfl)
  case h0 => exact fun p => ⟨Nat.le_refl _, hB, s, qb, fun h => absurd h (by decide)⟩
  case hmore => exact fun p L w1 w2 ⟨hsz, hB, s, qb, h_t⟩ hm => ⟨Nat.le_trans hsz hm.size, hB.trans (hm.mono (Nat.le_trans hW0 hsz)), s.below hm s.lt, qb.below hm qb.lt, fun hl => ⟨(h_t hl).1, (h_t hl).2.below hm (h_t hl).2.lt⟩⟩
  case hs =>
    intro more
    refine stepV 0 rfl rfl (fun _ _ _ h => h) ?_ ?_
    · rintro p L w1 ⟨hsz, hB, s, qb, h_t⟩ hk
      have L8 : L 8 = false := hk.2.2 8 rfl
      first | exact valR_row _ _ rfl _ rfl _ _ qb _ Try.underlying23 rfl (by first | kernel_rfl | (rw [qfn_size]; kernel_rfl)) rfl | (have hc := qb.cellIs (qfn_get _ (show 0 < 4 by omega)); go_simp; exact ⟨rfl, rfl⟩)
    refine stepV _ rfl rfl (fun _ _ _ h => h) (by intros; go_simp; exact ⟨rfl, rfl⟩) ?_
    refine stepV 2 rfl rfl (fun _ _ _ h => h) ?_ ?_
    · rintro p L w1 ⟨hsz, hB, s, qb, h_t⟩ hk
      have L8 : L 8 = false := hk.2.2 8 rfl
      exact valR_part _ _ rfl _ 3 rfl _ _ s (vfn y.b) (sg_b y) _ Try.underlying31 rfl (by rw [vfn_size]; kernel_rfl) rfl
    refine stepD 3 rfl (fun p => rfl) (fun _ _ _ h => h) more ?_ ?_
    · rintro p L w1 ⟨hsz, hB, s, qb, h_t⟩ hk
      go_simp
      refine (RO.out _).mono ?_
      rintro e w2 ⟨rfl, h2⟩
      first | exact ⟨rfl, h2⟩ | (subst h2; exact ⟨rfl, Below.refl _ _⟩)
    iterate 3 (refine stepV _ rfl rfl (fun _ _ _ h => h) (by intros; go_simp; exact ⟨rfl, rfl⟩) ?_)
    refine AllI.cons ?_ ?_
    · refine stepI_alloc 7 rfl (fun p => rfl) rfl (vfn fun _ => 0) 31 (fun p => rfl) ?_ ?_
      · intro p w1
        go_simp
        first | rfl | rw [zero_vec]
      rintro p L w1 ⟨hsz, hB, s, qb, h_t⟩ hk
      have L8 : L 8 = false := hk.2.2 8 rfl
      refine ⟨Nat.le_trans hsz (by simp), hB.alloc (Nat.le_trans (by first | exact hW0 | (have := hB.size; simp at this ⊢; omega)) hsz) _, s.alloc _, qb.alloc _, fun _ => ⟨hsz, ?_⟩⟩
      rw [show upL L 7 8 = false from L8]
      exact blk.new _ _ _
    refine AllI.cons ?_ ?_
    · refine stepI_store 8 rfl (fun p => rfl) (fun p => rfl) _ _ _ rfl (fun p => p 7) 0 (fun p => rfl) (fun p => (vfn T)) (fun p => rfl) (fun p => (vfn fun _ => 0)) (fun p => (vfn T)) 31 (fun p => over_v' _ _) (fun p => by first | (rw [vfn_size, vfn_size]; decide) | simp [vfn_size, vfn_size]) (fun p => by rw [vfn_size]; kernel_rfl) (fun p => vfn_one _) ?_ ?_
      · rintro p L w1 ⟨hsz, hB, s, qb, h_t⟩ hk
        have L8 : L 8 = false := hk.1
        have hh := (h_t (hk.2.1 7 rfl)).2
        rw [L8] at hh
        try simp only [cond_true, cond_false] at hh
        exact hh
      · rintro p L w1 ⟨hsz, hB, s, qb, h_t⟩ hk
        have L8 : L 8 = false := hk.1
        skip
        have hp := h_t (hk.2.1 7 rfl)
        refine ⟨(by simpa using hsz), Below.setRow hB (by first | exact Nat.le_trans hW0 hp.1 | exact ge_t | omega | (have := hB.size; simp at this ⊢; omega)) _, s.rowOther (by first | exact Nat.ne_of_lt (Nat.lt_of_lt_of_le lt_s hp.1) | omega) _, qb.rowOther (by first | exact Nat.ne_of_lt (Nat.lt_of_lt_of_le lt_qb hp.1) | omega) _, fun _ => ⟨hp.1, ?_⟩⟩
        rw [show upL L 8 8 = true from rfl]
        exact hp.2.row _
    refine stepV _ rfl rfl (fun _ _ _ h => h) (by intros; go_simp; exact ⟨rfl, rfl⟩) ?_
    exact AllI.nil
  case hV0 =>
    intro p q
    refine AllI.cons ?_ ?_
    · skip
      iterate 10 (refine AllI.cons (by first | exact .inl rfl | (refine .inr ?_; simp only [List.getD_cons_zero, List.getD_cons_succ]; done) | exact .inr rfl) ?_)
      exact AllI.nil
    exact AllI.nil
  case he =>
  clear hB s qb
  rintro p w0r ⟨hsz, hB, s, qb, h_t⟩
  obtain ⟨le_t, t⟩ := h_t rfl
  clear h_t
  replace t : blk w0r (p 7) (vfn T) 31 := t
  have ne_s_t : w.heap.size ≠ p 7 := Nat.ne_of_lt (Nat.lt_of_lt_of_le lt_s le_t)
  have ne_qb_t : b ≠ p 7 := Nat.ne_of_lt (Nat.lt_of_lt_of_le lt_qb le_t)
  have ge_t : w.heap.size ≤ p 7 := Nat.le_trans hW0 le_t
  generalize p 7 = t_b at *
  clear lt_s
  clear lt_qb
  clear hsz hW0
  clear RO
  go_upto_region 2 with (fail)
  have lt_s := s.lt
  have lt_qb := qb.lt
  have lt_t := t.lt
  have hW0 : w.heap.size ≤ w0r.heap.size := by have := hB.size; first | exact this | simpa using this
  apply wp_region_Q 10 [0, 1, 3, 7, 15, 31, 63, 127, 255, 511] [7] [_, _, _, _, _, _, _, (fun p => .pointer (some ⟨p 7, 0, none⟩)), (fun _ => undef), _] (fun p L w' => w0r.heap.size ≤ w'.heap.size ∧ Below w.heap.size w w' ∧ blk w' w.heap.size (sgc y) 36 ∧ blk w' b (qfn q) 23 ∧ blk w' t_b (vfn T) 31 ∧ (L 7 = true → w0r.heap.size ≤ p 7 ∧ blk w' (p 7) (bif L 8 then (vfn D) else (vfn fun _ => 0)) 31)) _ [(0, 18), (1, 19), (2, 20), (3, 21), (4, 17), (5, 22), (6, 23), (7, 6), (9, 7)] [0, 1, 2, 3, 4, 5, 6, 7, 8, 9]
  case hn => rfl
  case hB => kernel_rfl
  case hds => kernel_rfl
  case hA => (intro p; simp only [putsD, Act.put, List.setIfInBounds_toArray, List.set_cons_zero, List.set_cons_succ, List.getD_cons_zero, List.getD_cons_succ]; exact rfl)
  case h0 => exact fun p => ⟨Nat.le_refl _, hB, s, qb, t, fun h => absurd h (by decide)⟩
  case hmore => exact fun p L w1 w2 ⟨hsz, hB, s, qb, t, h_d⟩ hm => ⟨Nat.le_trans hsz hm.size, hB.trans (hm.mono (Nat.le_trans hW0 hsz)), s.below hm s.lt, qb.below hm qb.lt, t.below hm t.lt, fun hl => ⟨(h_d hl).1, (h_d hl).2.below hm (h_d hl).2.lt⟩⟩
  case hs =>
    intro more
    refine stepV _ rfl rfl (fun _ _ _ h => h) (by intros; go_simp; exact ⟨rfl, rfl⟩) ?_
    refine stepV 1 rfl rfl (fun _ _ _ h => h) ?_ ?_
    · rintro p L w1 ⟨hsz, hB, s, qb, t, h_d⟩ hk
      have L8 : L 8 = false := hk.2.2 8 rfl
      exact valR_part _ _ rfl _ 0 rfl _ _ s (vfn y.a) (sg_a y) _ Try.underlying31 rfl (by rw [vfn_size]; kernel_rfl) rfl
    refine stepV 2 rfl rfl (fun _ _ _ h => h) ?_ ?_
    · rintro p L w1 ⟨hsz, hB, s, qb, t, h_d⟩ hk
      have L8 : L 8 = false := hk.2.2 8 rfl
      first | exact valR_row _ _ rfl _ rfl _ _ t _ Try.underlying31 rfl (by first | kernel_rfl | (rw [vfn_size]; kernel_rfl)) rfl | (have hc := t.cellIs (vfn_get _ (show 0 < 3 by omega)); go_simp; exact ⟨rfl, rfl⟩)
    refine stepD 3 rfl (fun p => rfl) (fun _ _ _ h => h) more ?_ ?_
    · rintro p L w1 ⟨hsz, hB, s, qb, t, h_d⟩ hk
      go_simp
      refine (SU.out _).mono ?_
      rintro e w2 ⟨rfl, h2⟩
      first | exact ⟨rfl, h2⟩ | (subst h2; exact ⟨rfl, Below.refl _ _⟩)
    iterate 3 (refine stepV _ rfl rfl (fun _ _ _ h => h) (by intros; go_simp; exact ⟨rfl, rfl⟩) ?_)
    refine AllI.cons ?_ ?_
    · refine stepI_alloc 7 rfl (fun p => rfl) rfl (vfn fun _ => 0) 31 (fun p => rfl) ?_ ?_
      · intro p w1
        go_simp
        first | rfl | rw [zero_vec]
      rintro p L w1 ⟨hsz, hB, s, qb, t, h_d⟩ hk
      have L8 : L 8 = false := hk.2.2 8 rfl
      refine ⟨Nat.le_trans hsz (by simp), hB.alloc (Nat.le_trans (by first | exact hW0 | (have := hB.size; simp at this ⊢; omega)) hsz) _, s.alloc _, qb.alloc _, t.alloc _, fun _ => ⟨hsz, ?_⟩⟩
      rw [show upL L 7 8 = false from L8]
      exact blk.new _ _ _
    refine AllI.cons ?_ ?_
    · refine stepI_store 8 rfl (fun p => rfl) (fun p => rfl) _ _ _ rfl (fun p => p 7) 0 (fun p => rfl) (fun p => (vfn D)) (fun p => rfl) (fun p => (vfn fun _ => 0)) (fun p => (vfn D)) 31 (fun p => over_v' _ _) (fun p => by first | (rw [vfn_size, vfn_size]; decide) | simp [vfn_size, vfn_size]) (fun p => by rw [vfn_size]; kernel_rfl) (fun p => vfn_one _) ?_ ?_
      · rintro p L w1 ⟨hsz, hB, s, qb, t, h_d⟩ hk
        have L8 : L 8 = false := hk.1
        have hh := (h_d (hk.2.1 7 rfl)).2
        rw [L8] at hh
        try simp only [cond_true, cond_false] at hh
        exact hh
      · rintro p L w1 ⟨hsz, hB, s, qb, t, h_d⟩ hk
        have L8 : L 8 = false := hk.1
        skip
        have hp := h_d (hk.2.1 7 rfl)
        refine ⟨(by simpa using hsz), Below.setRow hB (by first | exact Nat.le_trans hW0 hp.1 | exact ge_d | omega | (have := hB.size; simp at this ⊢; omega)) _, s.rowOther (by first | exact Nat.ne_of_lt (Nat.lt_of_lt_of_le lt_s hp.1) | omega) _, qb.rowOther (by first | exact Nat.ne_of_lt (Nat.lt_of_lt_of_le lt_qb hp.1) | omega) _, t.rowOther (by first | exact Nat.ne_of_lt (Nat.lt_of_lt_of_le lt_t hp.1) | omega) _, fun _ => ⟨hp.1, ?_⟩⟩
        rw [show upL L 8 8 = true from rfl]
        exact hp.2.row _
    refine stepV _ rfl rfl (fun _ _ _ h => h) (by intros; go_simp; exact ⟨rfl, rfl⟩) ?_
    exact AllI.nil
  case hV0 =>
    intro p q
    refine AllI.cons ?_ ?_
    · skip
      iterate 10 (refine AllI.cons (by first | exact .inl rfl | (refine .inr ?_; simp only [List.getD_cons_zero, List.getD_cons_succ]; done) | exact .inr rfl) ?_)
      exact AllI.nil
    exact AllI.nil
  case he =>
  clear hB s qb t
  rintro p w0rr ⟨hsz, hB, s, qb, t, h_d⟩
  obtain ⟨le_d, d⟩ := h_d rfl
  clear h_d
  replace d : blk w0rr (p 7) (vfn D) 31 := d
  have ne_s_d : w.heap.size ≠ p 7 := Nat.ne_of_lt (Nat.lt_of_lt_of_le lt_s le_d)
  have ne_qb_d : b ≠ p 7 := Nat.ne_of_lt (Nat.lt_of_lt_of_le lt_qb le_d)
  have ne_t_d : t_b ≠ p 7 := Nat.ne_of_lt (Nat.lt_of_lt_of_le lt_t le_d)
  have ge_d : w.heap.size ≤ p 7 := Nat.le_trans hW0 le_d
  generalize p 7 = d_b at *
  clear lt_s
  clear lt_qb
  clear lt_t
  clear hsz hW0
  clear SU
  go_upto_region 3 with (fail)
  have lt_s := s.lt
  have lt_qb := qb.lt
  have lt_t := t.lt
  have lt_d := d.lt
  have hW0 : w.heap.size ≤ w0rr.heap.size := by have := hB.size; first | exact this | simpa using this
  apply wp_region_Q 7 [0, 1, 3, 7, 15, 31, 63] [] [_, _, _, _, _, _, _] (fun p L w' => w0rr.heap.size ≤ w'.heap.size ∧ Below w.heap.size w w' ∧ blk w' w.heap.size (sgc y) 36 ∧ blk w' b (qfn q) 23 ∧ blk w' t_b (vfn T) 31 ∧ blk w' d_b (vfn D) 31) _ [(0, 25), (1, 26), (2, 24), (3, 27), (4, 28), (5, 8), (6, 9)] [0, 1, 2, 3, 4, 5, 6]
  case hn => rfl
  case hB => kernel_rfl
  case hds => kernel_rfl
  case hA => (intro p; simp only [putsD, Act.put, List.setIfInBounds_toArray, List.set_cons_zero, List.set_cons_succ, List.getD_cons_zero, List.getD_cons_succ]; exact rfl)
  case h0 => exact fun p => ⟨Nat.le_refl _, hB, s, qb, t, d⟩
  case hmore => exact fun p L w1 w2 ⟨hsz, hB, s, qb, t, d⟩ hm => ⟨Nat.le_trans hsz hm.size, hB.trans (hm.mono (Nat.le_trans hW0 hsz)), s.below hm s.lt, qb.below hm qb.lt, t.below hm t.lt, d.below hm d.lt⟩
  case hs =>
    intro more
    refine stepV 0 rfl rfl (fun _ _ _ h => h) ?_ ?_
    · rintro p L w1 ⟨hsz, hB, s, qb, t, d⟩ hk
      first | exact valR_row _ _ rfl _ rfl _ _ d _ Try.underlying31 rfl (by first | kernel_rfl | (rw [vfn_size]; kernel_rfl)) rfl | (have hc := d.cellIs (vfn_get _ (show 0 < 3 by omega)); go_simp; exact ⟨rfl, rfl⟩)
    refine stepD 1 rfl (fun p => rfl) (fun _ _ _ h => h) more ?_ ?_
    · rintro p L w1 ⟨hsz, hB, s, qb, t, d⟩ hk
      go_simp
      refine (NO.out _).mono ?_
      rintro e w2 ⟨rfl, h2⟩
      first | exact ⟨rfl, h2⟩ | (subst h2; exact ⟨rfl, Below.refl _ _⟩)
    iterate 5 (refine stepV _ rfl rfl (fun _ _ _ h => h) (by intros; go_simp; exact ⟨rfl, rfl⟩) ?_)
    exact AllI.nil
  case hV0 => exact fun p q => AllI.nil
  case he =>
  clear hB s qb t d
  rintro p w0rrr ⟨hsz, hB, s, qb, t, d⟩
  clear lt_s
  clear lt_qb
  clear lt_t
  clear lt_d
  clear hsz hW0
  clear NO
  go_wp2_with (fail)
  go_ret
  exact ⟨rfl, hB⟩
set_option maxRecDepth 100000 in
set_option maxHeartbeats 8000000 in
theorem sres_any (q : Nat → Int) (S : Nat → Sgt) (a : Option Addr) (n c : Nat) (w : World) (el : ElemsA w a n 7 (fun k => (sgc (S k)).toList)) (hn : n ≤ 1000) (hI : ∀ i, i < 4 → I64 (q i)) : Calls Try.prog 12 #[.agg (qfn q), .slice a n c] w fun e w' => e = .returned (.tuple #[.int .i64 (resV q S n), .int .i64 (resE2 q S n)]) ∧ Below w.heap.size w w' := by
  have VA := Lib.hid (fun w el => svalid_any S a n c w el hn)
  have VQ := Lib.hid (fun w => qvalid_any q w hI)
  have hI2 := Lib.hid hI
  replace el := Lib.hid el
  have hME : Hid (valS S n = true → ∀ b w', Below w.heap.size w w' → blk w' b (qfn q) 23 → Calls Try.prog 46 #[.slice a n c, .func (.func 47) #[] #[.pointer (some ⟨b, 0, none⟩)]] w' fun e w'' => e = .returned (.int .i64 (ratioV (fsum S (sgRes q) n) 1 (wsum S n))) ∧ Below w'.heap.size w' w'') := fun hv b w' hb hq => by
    obtain ⟨h0, h1, h2⟩ := valS_iff.1 hv
    refine smean_any S (sgRes q) a n c _ _ w' (el.out.below hb) h1 h2 (fun k hk => sgRes_bd q (S k)) (fun k hk w1 h1 => ?_) (fun ar w1 => rfl)
    exact sres1_any q b (S k) w1 (hq.below h1 hq.lt) hI
  unfold resV resE2 resOk
  have hvv : Hid (valS S n = true ↔ valS S n = true) := Iff.rfl
  generalize hg : ratioV (fsum S (sgRes q) n) 1 (wsum S n) = M at *
  clear hg hvv
  obtain ⟨b1, h1⟩ : ∃ b, valS S n = b := ⟨_, rfl⟩
  obtain ⟨b2, h2⟩ : ∃ b, validQ q = b := ⟨_, rfl⟩
  rw [h1] at VA hME ⊢
  rw [h2] at VQ ⊢
  clear h1 h2 hI hn
  go_enter Try.func12, Try.ntmps12
  go_upto_region 1 with (fail)
  have p : blk (w.alloc (.cells (qfn q) 23)) w.heap.size (qfn q) 23 := blk.new _ _ _
  have hB : Below w.heap.size w (w.alloc (.cells (qfn q) 23)) := by go_grown
  generalize (w.alloc (.cells (qfn q) 23)) = w0 at *
  cases b1 <;> cases b2
  all_goals
    go_wp2_with (first | (refine wpList_load_rowG ?hw _ _ rfl _ rfl _ _ _ _ p Try.underlying23 rfl ?hi ?_; (case hw => (first | rfl | (simp [Region.wanted, yielded]; done))); (case hi => (first | kernel_rfl | (rw [qfn_size]; kernel_rfl)))) | (go_at_call 45; with_reducible refine (VA.out _ (el.out.below hB)).mono ?_; rintro e w1 ⟨rfl, hb⟩; replace hB := hB.trans (hb.mono hB.size); replace p := p.below hb p.lt; clear hb) | (go_at_call 33; with_reducible refine (VQ.out _).mono ?_; rintro e w2 ⟨rfl, hb⟩; replace hB := hB.trans (hb.mono hB.size); replace p := p.below hb p.lt; clear hb) | (go_at_call 46; with_reducible refine ((hME.out (by trivial)) _ _ hB p).mono ?_; rintro e w3 ⟨rfl, hb⟩; replace hB := hB.trans (hb.mono hB.size); clear hb))
    go_ret2
    exact ⟨by first | rfl | simp, hB⟩
end Go.Proofs.Ytkmelddejdikgaa
