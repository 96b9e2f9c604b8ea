/-
  The matrix of sights. How far apart the stars are.
-/
import Derived.Test.YtkmelddejdikgaaSkF
import Derived.Test.YtkmelddejdikgaaShift
set_option linter.unusedSimpArgs false
set_option linter.unusedVariables false
namespace Go.Proofs.Ytkmelddejdikgaa
open Go.RowKit PM Dt
/-- The matrix of sights, row by row. -/
def matF (S : Nat → Sgt) (n : Nat) : Nat → Int := fun j => ratioV (fsum S (fun s => entF s (j / 4) (j % 4)) n) 1 (wsum S n)
theorem matF_at (S : Nat → Sgt) (n i k : Nat) (hk : k < 4) : matF S n (i * 4 + k) = ratioV (fsum S (fun s => entF s i k) n) 1 (wsum S n) := by
  unfold matF
  rw [show (i * 4 + k) / 4 = i by omega, show (i * 4 + k) % 4 = k by omega]
def matV (S : Nat → Sgt) (n : Nat) : Nat → Int := if valS S n then matF S n else fun _ => 0
def matE (S : Nat → Sgt) (n : Nat) : Int := if valS S n then 0 else 2
set_option maxRecDepth 100000 in
set_option maxHeartbeats 4000000 in
theorem smat11_any (y : Sgt) (i k bi bk : Nat) (w : World) (h : sgOk y = true) (hi : i < 4) (hk : k < 4) (pi : blk w bi #[.int .i64 i] 3) (pk : blk w bk #[.int .i64 k] 3) : Calls Try.prog 66 #[.agg (sgc y), .pointer (some ⟨bi, 0, none⟩), .pointer (some ⟨bk, 0, none⟩)] w fun e w' => e = .returned (.int .i64 (entF y i k)) ∧ Below w.heap.size w w' := by
  have EN := Lib.hid (fun w => sent_any y i k w h hi hk)
  clear h hi hk
  generalize entF y i k = E at *
  go_enter Try.func66, Try.ntmps66
  go_upto_region 1 with (fail)
  have s : blk (w.alloc (.cells (sgc y) 36)) w.heap.size (sgc y) 36 := blk.new _ _ _
  have hB : Below w.heap.size w (w.alloc (.cells (sgc y) 36)) := by go_grown
  generalize (w.alloc (.cells (sgc y) 36)) = w0 at *
  replace pi := pi.below hB pi.lt
  replace pk := pk.below hB pk.lt
  have c1 : w0.cell? ⟨bi, 0, none⟩ = some (.int .i64 i) := pi.cellIs rfl
  have c2 : w0.cell? ⟨bk, 0, none⟩ = some (.int .i64 k) := pk.cellIs rfl
  go_wp2_with (first
    | (refine wpList_load_rowG ?hw _ _ rfl _ rfl _ _ _ _ s Try.underlying36 rfl ?hi ?_; (case hw => (first | rfl | (simp [Region.wanted, yielded]; done))); (case hi => (first | kernel_rfl | (rw [sgc_size]; kernel_rfl))))
    | (go_at_call 67; with_reducible refine (EN.out _).mono ?_; rintro e w1 ⟨rfl, hb⟩; replace hB := hB.trans (hb.mono hB.size); replace s := s.below hb s.lt; clear hb))
  go_ret
  exact ⟨rfl, hB⟩
set_option maxRecDepth 100000 in
set_option maxHeartbeats 6000000 in
theorem smat1_any (S : Nat → Sgt) (a : Option Addr) (n c i k b : Nat) (w : World) (el : ElemsA w a n 7 (fun k => (sgc (S k)).toList)) (hv : valS S n = true) (hi : i < 4) (hk : k < 4) (hb : blk w b #[.slice a n c] 24) : Calls Try.prog 65 #[.int .i64 i, .int .i64 k, .pointer (some ⟨b, 0, none⟩)] w fun e w' => e = .returned (.int .i64 (matF S n (i * 4 + k))) ∧ Below w.heap.size w w' := by
  obtain ⟨h0, h1, h2⟩ := valS_iff.1 hv
  have hME : Hid (∀ bi bk w', Below w.heap.size w w' → blk w' bi #[.int .i64 i] 3 → blk w' bk #[.int .i64 k] 3 → Calls Try.prog 46 #[.slice a n c, .func (.func 66) #[] #[.pointer (some ⟨bi, 0, none⟩), .pointer (some ⟨bk, 0, none⟩)]] w' fun e w'' => e = .returned (.int .i64 (matF S n (i * 4 + k))) ∧ Below w'.heap.size w' w'') := fun bi bk w' hb pi pk => by
    rw [matF_at S n i k hk]
    refine smean_any S (fun s => entF s i k) a n c _ _ w' (el.below hb) h1 h2 (fun j hj => ?_) (fun j hj w1 hb1 => ?_) (fun ar w1 => rfl)
    · have := entF_bd (h2 j hj) hi hk
      show _ ≤ entF (S j) i k ∧ entF (S j) i k ≤ _
      omega
    · exact smat11_any (S j) i k bi bk w1 (h2 j hj) hi hk (pi.below hb1 pi.lt) (pk.below hb1 pk.lt)
  clear h0 h1 h2 hv hi hk el
  generalize matF S n (i * 4 + k) = M at *
  go_enter Try.func65, Try.ntmps65
  go_upto_region 1 with (fail)
  have pi : blk ((w.alloc (.cells #[.int .i64 i] 3)).alloc (.cells #[.int .i64 k] 3)) w.heap.size #[.int .i64 i] 3 := (blk.new _ _ _).alloc _
  have pk : blk ((w.alloc (.cells #[.int .i64 i] 3)).alloc (.cells #[.int .i64 k] 3)) (w.heap.size + 1) #[.int .i64 k] 3 := blk.new' (by simp)
  have hB : Below w.heap.size w ((w.alloc (.cells #[.int .i64 i] 3)).alloc (.cells #[.int .i64 k] 3)) := by go_grown
  generalize ((w.alloc (.cells #[.int .i64 i] 3)).alloc (.cells #[.int .i64 k] 3)) = w0 at *
  replace hb := hb.below hB hb.lt
  have c0 : w0.cell? ⟨b, 0, none⟩ = some (.slice a n c) := hb.cellIs rfl
  go_wp2_with (go_at_call 46; with_reducible refine (hME.out _ _ _ hB pi pk).mono ?_; rintro e w3 ⟨rfl, hc⟩; replace hB := hB.trans (hc.mono hB.size); clear hc)
  go_ret
  exact ⟨rfl, hB⟩
set_option maxRecDepth 100000 in
set_option maxHeartbeats 8000000 in
theorem smatrix_any (S : Nat → Sgt) (a : Option Addr) (n c : Nat) (w : World) (el : ElemsA w a n 7 (fun k => (sgc (S k)).toList)) (hn : n ≤ 1000) : Calls Try.prog 17 #[.slice a n c] w fun e w' => e = .returned (.tuple #[.agg (tbn (matV S n)), .int .i64 (matE S n)]) ∧ Below w.heap.size w w' := by
  have VA := Lib.hid (fun w el => svalid_any S a n c w el hn)
  replace el := Lib.hid el
  have hFI : Hid (valS S n = true → ∀ b w', Below w.heap.size w w' → blk w' b #[.slice a n c] 24 → Calls Try.prog 56 #[.func (.func 65) #[] #[.pointer (some ⟨b, 0, none⟩)]] w' fun e w'' => e = .returned (.agg (tbn (matF S n))) ∧ Below w'.heap.size w' w'') := fun hv b w' hb pb => by
    refine sfill_any (matF S n) _ _ w' (fun i k hi hk w1 h1 => ?_) (fun ar w1 => rfl)
    exact smat1_any S a n c i k b w1 ((el.out.below hb).below (h1.mono (Nat.le_refl _))) hv hi hk (pb.below h1 pb.lt)
  unfold matV matE
  generalize matF S n = M at *
  obtain ⟨b1, h1⟩ : ∃ b, valS S n = b := ⟨_, rfl⟩
  rw [h1] at VA hFI ⊢
  clear h1 hn
  go_enter Try.func17, Try.ntmps17
  go_upto_region 1 with (fail)
  simp only [zero_tb]
  have l : blk ((w.alloc (.cells #[.slice a n c] 24)).alloc (.cells (tbn fun _ => 0) 38)) w.heap.size #[.slice a n c] 24 := (blk.new _ _ _).alloc _
  have r : blk ((w.alloc (.cells #[.slice a n c] 24)).alloc (.cells (tbn fun _ => 0) 38)) (w.heap.size + 1) (tbn fun _ => 0) 38 := blk.new' (by simp)
  have hB : Below w.heap.size w ((w.alloc (.cells #[.slice a n c] 24)).alloc (.cells (tbn fun _ => 0) 38)) := by go_grown
  generalize ((w.alloc (.cells #[.slice a n c] 24)).alloc (.cells (tbn fun _ => 0) 38)) = w0 at *
  have c0 : w0.cell? ⟨w.heap.size, 0, none⟩ = some (.slice a n c) := l.cellIs rfl
  cases b1
  · skip
    go_wp2_with (first | (go_at_call 45; with_reducible refine (VA.out _ (el.out.below hB)).mono ?_; rintro e w1 ⟨rfl, hb⟩; replace hB := hB.trans (hb.mono hB.size); replace l := l.below hb l.lt; replace r := r.below hb r.lt; clear hb) | (rw [zero_tb]; refine wpList_store_row rfl _ _ _ rfl _ rfl _ rfl _ _ r (by first | kernel_rfl | (rw [tbn_size]; kernel_rfl)) (by first | rfl | simp only [tbn_size]) (by first | exact tbn_one _ | rfl) ?_))
    refine bodyPost_ret (results_vec rfl _ _ _ _ _ _ _ rfl (r.row (tbn fun _ => 0)) Try.underlying38 rfl (by first | kernel_rfl | (rw [tbn_size]; kernel_rfl))) rfl ?_
    refine ⟨?_, Below.setRow hB (by omega) _⟩
    rfl
  go_wp2_with (first | (go_at_call 45; with_reducible refine (VA.out _ (el.out.below hB)).mono ?_; rintro e w1 ⟨rfl, hb⟩; replace hB := hB.trans (hb.mono hB.size); replace l := l.below hb l.lt; replace r := r.below hb r.lt; clear hb) | (go_at_call 56; with_reducible refine ((hFI.out (by trivial)) _ _ hB l).mono ?_; rintro e w3 ⟨rfl, hb⟩; replace hB := hB.trans (hb.mono hB.size); replace l := l.below hb l.lt; replace r := r.below hb r.lt; clear hb) | (refine wpList_store_row rfl _ _ _ rfl _ rfl _ rfl _ _ r (by first | kernel_rfl | (rw [tbn_size]; kernel_rfl)) (by first | rfl | simp only [tbn_size]) (by first | exact tbn_one _ | rfl) ?_))
  refine bodyPost_ret (results_vec rfl _ _ _ _ _ _ _ rfl (r.row (tbn M)) Try.underlying38 rfl (by first | kernel_rfl | (rw [tbn_size]; kernel_rfl))) rfl ?_
  refine ⟨?_, Below.setRow hB (by omega) _⟩
  rfl
end Go.Proofs.Ytkmelddejdikgaa
namespace Go.Proofs.Ytkmelddejdikgaa
open Go.RowKit PM Dt
/-- How far apart the stars are. -/
def sprK (S : Nat → Sgt) (i : Nat) (acc : Int) : Nat → Int
  | 0 => acc
  | k + 1 => if k = i then sprK S i acc k else mx (sprK S i acc k) (normV (vcrossF (S i).a (S k).a))
def sprI (S : Nat → Sgt) (n : Nat) : Nat → Int
  | 0 => 0
  | i + 1 => sprK S i (sprI S n i) n
def sprV (S : Nat → Sgt) (n : Nat) : Int := if valS S n then sprI S n n else 0
set_option maxRecDepth 100000 in
set_option maxHeartbeats 20000000 in
theorem sspread_any (S : Nat → Sgt) (a : Option Addr) (n c : Nat) (w : World) (el : ElemsA w a n 7 (fun k => (sgc (S k)).toList)) (hn : n ≤ 1000) : Calls Try.prog 16 #[.slice a n c] w fun e w' => e = .returned (.tuple #[.int .i64 (sprV S n), .int .i64 (matE S n)]) ∧ Below w.heap.size w w' := by
  have VA := Lib.hid (fun w el => svalid_any S a n c w el hn)
  replace el := Lib.hid el
  have hn2 : (n : Int) ≤ 1000 := by omega
  unfold sprV matE
  obtain ⟨b1, h1⟩ : ∃ b, valS S n = b := ⟨_, rfl⟩
  rw [h1] at VA ⊢
  clear h1 hn
  cases b1
  · skip
    have hB : Below w.heap.size w w := Below.refl _ _
    go_enter Try.func16, Try.ntmps16
    go_wp2_with ((go_at_call 45; with_reducible refine (VA.out _ (el.out.below hB)).mono ?_; rintro e w1 ⟨rfl, hb⟩; replace hB := hB.trans (hb.mono hB.size); clear hb))
    go_ret2
    exact ⟨by first | rfl | simp, hB⟩
  have hB : Below w.heap.size w w := Below.refl _ _
  go_enter Try.func16, Try.ntmps16
  go_wp2_with ((go_at_call 45; with_reducible refine (VA.out _ (el.out.below hB)).mono ?_; rintro e w1 ⟨rfl, hb⟩; replace hB := hB.trans (hb.mono hB.size); clear hb))
  clear VA
  go_loopg [18, 4] n (fun g_ iv j4 wr => ∃ K : Nat, g_ + K = n ∧ iv = .int .i64 K ∧ j4 = .int .i64 (sprI S n K) ∧ Below w.heap.size w wr)
  case atStart => exact ⟨0, by omega, rfl, rfl, hB⟩
  case round =>
    clear hB
    obtain ⟨K, hK, rfl, rfl, hB⟩ := hrel
    by_cases hKn : K < n
    · have hdK : decide ((K : Int) < n) = true := decide_eq_true (by omega)
      have hdK' : decide (K < n) = true := decide_eq_true hKn
      have hk3 : (K : Int) < n := by omega
      have hk0 : (0 : Int) ≤ K := by omega
      have hwK : IntKind.i64.wrap ((K : Int) + 1) = ((K + 1 : Nat) : Int) := by rw [IntKind.wrap_i64]; omega
      obtain ⟨eb, eo, rfl, hEl, hE⟩ := el.out K hKn
      replace hE : w.rangeAt eb (eo + K * 7) ((sgc (S K)).toList) := hE
      obtain ⟨y, hy⟩ : ∃ y, S K = y := ⟨_, rfl⟩
      rw [hy] at hE
      replace hy := Lib.hid hy
      obtain ⟨A0, hA0⟩ : ∃ A0, sprI S n K = A0 := ⟨_, rfl⟩
      rw [hA0]
      replace hA0 := Lib.hid hA0
      go_upto_region 6 with (fail)
      have hW0 : w.heap.size ≤ wr.heap.size := by have := hB.size; first | exact this | simpa using this
      apply wp_region_Q 6 [0, 1, 3, 7, 15, 31] [3] [_, _, _, (fun p => .pointer (some ⟨p 3, 0, none⟩)), _, (fun _ => undef)] (fun p L w' => wr.heap.size ≤ w'.heap.size ∧ Below w.heap.size w w' ∧ (L 3 = true → wr.heap.size ≤ p 3 ∧ blk w' (p 3) (bif L 5 then (sgc y) else (sgc Sgt.zero)) 36)) _ [(0, 20), (1, 21), (2, 22), (3, 6), (4, 5)] [0, 1, 2, 3, 4, 5]
      case hn => rfl
      case hB => kernel_rfl
      case hds => kernel_rfl
      case hA => (intro p; simp only [putsD, Act.put, List.setIfInBounds_toArray, List.set_cons_zero, List.set_cons_succ, List.getD_cons_zero, List.getD_cons_succ]; exact rfl)
      case h0 => exact fun p => ⟨Nat.le_refl _, hB, fun h => absurd h (by decide)⟩
      case hmore => exact fun p L w1 w2 ⟨hsz, hB, h_s⟩ hm => ⟨Nat.le_trans hsz hm.size, hB.trans (hm.mono (Nat.le_trans hW0 hsz)), fun hl => ⟨(h_s hl).1, (h_s hl).2.below hm (h_s hl).2.lt⟩⟩
      case hs =>
        intro more
        iterate 2 (refine stepV _ rfl rfl (fun _ _ _ h => h) (by intros; go_simp; exact ⟨rfl, rfl⟩) ?_)
        refine stepV 2 rfl rfl (fun _ _ _ h => h) ?_ ?_
        · rintro p L w1 ⟨hsz, hB, h_s⟩ hk
          have hr := range_below hE hB hEl
          exact valR_range _ _ rfl _ _ rfl _ (eo + K * 7) 0 hr (by first | rfl | omega) (sgc y) (sg_L y) _ Try.underlying36 rfl (by rw [sgc_size]; kernel_rfl) rfl
        refine AllI.cons ?_ ?_
        · refine stepI_alloc 3 rfl (fun p => rfl) rfl (sgc Sgt.zero) 36 (fun p => rfl) ?_ ?_
          · intro p w1
            go_simp
            first | rfl | rw [sgc_zero]
          rintro p L w1 ⟨hsz, hB, h_s⟩ hk
          have L5 : L 5 = false := hk.2.2 5 rfl
          refine ⟨Nat.le_trans hsz (by simp), hB.alloc (Nat.le_trans (by first | exact hW0 | (have := hB.size; simp at this ⊢; omega)) hsz) _, fun _ => ⟨hsz, ?_⟩⟩
          rw [show upL L 3 5 = false from L5]
          exact blk.new _ _ _
        refine stepV _ rfl rfl (fun _ _ _ h => h) (by intros; go_simp; exact ⟨rfl, rfl⟩) ?_
        refine AllI.cons ?_ ?_
        · refine stepI_store 5 rfl (fun p => rfl) (fun p => rfl) _ _ _ rfl (fun p => p 3) 0 (fun p => rfl) (fun p => (sgc y)) (fun p => rfl) (fun p => (sgc Sgt.zero)) (fun p => (sgc y)) 36 (fun p => sgover _ _) (fun p => by first | (rw [sgc_size, sgc_size]; decide) | simp [sgc_size, sgc_size]) (fun p => by rw [sgc_size]; kernel_rfl) (fun p => sgc_one _) ?_ ?_
          · rintro p L w1 ⟨hsz, hB, h_s⟩ hk
            have L5 : L 5 = false := hk.1
            have hh := (h_s (hk.2.1 3 rfl)).2
            rw [L5] at hh
            try simp only [cond_true, cond_false] at hh
            exact hh
          · rintro p L w1 ⟨hsz, hB, h_s⟩ hk
            have L5 : L 5 = false := hk.1
            skip
            have hp := h_s (hk.2.1 3 rfl)
            refine ⟨(by simpa using hsz), Below.setRow hB (by first | exact Nat.le_trans hW0 hp.1 | exact ge_s | omega | (have := hB.size; simp at this ⊢; omega)) _, fun _ => ⟨hp.1, ?_⟩⟩
            rw [show upL L 5 5 = true from rfl]
            exact hp.2.row _
        exact AllI.nil
      case hV0 =>
        intro p q
        refine AllI.cons ?_ ?_
        · skip
          iterate 6 (refine AllI.cons (by first | exact .inl rfl | (refine .inr ?_; simp only [List.getD_cons_zero, List.getD_cons_succ]; done) | exact .inr rfl) ?_)
          exact AllI.nil
        exact AllI.nil
      case he =>
      clear hB 
      rintro p wrr ⟨hsz, hB, h_s⟩
      obtain ⟨le_s, s⟩ := h_s rfl
      clear h_s
      replace s : blk wrr (p 3) (sgc y) 36 := s
      have ge_s : w.heap.size ≤ p 3 := Nat.le_trans hW0 le_s
      generalize p 3 = s_b at *
      clear hsz hW0
      clear hE
      go_wp2_with (fail)
      go_loopg [25, 4] n (fun g_ iv j4 wr => ∃ M : Nat, g_ + M = n ∧ iv = .int .i64 M ∧ j4 = .int .i64 (sprK S K A0 M) ∧ blk wr s_b (sgc y) 36 ∧ Below w.heap.size w wr)
      case atStart => exact ⟨0, by omega, rfl, rfl, s, hB⟩
      case round =>
        clear s hB
        obtain ⟨M, hM, rfl, rfl, s, hB⟩ := hrel
        by_cases hMn : M < n
        · have hdM : decide ((M : Int) < n) = true := decide_eq_true (by omega)
          have hdM' : decide (M < n) = true := decide_eq_true hMn
          have hm3 : (M : Int) < n := by omega
          have hm0 : (0 : Int) ≤ M := by omega
          have hwM : IntKind.i64.wrap ((M : Int) + 1) = ((M + 1 : Nat) : Int) := by rw [IntKind.wrap_i64]; omega
          obtain ⟨eb2, eo2, heq, hEl2, hE2⟩ := el.out M hMn
          obtain ⟨rfl, rfl⟩ : eb = eb2 ∧ eo = eo2 := by simpa [Addr.mk.injEq] using heq
          clear heq
          replace hE2 : w.rangeAt eb (eo + M * 7) ((sgc (S M)).toList) := hE2
          obtain ⟨z, hz⟩ : ∃ z, S M = z := ⟨_, rfl⟩
          rw [hz] at hE2
          have hst : sprK S K A0 (M + 1) = if M = K then sprK S K A0 M else mx (sprK S K A0 M) (normV (vcrossF (S K).a (S M).a)) := rfl
          rw [hz, hy.out] at hst
          obtain ⟨A1, hA1⟩ : ∃ A1, sprK S K A0 M = A1 := ⟨_, rfl⟩
          rw [hA1] at hst ⊢
          replace hA1 := Lib.hid hA1
          replace hz := Lib.hid hz
          have ne0 : s_b ≠ 0 ∨ True := .inr trivial
          go_upto_region 9 with (fail)
          have lt_s := s.lt
          have hW0 : w.heap.size ≤ wr.heap.size := by have := hB.size; first | exact this | simpa using this
          apply wp_region_Q 6 [0, 1, 3, 7, 15, 31] [3] [_, _, _, (fun p => .pointer (some ⟨p 3, 0, none⟩)), _, (fun _ => undef)] (fun p L w' => wr.heap.size ≤ w'.heap.size ∧ Below w.heap.size w w' ∧ blk w' s_b (sgc y) 36 ∧ (L 3 = true → wr.heap.size ≤ p 3 ∧ blk w' (p 3) (bif L 5 then (sgc z) else (sgc Sgt.zero)) 36)) _ [(0, 27), (1, 28), (2, 29), (3, 8), (4, 7)] [0, 1, 2, 3, 4, 5]
          case hn => rfl
          case hB => kernel_rfl
          case hds => kernel_rfl
          case hA => (intro p; simp only [putsD, Act.put, List.setIfInBounds_toArray, List.set_cons_zero, List.set_cons_succ, List.getD_cons_zero, List.getD_cons_succ]; exact rfl)
          case h0 => exact fun p => ⟨Nat.le_refl _, hB, s, fun h => absurd h (by decide)⟩
          case hmore => exact fun p L w1 w2 ⟨hsz, hB, s, h_u⟩ hm => ⟨Nat.le_trans hsz hm.size, hB.trans (hm.mono (Nat.le_trans hW0 hsz)), s.below hm s.lt, fun hl => ⟨(h_u hl).1, (h_u hl).2.below hm (h_u hl).2.lt⟩⟩
          case hs =>
            intro more
            iterate 2 (refine stepV _ rfl rfl (fun _ _ _ h => h) (by intros; go_simp; exact ⟨rfl, rfl⟩) ?_)
            refine stepV 2 rfl rfl (fun _ _ _ h => h) ?_ ?_
            · rintro p L w1 ⟨hsz, hB, s, h_u⟩ hk
              have hr := range_below hE2 hB hEl2
              exact valR_range _ _ rfl _ _ rfl _ (eo + M * 7) 0 hr (by first | rfl | omega) (sgc z) (sg_L z) _ Try.underlying36 rfl (by rw [sgc_size]; kernel_rfl) rfl
            refine AllI.cons ?_ ?_
            · refine stepI_alloc 3 rfl (fun p => rfl) rfl (sgc Sgt.zero) 36 (fun p => rfl) ?_ ?_
              · intro p w1
                go_simp
                first | rfl | rw [sgc_zero]
              rintro p L w1 ⟨hsz, hB, s, h_u⟩ hk
              have L5 : L 5 = false := hk.2.2 5 rfl
              refine ⟨Nat.le_trans hsz (by simp), hB.alloc (Nat.le_trans (by first | exact hW0 | (have := hB.size; simp at this ⊢; omega)) hsz) _, s.alloc _, fun _ => ⟨hsz, ?_⟩⟩
              rw [show upL L 3 5 = false from L5]
              exact blk.new _ _ _
            refine stepV _ rfl rfl (fun _ _ _ h => h) (by intros; go_simp; exact ⟨rfl, rfl⟩) ?_
            refine AllI.cons ?_ ?_
            · refine stepI_store 5 rfl (fun p => rfl) (fun p => rfl) _ _ _ rfl (fun p => p 3) 0 (fun p => rfl) (fun p => (sgc z)) (fun p => rfl) (fun p => (sgc Sgt.zero)) (fun p => (sgc z)) 36 (fun p => sgover _ _) (fun p => by first | (rw [sgc_size, sgc_size]; decide) | simp [sgc_size, sgc_size]) (fun p => by rw [sgc_size]; kernel_rfl) (fun p => sgc_one _) ?_ ?_
              · rintro p L w1 ⟨hsz, hB, s, h_u⟩ hk
                have L5 : L 5 = false := hk.1
                have hh := (h_u (hk.2.1 3 rfl)).2
                rw [L5] at hh
                try simp only [cond_true, cond_false] at hh
                exact hh
              · rintro p L w1 ⟨hsz, hB, s, h_u⟩ hk
                have L5 : L 5 = false := hk.1
                skip
                have hp := h_u (hk.2.1 3 rfl)
                refine ⟨(by simpa using hsz), Below.setRow hB (by first | exact Nat.le_trans hW0 hp.1 | exact ge_u | omega | (have := hB.size; simp at this ⊢; omega)) _, s.rowOther (by first | exact Nat.ne_of_lt (Nat.lt_of_lt_of_le lt_s hp.1) | omega) _, fun _ => ⟨hp.1, ?_⟩⟩
                rw [show upL L 5 5 = true from rfl]
                exact hp.2.row _
            exact AllI.nil
          case hV0 =>
            intro p q
            refine AllI.cons ?_ ?_
            · skip
              iterate 6 (refine AllI.cons (by first | exact .inl rfl | (refine .inr ?_; simp only [List.getD_cons_zero, List.getD_cons_succ]; done) | exact .inr rfl) ?_)
              exact AllI.nil
            exact AllI.nil
          case he =>
          clear hB s
          rintro p wrr ⟨hsz, hB, s, h_u⟩
          obtain ⟨le_u, u⟩ := h_u rfl
          clear h_u
          replace u : blk wrr (p 3) (sgc z) 36 := u
          have ne_s_u : s_b ≠ p 3 := Nat.ne_of_lt (Nat.lt_of_lt_of_le lt_s le_u)
          have ge_u : w.heap.size ≤ p 3 := Nat.le_trans hW0 le_u
          generalize p 3 = u_b at *
          clear lt_s
          clear hsz hW0
          clear hE2
          by_cases hMK : M = K
          · have hq : decide ((M : Int) = K) = true := decide_eq_true (by omega)
            have hq2 : ((M : Int) == K) = true := by simp [hMK]
            rw [if_pos hMK] at hst
            replace hst := Lib.hid hst
            replace hMK := Lib.hid hMK
            go_wp2_with (fail)
            go_roundg (n - (M + 1))
            case rel => exact ⟨M + 1, by omega, rfl, by rw [hst.out], s, hB⟩
            case measure => omega
          have hq : decide ((M : Int) = K) = false := decide_eq_false (by omega)
          have hq2 : ((M : Int) == K) = false := by simp; omega
          rw [if_neg hMK] at hst
          have CR := Lib.hid (fun w => vcross_any y.a z.a w)
          have NO := Lib.hid (fun w => vnorm_any (vcrossF y.a z.a) w)
          generalize vcrossF y.a z.a = C at *
          generalize vcrossE y.a z.a = CE at *
          generalize normV C = N at *
          generalize normE C = NE at *
          have hmx : Hid ([N].foldl mx A1 = mx A1 N) := rfl
          rw [← hst] at hmx
          replace hst := Lib.hid hst
          replace hMK := Lib.hid hMK
          go_upto_region 11 with (fail)
          have lt_s := s.lt
          have lt_u := u.lt
          have hW0 : w.heap.size ≤ wrr.heap.size := by have := hB.size; first | exact this | simpa using this
          apply wp_region_Q 11 [0, 1, 3, 7, 15, 31, 63, 127, 255, 511, 1023] [8] [_, _, _, _, _, _, _, _, (fun p => .pointer (some ⟨p 8, 0, none⟩)), (fun _ => undef), _] (fun p L w' => wrr.heap.size ≤ w'.heap.size ∧ Below w.heap.size w w' ∧ blk w' s_b (sgc y) 36 ∧ blk w' u_b (sgc z) 36 ∧ (L 8 = true → wrr.heap.size ≤ p 8 ∧ blk w' (p 8) (bif L 9 then (vfn C) else (vfn fun _ => 0)) 31)) _ [(0, 34), (1, 35), (2, 36), (3, 37), (4, 38), (5, 33), (6, 39), (7, 40), (8, 9), (10, 10)] [0, 1, 2, 3, 4, 5, 6, 7, 8, 9, 10]
          case hn => rfl
          case hB => kernel_rfl
          case hds => kernel_rfl
          case hA => (intro p; simp only [putsD, Act.put, List.setIfInBounds_toArray, List.set_cons_zero, List.set_cons_succ, List.getD_cons_zero, List.getD_cons_succ]; exact rfl)
          case h0 => exact fun p => ⟨Nat.le_refl _, hB, s, u, fun h => absurd h (by decide)⟩
          case hmore => exact fun p L w1 w2 ⟨hsz, hB, s, u, h_v⟩ hm => ⟨Nat.le_trans hsz hm.size, hB.trans (hm.mono (Nat.le_trans hW0 hsz)), s.below hm s.lt, u.below hm u.lt, fun hl => ⟨(h_v hl).1, (h_v hl).2.below hm (h_v hl).2.lt⟩⟩
          case hs =>
            intro more
            refine stepV _ rfl rfl (fun _ _ _ h => h) (by intros; go_simp; exact ⟨rfl, rfl⟩) ?_
            refine stepV 1 rfl rfl (fun _ _ _ h => h) ?_ ?_
            · rintro p L w1 ⟨hsz, hB, s, u, h_v⟩ hk
              have L9 : L 9 = false := hk.2.2 9 rfl
              exact valR_part _ _ rfl _ 0 rfl _ _ s (vfn y.a) (sg_a y) _ Try.underlying31 rfl (by rw [vfn_size]; kernel_rfl) rfl
            refine stepV _ rfl rfl (fun _ _ _ h => h) (by intros; go_simp; exact ⟨rfl, rfl⟩) ?_
            refine stepV 3 rfl rfl (fun _ _ _ h => h) ?_ ?_
            · rintro p L w1 ⟨hsz, hB, s, u, h_v⟩ hk
              have L9 : L 9 = false := hk.2.2 9 rfl
              exact valR_part _ _ rfl _ 0 rfl _ _ u (vfn z.a) (sg_a z) _ Try.underlying31 rfl (by rw [vfn_size]; kernel_rfl) rfl
            refine stepD 4 rfl (fun p => rfl) (fun _ _ _ h => h) more ?_ ?_
            · rintro p L w1 ⟨hsz, hB, s, u, h_v⟩ hk
              go_simp
              refine (CR.out _).mono ?_
              rintro e w2 ⟨rfl, h2⟩
              first | exact ⟨rfl, h2⟩ | (subst h2; exact ⟨rfl, Below.refl _ _⟩)
            iterate 3 (refine stepV _ rfl rfl (fun _ _ _ h => h) (by intros; go_simp; exact ⟨rfl, rfl⟩) ?_)
            refine AllI.cons ?_ ?_
            · refine stepI_alloc 8 rfl (fun p => rfl) rfl (vfn fun _ => 0) 31 (fun p => rfl) ?_ ?_
              · intro p w1
                go_simp
                first | rfl | rw [zero_vec]
              rintro p L w1 ⟨hsz, hB, s, u, h_v⟩ hk
              have L9 : L 9 = false := hk.2.2 9 rfl
              refine ⟨Nat.le_trans hsz (by simp), hB.alloc (Nat.le_trans (by first | exact hW0 | (have := hB.size; simp at this ⊢; omega)) hsz) _, s.alloc _, u.alloc _, fun _ => ⟨hsz, ?_⟩⟩
              rw [show upL L 8 9 = false from L9]
              exact blk.new _ _ _
            refine AllI.cons ?_ ?_
            · refine stepI_store 9 rfl (fun p => rfl) (fun p => rfl) _ _ _ rfl (fun p => p 8) 0 (fun p => rfl) (fun p => (vfn C)) (fun p => rfl) (fun p => (vfn fun _ => 0)) (fun p => (vfn C)) 31 (fun p => over_v' _ _) (fun p => by first | (rw [vfn_size, vfn_size]; decide) | simp [vfn_size, vfn_size]) (fun p => by rw [vfn_size]; kernel_rfl) (fun p => vfn_one _) ?_ ?_
              · rintro p L w1 ⟨hsz, hB, s, u, h_v⟩ hk
                have L9 : L 9 = false := hk.1
                have hh := (h_v (hk.2.1 8 rfl)).2
                rw [L9] at hh
                try simp only [cond_true, cond_false] at hh
                exact hh
              · rintro p L w1 ⟨hsz, hB, s, u, h_v⟩ hk
                have L9 : L 9 = false := hk.1
                skip
                have hp := h_v (hk.2.1 8 rfl)
                refine ⟨(by simpa using hsz), Below.setRow hB (by first | exact Nat.le_trans hW0 hp.1 | exact ge_v | omega | (have := hB.size; simp at this ⊢; omega)) _, s.rowOther (by first | exact Nat.ne_of_lt (Nat.lt_of_lt_of_le lt_s hp.1) | omega) _, u.rowOther (by first | exact Nat.ne_of_lt (Nat.lt_of_lt_of_le lt_u hp.1) | omega) _, fun _ => ⟨hp.1, ?_⟩⟩
                rw [show upL L 9 9 = true from rfl]
                exact hp.2.row _
            refine stepV _ rfl rfl (fun _ _ _ h => h) (by intros; go_simp; exact ⟨rfl, rfl⟩) ?_
            exact AllI.nil
          case hV0 =>
            intro p q
            refine AllI.cons ?_ ?_
            · skip
              iterate 11 (refine AllI.cons (by first | exact .inl rfl | (refine .inr ?_; simp only [List.getD_cons_zero, List.getD_cons_succ]; done) | exact .inr rfl) ?_)
              exact AllI.nil
            exact AllI.nil
          case he =>
          clear hB s u
          rintro p wrrr ⟨hsz, hB, s, u, h_v⟩
          obtain ⟨le_v, v⟩ := h_v rfl
          clear h_v
          replace v : blk wrrr (p 8) (vfn C) 31 := v
          have ne_s_v : s_b ≠ p 8 := Nat.ne_of_lt (Nat.lt_of_lt_of_le lt_s le_v)
          have ne_u_v : u_b ≠ p 8 := Nat.ne_of_lt (Nat.lt_of_lt_of_le lt_u le_v)
          have ge_v : w.heap.size ≤ p 8 := Nat.le_trans hW0 le_v
          generalize p 8 = v_b at *
          clear lt_s
          clear lt_u
          clear hsz hW0
          clear CR
          go_upto_region 12 with (fail)
          have lt_s := s.lt
          have lt_u := u.lt
          have lt_v := v.lt
          have hW0 : w.heap.size ≤ wrrr.heap.size := by have := hB.size; first | exact this | simpa using this
          apply wp_region_Q 7 [0, 1, 3, 7, 15, 31, 63] [] [_, _, _, _, _, _, _] (fun p L w' => wrrr.heap.size ≤ w'.heap.size ∧ Below w.heap.size w w' ∧ blk w' s_b (sgc y) 36 ∧ blk w' u_b (sgc z) 36 ∧ blk w' v_b (vfn C) 31) _ [(0, 42), (1, 43), (2, 41), (3, 44), (4, 45), (5, 11), (6, 12)] [0, 1, 2, 3, 4, 5, 6]
          case hn => rfl
          case hB => kernel_rfl
          case hds => kernel_rfl
          case hA => (intro p; simp only [putsD, Act.put, List.setIfInBounds_toArray, List.set_cons_zero, List.set_cons_succ, List.getD_cons_zero, List.getD_cons_succ]; exact rfl)
          case h0 => exact fun p => ⟨Nat.le_refl _, hB, s, u, v⟩
          case hmore => exact fun p L w1 w2 ⟨hsz, hB, s, u, v⟩ hm => ⟨Nat.le_trans hsz hm.size, hB.trans (hm.mono (Nat.le_trans hW0 hsz)), s.below hm s.lt, u.below hm u.lt, v.below hm v.lt⟩
          case hs =>
            intro more
            refine stepV 0 rfl rfl (fun _ _ _ h => h) ?_ ?_
            · rintro p L w1 ⟨hsz, hB, s, u, v⟩ hk
              first | exact valR_row _ _ rfl _ rfl _ _ v _ Try.underlying31 rfl (by first | kernel_rfl | (rw [vfn_size]; kernel_rfl)) rfl | (have hc := v.cellIs (vfn_get _ (show 0 < 3 by omega)); go_simp; exact ⟨rfl, rfl⟩)
            refine stepD 1 rfl (fun p => rfl) (fun _ _ _ h => h) more ?_ ?_
            · rintro p L w1 ⟨hsz, hB, s, u, v⟩ hk
              go_simp
              refine (NO.out _).mono ?_
              rintro e w2 ⟨rfl, h2⟩
              first | exact ⟨rfl, h2⟩ | (subst h2; exact ⟨rfl, Below.refl _ _⟩)
            iterate 5 (refine stepV _ rfl rfl (fun _ _ _ h => h) (by intros; go_simp; exact ⟨rfl, rfl⟩) ?_)
            exact AllI.nil
          case hV0 => exact fun p q => AllI.nil
          case he =>
          clear hB s u v
          rintro p wrrrr ⟨hsz, hB, s, u, v⟩
          clear lt_s
          clear lt_u
          clear lt_v
          clear hsz hW0
          clear NO
          go_wp2_with (first
            | (refine wpList_max rfl rfl _ _ _ hmx.out rfl ?_))
          go_roundg (n - (M + 1))
          case rel => exact ⟨M + 1, by omega, rfl, rfl, s, hB⟩
          case measure => omega
        · obtain rfl : M = n := by omega
          have hdK2 : decide ((M : Int) < M) = false := decide_eq_false (by omega)
          have hdK2' : decide (M < M) = false := decide_eq_false (by omega)
          go_wp2_with (fail)
          go_roundg (M - (K + 1))
          case rel => exact ⟨K + 1, by omega, rfl, by rw [← hA0.out]; rfl, hB⟩
          case measure => omega
    · obtain rfl : K = n := by omega
      have hdK2 : decide ((K : Int) < K) = false := decide_eq_false (by omega)
      have hdK2' : decide (K < K) = false := decide_eq_false (by omega)
      go_wp2_with (fail)
      go_ret2
      exact ⟨by first | rfl | simp, hB⟩
end Go.Proofs.Ytkmelddejdikgaa
