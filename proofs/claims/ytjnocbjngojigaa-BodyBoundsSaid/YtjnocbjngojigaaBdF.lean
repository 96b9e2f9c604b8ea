/-
  Statements on bodies: bounds and balances, after an act.
-/
import Derived.Test.YtjnocbjngojigaaBdQ
set_option linter.unusedSimpArgs false
set_option linter.unusedVariables false
namespace Go.Proofs.Ytjnocbjngojigaa
open Go.RowKit PM Dt
set_option maxRecDepth 100000 in
set_option maxHeartbeats 4000000 in
theorem cbnd_any (q0 d0 ch0 : Nat → Int) (X : BSt) (lo b : Nat) (w : World) (ho : bod lo b w X) (k0 : BI X) : Calls Try.prog 27 #[.pointer (some ⟨b, 0, none⟩), .agg (qfn q0), .agg (vfn d0), .agg (vfn ch0)] w fun e w' => e = .returned (.bool true) ∧ Below w.heap.size w w' := by
  have MO := Lib.hid (fun w (h : bod lo b w X) => bmom_any X lo b w h k0.q k0.s)
  have TO := Lib.hid (fun w (h : bod lo b w X) => btotal_any X lo b w h)
  have AT := Lib.hid (fun w (h : bod lo b w X) => battitude_any X lo b w h)
  have VA := Lib.hid (fun w => qvalid_any X.Q w k0.q)
  rw [k0.v] at VA
  have BL := Lib.hid (fun i (hi : i < 3) => momG_bd k0.q k0.v k0.t k0.s hi)
  have BT := Lib.hid (allB_bd k0.t)
  clear k0
  have E : momG X.Q X.T X.h = momF X := rfl
  rw [E] at BL
  clear E
  generalize momF X = Lm at *
  go_enter Try.func27, Try.ntmps27
  go_upto_region 1 with (fail)
  have q : blk (((w.alloc (.cells (qfn q0) 23)).alloc (.cells (vfn d0) 25)).alloc (.cells (vfn ch0) 25)) w.heap.size (qfn q0) 23 := ((blk.new _ _ _).alloc _).alloc _
  have d : blk (((w.alloc (.cells (qfn q0) 23)).alloc (.cells (vfn d0) 25)).alloc (.cells (vfn ch0) 25)) (w.heap.size + 1) (vfn d0) 25 := (blk.new' (by simp)).alloc _
  have ch : blk (((w.alloc (.cells (qfn q0) 23)).alloc (.cells (vfn d0) 25)).alloc (.cells (vfn ch0) 25)) (w.heap.size + 2) (vfn ch0) 25 := blk.new' (by simp)
  have hB : Below w.heap.size w (((w.alloc (.cells (qfn q0) 23)).alloc (.cells (vfn d0) 25)).alloc (.cells (vfn ch0) 25)) := by go_grown
  generalize (((w.alloc (.cells (qfn q0) 23)).alloc (.cells (vfn d0) 25)).alloc (.cells (vfn ch0) 25)) = w0 at *
  have o := ho.below hB ho.lt
  clear ho
  have lt_o := o.lt
  have hW0 : w.heap.size ≤ w0.heap.size := by have := hB.size; first | exact this | simpa using this
  apply wp_region_Q 8 [0, 1, 3, 7, 15, 31, 63, 127] [4, 5] [_, _, _, _, (fun p => .pointer (some ⟨p 4, 0, none⟩)), (fun p => .pointer (some ⟨p 5, 0, none⟩)), (fun _ => undef), (fun _ => undef)] (fun p L w' => w0.heap.size ≤ w'.heap.size ∧ Below w.heap.size w w' ∧ bod lo b w' (X) ∧ (L 4 = true → w0.heap.size ≤ p 4 ∧ blk w' (p 4) (bif L 6 then (vfn Lm) else (vfn fun _ => 0)) 25) ∧ (L 5 = true → w0.heap.size ≤ p 5 ∧ blk w' (p 5) (bif L 7 then (vfn X.T) else (vfn fun _ => 0)) 25) ∧ (L 4 = true → L 5 = true → p 4 ≠ p 5)) _ [(0, 12), (1, 13), (2, 14), (3, 15), (4, 9), (5, 10)] [0, 1, 2, 3, 4, 5, 6, 7]
  case hn => rfl
  case hB => kernel_rfl
  case hds => kernel_rfl
  case hA => (intro p; simp only [putsD, Act.put, List.setIfInBounds_toArray, List.set_cons_zero, List.set_cons_succ, List.getD_cons_zero, List.getD_cons_succ]; exact rfl)
  case h0 => exact fun p => ⟨Nat.le_refl _, hB, o, fun h => absurd h (by decide), fun h => absurd h (by decide), fun h => absurd h (by decide)⟩
  case hmore => exact fun p L w1 w2 ⟨hsz, hB, o, h_l, h_h, hne_l_h⟩ hm => ⟨Nat.le_trans hsz hm.size, hB.trans (hm.mono (Nat.le_trans hW0 hsz)), o.below hm o.lt, fun hl => ⟨(h_l hl).1, (h_l hl).2.below hm (h_l hl).2.lt⟩, fun hl => ⟨(h_h hl).1, (h_h hl).2.below hm (h_h hl).2.lt⟩, hne_l_h⟩
  case hs =>
    intro more
    refine stepV 0 rfl rfl (fun _ _ _ h => h) ?_ ?_
    · intros; go_simp; exact ⟨rfl, rfl⟩
    refine stepD 1 rfl (fun p => rfl) (fun _ _ _ h => h) more ?_ ?_
    · rintro p L w1 ⟨hsz, hB, o, h_l, h_h, hne_l_h⟩ hk
      have L6 : L 6 = false := hk.2.2 6 rfl
      have L7 : L 7 = false := hk.2.2 7 rfl
      go_simp
      refine (MO.out _ o).mono ?_
      rintro e w2 ⟨rfl, h2⟩
      first | exact ⟨rfl, h2⟩ | (subst h2; exact ⟨rfl, Below.refl _ _⟩)
    refine stepV 2 rfl rfl (fun _ _ _ h => h) ?_ ?_
    · intros; go_simp; exact ⟨rfl, rfl⟩
    refine stepD 3 rfl (fun p => rfl) (fun _ _ _ h => h) more ?_ ?_
    · rintro p L w1 ⟨hsz, hB, o, h_l, h_h, hne_l_h⟩ hk
      have L6 : L 6 = false := hk.2.2 6 rfl
      have L7 : L 7 = false := hk.2.2 7 rfl
      go_simp
      refine (TO.out _ o).mono ?_
      rintro e w2 ⟨rfl, h2⟩
      first | exact ⟨rfl, h2⟩ | (subst h2; exact ⟨rfl, Below.refl _ _⟩)
    refine AllI.cons ?_ ?_
    · refine stepI_alloc 4 rfl (fun p => rfl) rfl (vfn fun _ => 0) 25 (fun p => rfl) ?_ ?_
      · intro p w1
        go_simp
        first | rfl | rw [zero_vec]
      rintro p L w1 ⟨hsz, hB, o, h_l, h_h, hne_l_h⟩ hk
      have L6 : L 6 = false := hk.2.2 6 rfl
      have L7 : L 7 = false := hk.2.2 7 rfl
      refine ⟨Nat.le_trans hsz (by simp), hB.alloc (Nat.le_trans (by first | exact hW0 | (have := hB.size; simp at this ⊢; omega)) hsz) _, o.alloc _, fun _ => ⟨hsz, ?_⟩, fun hl => absurd hl (by rw [show upL L 4 5 = false from hk.2.2 5 rfl]; decide), fun _ hl => absurd hl (by rw [show upL L 4 5 = false from hk.2.2 5 rfl]; decide)⟩
      rw [show upL L 4 6 = false from L6]
      exact blk.new _ _ _
    refine AllI.cons ?_ ?_
    · refine stepI_alloc 5 rfl (fun p => rfl) rfl (vfn fun _ => 0) 25 (fun p => rfl) ?_ ?_
      · intro p w1
        go_simp
        first | rfl | rw [zero_vec]
      rintro p L w1 ⟨hsz, hB, o, h_l, h_h, hne_l_h⟩ hk
      have L6 : L 6 = false := hk.2.2 6 rfl
      have L7 : L 7 = false := hk.2.2 7 rfl
      refine ⟨Nat.le_trans hsz (by simp), hB.alloc (Nat.le_trans (by first | exact hW0 | (have := hB.size; simp at this ⊢; omega)) hsz) _, o.alloc _, fun hl => ⟨(h_l hl).1, (h_l hl).2.alloc _⟩, fun _ => ⟨hsz, ?_⟩, fun hl _ => Nat.ne_of_lt (h_l hl).2.lt⟩
      rw [show upL L 5 7 = false from L7]
      exact blk.new _ _ _
    refine AllI.cons ?_ ?_
    · refine stepI_store 6 rfl (fun p => rfl) (fun p => rfl) _ _ _ rfl (fun p => p 4) 0 (fun p => rfl) (fun p => (vfn Lm)) (fun p => rfl) (fun p => (vfn fun _ => 0)) (fun p => (vfn Lm)) 25 (fun p => over_v _ _) (fun p => by first | (rw [vfn_size, vfn_size]; decide) | simp [vfn_size, vfn_size]) (fun p => by rw [vfn_size]; kernel_rfl) (fun p => vfn_one _) ?_ ?_
      · rintro p L w1 ⟨hsz, hB, o, h_l, h_h, hne_l_h⟩ hk
        have L6 : L 6 = false := hk.1
        have L7 : L 7 = false := hk.2.2 7 rfl
        have hh := (h_l (hk.2.1 4 rfl)).2
        rw [L6] at hh
        try simp only [cond_true, cond_false] at hh
        exact hh
      · rintro p L w1 ⟨hsz, hB, o, h_l, h_h, hne_l_h⟩ hk
        have L6 : L 6 = false := hk.1
        have L7 : L 7 = false := hk.2.2 7 rfl
        skip
        have hp := h_l (hk.2.1 4 rfl)
        refine ⟨(by simpa using hsz), Below.setRow hB (by first | exact Nat.le_trans hW0 hp.1 | exact ge_l | omega | (have := hB.size; simp at this ⊢; omega)) _, o.rowOther (.inr (Nat.lt_of_lt_of_le lt_o hp.1)) _, fun _ => ⟨hp.1, ?_⟩, fun hl => ⟨(h_h hl).1, (h_h hl).2.rowOther (Ne.symm (hne_l_h (hk.2.1 4 rfl) hl)) _⟩, hne_l_h⟩
        rw [show upL L 6 6 = true from rfl]
        exact hp.2.row _
    refine AllI.cons ?_ ?_
    · refine stepI_store 7 rfl (fun p => rfl) (fun p => rfl) _ _ _ rfl (fun p => p 5) 0 (fun p => rfl) (fun p => (vfn X.T)) (fun p => rfl) (fun p => (vfn fun _ => 0)) (fun p => (vfn X.T)) 25 (fun p => over_v _ _) (fun p => by first | (rw [vfn_size, vfn_size]; decide) | simp [vfn_size, vfn_size]) (fun p => by rw [vfn_size]; kernel_rfl) (fun p => vfn_one _) ?_ ?_
      · rintro p L w1 ⟨hsz, hB, o, h_l, h_h, hne_l_h⟩ hk
        have L6 : L 6 = true := hk.2.1 6 rfl
        have L7 : L 7 = false := hk.1
        have hh := (h_h (hk.2.1 5 rfl)).2
        rw [L7] at hh
        try simp only [cond_true, cond_false] at hh
        exact hh
      · rintro p L w1 ⟨hsz, hB, o, h_l, h_h, hne_l_h⟩ hk
        have L6 : L 6 = true := hk.2.1 6 rfl
        have L7 : L 7 = false := hk.1
        skip
        have hp := h_h (hk.2.1 5 rfl)
        refine ⟨(by simpa using hsz), Below.setRow hB (by first | exact Nat.le_trans hW0 hp.1 | exact ge_h | omega | (have := hB.size; simp at this ⊢; omega)) _, o.rowOther (.inr (Nat.lt_of_lt_of_le lt_o hp.1)) _, fun hl => ⟨(h_l hl).1, (h_l hl).2.rowOther (hne_l_h hl (hk.2.1 5 rfl)) _⟩, fun _ => ⟨hp.1, ?_⟩, hne_l_h⟩
        rw [show upL L 7 7 = true from rfl]
        exact hp.2.row _
    exact AllI.nil
  case hV0 =>
    intro p q
    refine AllI.cons ?_ ?_
    · skip
      iterate 8 (refine AllI.cons (by first | exact .inl rfl | (refine .inr ?_; simp only [List.getD_cons_zero, List.getD_cons_succ]; done) | exact .inr rfl) ?_)
      exact AllI.nil
    refine AllI.cons ?_ ?_
    · skip
      iterate 8 (refine AllI.cons (by first | exact .inl rfl | (refine .inr ?_; simp only [List.getD_cons_zero, List.getD_cons_succ]; done) | exact .inr rfl) ?_)
      exact AllI.nil
    exact AllI.nil
  case he =>
  clear hB o
  rintro p w0r ⟨hsz, hB, o, h_l, h_h, hne_l_h⟩
  obtain ⟨le_l, l⟩ := h_l rfl
  clear h_l
  obtain ⟨le_h, h⟩ := h_h rfl
  clear h_h
  have ne_l_h : p 4 ≠ p 5 := hne_l_h rfl rfl
  clear hne_l_h
  replace l : blk w0r (p 4) (vfn Lm) 25 := l
  replace h : blk w0r (p 5) (vfn X.T) 25 := h
  have ne_o_l : b ≠ p 4 := Nat.ne_of_lt (Nat.lt_of_lt_of_le lt_o le_l)
  have ge_l : w.heap.size ≤ p 4 := Nat.le_trans hW0 le_l
  have out_l : b < p 4 := Nat.lt_of_lt_of_le lt_o le_l
  have ne_o_h : b ≠ p 5 := Nat.ne_of_lt (Nat.lt_of_lt_of_le lt_o le_h)
  have ge_h : w.heap.size ≤ p 5 := Nat.le_trans hW0 le_h
  have out_h : b < p 5 := Nat.lt_of_lt_of_le lt_o le_h
  generalize p 4 = l_b at *
  generalize p 5 = h_b at *
  clear lt_o
  clear hsz hW0
  go_wp2_with (fail)
  go_loopg [11] 3 (fun g_ iv wr => ∃ k : Nat, g_ + k = 3 ∧ iv = .int .i64 k ∧ bod lo b wr (X) ∧ blk wr l_b (vfn Lm) 25 ∧ blk wr h_b (vfn X.T) 25 ∧ Below w.heap.size w wr)
  case atStart => exact ⟨0, rfl, rfl, o, l, h, hB⟩
  case round =>
    clear o l h hB
    obtain ⟨k, hk, rfl, o, l, h, hB⟩ := hrel
    by_cases hkn : k < 3
    · have hdk : decide ((k : Int) < 3) = true := decide_eq_true (by omega)
      have hdk' : decide (k < 3) = true := decide_eq_true (by omega)
      have hk3 : (k : Int) < 3 := by omega
      have hw3 : IntKind.i64.wrap ((k : Int) + 1) = ((k + 1 : Nat) : Int) := by rw [IntKind.wrap_i64]; omega
      have HL := BL.out k hkn
      have HT := BT.out.1 k hkn
      have a1 : decide (Lm k < -34603010) = false := decide_eq_false (by omega)
      have a2 : decide (34603010 < Lm k) = false := decide_eq_false (by omega)
      have a3 : decide (X.T k < -1048576) = false := decide_eq_false (by omega)
      have a4 : decide (1048576 < X.T k) = false := decide_eq_false (by omega)
      clear HL HT
      have cl : wr.cell? ⟨l_b, k, none⟩ = some (.int .i64 (Lm k)) := l.cellIs (vfn_get _ hkn)
      have ch : wr.cell? ⟨h_b, k, none⟩ = some (.int .i64 (X.T k)) := h.cellIs (vfn_get _ hkn)
      go_wp2_with (fail)
      go_roundg (3 - (k + 1))
      case rel =>
        exact ⟨k + 1, by omega, rfl, o, l, h, hB⟩
      case measure => omega
    · obtain rfl : k = 3 := by omega
      obtain ⟨b3, bv⟩ := BT.out
      have b0 := b3 0 (by omega)
      have b1 := b3 1 (by omega)
      have b2 := b3 2 (by omega)
      have q0 := (bmul (P := 1048576) (R := 1048576) b0.1 b0.2 b0.1 b0.2)
      have q1 := (bmul (P := 1048576) (R := 1048576) b1.1 b1.2 b1.1 b1.2)
      have q2 := (bmul (P := 1048576) (R := 1048576) b2.1 b2.2 b2.1 b2.2)
      have e0 : IntKind.i64.wrap (X.T 0 * X.T 0) = X.T 0 * X.T 0 := by rw [IntKind.wrap_i64]; omega
      have e1 : IntKind.i64.wrap (X.T 1 * X.T 1) = X.T 1 * X.T 1 := by rw [IntKind.wrap_i64]; omega
      have e2 : IntKind.i64.wrap (X.T 2 * X.T 2) = X.T 2 * X.T 2 := by rw [IntKind.wrap_i64]; omega
      have e3 : IntKind.i64.wrap (X.T 0 * X.T 0 + X.T 1 * X.T 1) = X.T 0 * X.T 0 + X.T 1 * X.T 1 := by rw [IntKind.wrap_i64]; omega
      have e4 : IntKind.i64.wrap (X.T 0 * X.T 0 + X.T 1 * X.T 1 + X.T 2 * X.T 2) = vv X.T := by rw [IntKind.wrap_i64]; unfold vv; omega
      have e5 : decide (vv X.T ≤ 1099511627776) = true := decide_eq_true (by omega)
      clear b3 bv b0 b1 b2 q0 q1 q2 BT BL
      go_upto_region 7 with (fail)
      have lt_o := o.lt
      have lt_l := l.lt
      have lt_h := h.lt
      have hW0 : w.heap.size ≤ wr.heap.size := by have := hB.size; first | exact this | simpa using this
      apply wp_region_Q 24 [0, 1, 3, 7, 15, 31, 63, 127, 255, 511, 1023, 2047, 4095, 8191, 16383, 32767, 65535, 131071, 262143, 524287, 1048575, 2097151, 4194303, 8388607] [] [_, _, _, _, _, _, _, _, _, _, _, _, _, _, _, _, _, _, _, _, _, _, _, _] (fun p L w' => wr.heap.size ≤ w'.heap.size ∧ Below w.heap.size w w' ∧ bod lo b w' (X) ∧ blk w' l_b (vfn Lm) 25 ∧ blk w' h_b (vfn X.T) 25) _ [(0, 42), (1, 43), (2, 44), (3, 45), (4, 46), (5, 47), (6, 48), (7, 49), (8, 50), (9, 51), (10, 52), (11, 53), (12, 54), (13, 55), (14, 56), (15, 57), (16, 58), (17, 59), (18, 60), (19, 61), (20, 62), (21, 63), (22, 64), (23, 8)] [0, 1, 2, 3, 4, 5, 6, 7, 8, 9, 10, 11, 12, 13, 14, 15, 16, 17, 18, 19, 20, 21, 22, 23]
      case hn => rfl
      case hB => kernel_rfl
      case hds => kernel_rfl
      case hA => (intro p; simp only [putsD, Act.put, List.setIfInBounds_toArray, List.set_cons_zero, List.set_cons_succ, List.getD_cons_zero, List.getD_cons_succ]; exact rfl)
      case h0 => exact fun p => ⟨Nat.le_refl _, hB, o, l, h⟩
      case hmore => exact fun p L w1 w2 ⟨hsz, hB, o, l, h⟩ hm => ⟨Nat.le_trans hsz hm.size, hB.trans (hm.mono (Nat.le_trans hW0 hsz)), o.below hm o.lt, l.below hm l.lt, h.below hm h.lt⟩
      case hs =>
        intro more
        refine stepV 0 rfl rfl (fun _ _ _ h => h) ?_ ?_
        · intros; go_simp; exact ⟨rfl, rfl⟩
        refine stepD 1 rfl (fun p => rfl) (fun _ _ _ h => h) more ?_ ?_
        · rintro p L w1 ⟨hsz, hB, o, l, h⟩ hk
          go_simp
          refine (AT.out _ o).mono ?_
          rintro e w2 ⟨rfl, h2⟩
          first | exact ⟨rfl, h2⟩ | (subst h2; exact ⟨rfl, Below.refl _ _⟩)
        refine stepD 2 rfl (fun p => rfl) (fun _ _ _ h => h) more ?_ ?_
        · rintro p L w1 ⟨hsz, hB, o, l, h⟩ hk
          go_simp
          refine (VA.out _).mono ?_
          rintro e w2 ⟨rfl, h2⟩
          first | exact ⟨rfl, h2⟩ | (subst h2; exact ⟨rfl, Below.refl _ _⟩)
        refine stepV 3 rfl rfl (fun _ _ _ h => h) ?_ ?_
        · intros; go_simp; exact ⟨rfl, rfl⟩
        refine stepVg 4 rfl (fun p => (by first | rfl | (simp [Region.wanted, yielded]; done))) (fun _ _ _ h => h) ?_ ?_
        · intros; go_simp; exact ⟨rfl, rfl⟩
        refine stepVg 5 rfl (fun p => (by first | rfl | (simp [Region.wanted, yielded]; done))) (fun _ _ _ h => h) ?_ ?_
        · rintro p L w1 ⟨hsz, hB, o, l, h⟩ hk
          have hc : w1.cell? ⟨h_b, 0, none⟩ = some (.int .i64 (X.T 0)) := h.cellIs (vfn_get _ (by omega))
          go_simp
          exact ⟨rfl, rfl⟩
        refine stepVg 6 rfl (fun p => (by first | rfl | (simp [Region.wanted, yielded]; done))) (fun _ _ _ h => h) ?_ ?_
        · intros; go_simp; exact ⟨rfl, rfl⟩
        refine stepVg 7 rfl (fun p => (by first | rfl | (simp [Region.wanted, yielded]; done))) (fun _ _ _ h => h) ?_ ?_
        · rintro p L w1 ⟨hsz, hB, o, l, h⟩ hk
          have hc : w1.cell? ⟨h_b, 0, none⟩ = some (.int .i64 (X.T 0)) := h.cellIs (vfn_get _ (by omega))
          go_simp
          exact ⟨rfl, rfl⟩
        refine stepVg 8 rfl (fun p => (by first | rfl | (simp [Region.wanted, yielded]; done))) (fun _ _ _ h => h) ?_ ?_
        · intros; go_simp; exact ⟨rfl, rfl⟩
        refine stepVg 9 rfl (fun p => (by first | rfl | (simp [Region.wanted, yielded]; done))) (fun _ _ _ h => h) ?_ ?_
        · intros; go_simp; exact ⟨rfl, rfl⟩
        refine stepVg 10 rfl (fun p => (by first | rfl | (simp [Region.wanted, yielded]; done))) (fun _ _ _ h => h) ?_ ?_
        · rintro p L w1 ⟨hsz, hB, o, l, h⟩ hk
          have hc : w1.cell? ⟨h_b, 1, none⟩ = some (.int .i64 (X.T 1)) := h.cellIs (vfn_get _ (by omega))
          go_simp
          exact ⟨rfl, rfl⟩
        refine stepVg 11 rfl (fun p => (by first | rfl | (simp [Region.wanted, yielded]; done))) (fun _ _ _ h => h) ?_ ?_
        · intros; go_simp; exact ⟨rfl, rfl⟩
        refine stepVg 12 rfl (fun p => (by first | rfl | (simp [Region.wanted, yielded]; done))) (fun _ _ _ h => h) ?_ ?_
        · rintro p L w1 ⟨hsz, hB, o, l, h⟩ hk
          have hc : w1.cell? ⟨h_b, 1, none⟩ = some (.int .i64 (X.T 1)) := h.cellIs (vfn_get _ (by omega))
          go_simp
          exact ⟨rfl, rfl⟩
        refine stepVg 13 rfl (fun p => (by first | rfl | (simp [Region.wanted, yielded]; done))) (fun _ _ _ h => h) ?_ ?_
        · intros; go_simp; exact ⟨rfl, rfl⟩
        refine stepVg 14 rfl (fun p => (by first | rfl | (simp [Region.wanted, yielded]; done))) (fun _ _ _ h => h) ?_ ?_
        · intros; go_simp; exact ⟨rfl, rfl⟩
        refine stepVg 15 rfl (fun p => (by first | rfl | (simp [Region.wanted, yielded]; done))) (fun _ _ _ h => h) ?_ ?_
        · intros; go_simp; exact ⟨rfl, rfl⟩
        refine stepVg 16 rfl (fun p => (by first | rfl | (simp [Region.wanted, yielded]; done))) (fun _ _ _ h => h) ?_ ?_
        · rintro p L w1 ⟨hsz, hB, o, l, h⟩ hk
          have hc : w1.cell? ⟨h_b, 2, none⟩ = some (.int .i64 (X.T 2)) := h.cellIs (vfn_get _ (by omega))
          go_simp
          exact ⟨rfl, rfl⟩
        refine stepVg 17 rfl (fun p => (by first | rfl | (simp [Region.wanted, yielded]; done))) (fun _ _ _ h => h) ?_ ?_
        · intros; go_simp; exact ⟨rfl, rfl⟩
        refine stepVg 18 rfl (fun p => (by first | rfl | (simp [Region.wanted, yielded]; done))) (fun _ _ _ h => h) ?_ ?_
        · rintro p L w1 ⟨hsz, hB, o, l, h⟩ hk
          have hc : w1.cell? ⟨h_b, 2, none⟩ = some (.int .i64 (X.T 2)) := h.cellIs (vfn_get _ (by omega))
          go_simp
          exact ⟨rfl, rfl⟩
        refine stepVg 19 rfl (fun p => (by first | rfl | (simp [Region.wanted, yielded]; done))) (fun _ _ _ h => h) ?_ ?_
        · intros; go_simp; exact ⟨rfl, rfl⟩
        refine stepVg 20 rfl (fun p => (by first | rfl | (simp [Region.wanted, yielded]; done))) (fun _ _ _ h => h) ?_ ?_
        · intros; go_simp; exact ⟨rfl, rfl⟩
        refine stepVg 21 rfl (fun p => (by first | rfl | (simp [Region.wanted, yielded]; done))) (fun _ _ _ h => h) ?_ ?_
        · intros; go_simp; exact ⟨rfl, rfl⟩
        refine stepV 22 rfl rfl (fun _ _ _ h => h) ?_ ?_
        · intros; go_simp; exact ⟨rfl, rfl⟩
        refine stepV 23 rfl rfl (fun _ _ _ h => h) ?_ ?_
        · intros; go_simp; exact ⟨rfl, rfl⟩
        exact AllI.nil
      case hV0 => exact fun p q => AllI.nil
      case he =>
      clear hB o l h
      rintro p wrr ⟨hsz, hB, o, l, h⟩
      clear lt_o
      clear lt_l
      clear lt_h
      clear hsz hW0
      go_wp2_with (fail)
      go_ret
      exact ⟨rfl, hB⟩
set_option maxRecDepth 100000 in
set_option maxHeartbeats 8000000 in
theorem cbal_any (q0 d0 ch0 : Nat → Int) (X : BSt) (lo b : Nat) (w : World) (ho : bod lo b w X) (k0 : BI X) (hs : vaddE d0 ch0 = 0 ∧ vfn (vaddF d0 ch0) = vfn X.T) : Calls Try.prog 38 #[.pointer (some ⟨b, 0, none⟩), .agg (qfn q0), .agg (vfn d0), .agg (vfn ch0)] w fun e w' => e = .returned (.bool true) ∧ Below w.heap.size w w' := by
  have MO := Lib.hid (fun w (h : bod lo b w X) => bmom_any X lo b w h k0.q k0.s)
  have TO := Lib.hid (fun w (h : bod lo b w X) => btotal_any X lo b w h)
  have AT := Lib.hid (fun w (h : bod lo b w X) => battitude_any X lo b w h)
  have SP := Lib.hid (fun w (h : bod lo b w X) => bspeeds_any X lo b w h)
  have AD := Lib.hid (fun w => vadd_any d0 ch0 w)
  rw [hs.1, hs.2] at AD
  have BA := Lib.hid (fun w => qback_any X.Q X.T w k0.q)
  have SE := Lib.hid (fun w (h : bod lo b w X) => bsee_any X lo b X.T w h k0.q)
  obtain ⟨zE, hm⟩ := momG_eq k0.q k0.v k0.t k0.s
  rw [zE] at BA SE
  have E1 := vec_eq_self X.T
  have E2 := vec_eq_self (qbackF X.Q X.T)
  have f0 : IntKind.i64.wrap (momF X 0 + X.h 0) = momF X 0 + X.h 0 := by have := momG_bd k0.q k0.v k0.t k0.s (i := 0) (by omega); have := k0.s.b 0 (by omega); rw [IntKind.wrap_i64]; unfold momF; omega
  have g0 : IntKind.i64.wrap (momF X 0 + X.h 0 + X.h 3) = qbackF X.Q X.T 0 := by have := hm 0 (by omega); have h1 : momF X 0 = qbackF X.Q X.T 0 - (X.h 0 + X.h 3) := this.2; rw [IntKind.wrap_i64]; omega
  have f1 : IntKind.i64.wrap (momF X 1 + X.h 1) = momF X 1 + X.h 1 := by have := momG_bd k0.q k0.v k0.t k0.s (i := 1) (by omega); have := k0.s.b 1 (by omega); rw [IntKind.wrap_i64]; unfold momF; omega
  have g1 : IntKind.i64.wrap (momF X 1 + X.h 1 + X.h 3) = qbackF X.Q X.T 1 := by have := hm 1 (by omega); have h1 : momF X 1 = qbackF X.Q X.T 1 - (X.h 1 + X.h 3) := this.2; rw [IntKind.wrap_i64]; omega
  have f2 : IntKind.i64.wrap (momF X 2 + X.h 2) = momF X 2 + X.h 2 := by have := momG_bd k0.q k0.v k0.t k0.s (i := 2) (by omega); have := k0.s.b 2 (by omega); rw [IntKind.wrap_i64]; unfold momF; omega
  have g2 : IntKind.i64.wrap (momF X 2 + X.h 2 + X.h 3) = qbackF X.Q X.T 2 := by have := hm 2 (by omega); have h1 : momF X 2 = qbackF X.Q X.T 2 - (X.h 2 + X.h 3) := this.2; rw [IntKind.wrap_i64]; omega
  have E3 : ∀ w, (Op.equalIn 10000 25 (.agg (vfn (qbackF X.Q X.T))) (.agg #[.int .i64 (qbackF X.Q X.T 0), .int .i64 (qbackF X.Q X.T 1), .int .i64 (qbackF X.Q X.T 2)])).run Try.prog w = .ok true w := fun w => by rw [vfn_of]; exact E2 w
  clear hm zE k0 hs
  generalize momF X = Lm at *
  generalize qbackF X.Q X.T = Qb at *
  go_enter Try.func38, Try.ntmps38
  go_upto_region 1 with (fail)
  have q : blk (((w.alloc (.cells (qfn q0) 23)).alloc (.cells (vfn d0) 25)).alloc (.cells (vfn ch0) 25)) w.heap.size (qfn q0) 23 := ((blk.new _ _ _).alloc _).alloc _
  have d : blk (((w.alloc (.cells (qfn q0) 23)).alloc (.cells (vfn d0) 25)).alloc (.cells (vfn ch0) 25)) (w.heap.size + 1) (vfn d0) 25 := (blk.new' (by simp)).alloc _
  have ch : blk (((w.alloc (.cells (qfn q0) 23)).alloc (.cells (vfn d0) 25)).alloc (.cells (vfn ch0) 25)) (w.heap.size + 2) (vfn ch0) 25 := blk.new' (by simp)
  have hB : Below w.heap.size w (((w.alloc (.cells (qfn q0) 23)).alloc (.cells (vfn d0) 25)).alloc (.cells (vfn ch0) 25)) := by go_grown
  generalize (((w.alloc (.cells (qfn q0) 23)).alloc (.cells (vfn d0) 25)).alloc (.cells (vfn ch0) 25)) = w0 at *
  have o := ho.below hB ho.lt
  clear ho
  have lt_q := q.lt
  have lt_d := d.lt
  have lt_ch := ch.lt
  have lt_o := o.lt
  have hW0 : w.heap.size ≤ w0.heap.size := by have := hB.size; first | exact this | simpa using this
  apply wp_region_Q 9 [0, 1, 3, 7, 15, 31, 63, 127, 255] [6] [_, _, _, _, _, _, (fun p => .pointer (some ⟨p 6, 0, none⟩)), (fun _ => undef), _] (fun p L w' => w0.heap.size ≤ w'.heap.size ∧ Below w.heap.size w w' ∧ blk w' w.heap.size (qfn q0) 23 ∧ blk w' (w.heap.size + 1) (vfn d0) 25 ∧ blk w' (w.heap.size + 2) (vfn ch0) 25 ∧ bod lo b w' (X) ∧ (L 6 = true → w0.heap.size ≤ p 6 ∧ blk w' (p 6) (bif L 7 then (vfn X.T) else (vfn fun _ => 0)) 25)) _ [(0, 18), (1, 19), (2, 20), (3, 17), (4, 21), (5, 22), (6, 9), (8, 10)] [0, 1, 2, 3, 4, 5, 6, 7, 8]
  case hn => rfl
  case hB => kernel_rfl
  case hds => kernel_rfl
  case hA => (intro p; simp only [putsD, Act.put, List.setIfInBounds_toArray, List.set_cons_zero, List.set_cons_succ, List.getD_cons_zero, List.getD_cons_succ]; exact rfl)
  case h0 => exact fun p => ⟨Nat.le_refl _, hB, q, d, ch, o, fun h => absurd h (by decide)⟩
  case hmore => exact fun p L w1 w2 ⟨hsz, hB, q, d, ch, o, h_su⟩ hm => ⟨Nat.le_trans hsz hm.size, hB.trans (hm.mono (Nat.le_trans hW0 hsz)), q.below hm q.lt, d.below hm d.lt, ch.below hm ch.lt, o.below hm o.lt, fun hl => ⟨(h_su hl).1, (h_su hl).2.below hm (h_su hl).2.lt⟩⟩
  case hs =>
    intro more
    refine stepV 0 rfl rfl (fun _ _ _ h => h) ?_ ?_
    · rintro p L w1 ⟨hsz, hB, q, d, ch, o, h_su⟩ hk
      have L7 : L 7 = false := hk.2.2 7 rfl
      first | exact valR_row _ _ rfl _ rfl _ _ d _ Try.underlying25 rfl (by first | kernel_rfl | (rw [vfn_size]; kernel_rfl)) rfl | (have hc := d.cellIs (vfn_get _ (show 0 < 3 by omega)); go_simp; exact ⟨rfl, rfl⟩)
    refine stepV 1 rfl rfl (fun _ _ _ h => h) ?_ ?_
    · rintro p L w1 ⟨hsz, hB, q, d, ch, o, h_su⟩ hk
      have L7 : L 7 = false := hk.2.2 7 rfl
      first | exact valR_row _ _ rfl _ rfl _ _ ch _ Try.underlying25 rfl (by first | kernel_rfl | (rw [vfn_size]; kernel_rfl)) rfl | (have hc := ch.cellIs (vfn_get _ (show 0 < 3 by omega)); go_simp; exact ⟨rfl, rfl⟩)
    refine stepD 2 rfl (fun p => rfl) (fun _ _ _ h => h) more ?_ ?_
    · rintro p L w1 ⟨hsz, hB, q, d, ch, o, h_su⟩ hk
      go_simp
      refine (AD.out _).mono ?_
      rintro e w2 ⟨rfl, h2⟩
      first | exact ⟨rfl, h2⟩ | (subst h2; exact ⟨rfl, Below.refl _ _⟩)
    refine stepV 3 rfl rfl (fun _ _ _ h => h) ?_ ?_
    · intros; go_simp; exact ⟨rfl, rfl⟩
    refine stepV 4 rfl rfl (fun _ _ _ h => h) ?_ ?_
    · intros; go_simp; exact ⟨rfl, rfl⟩
    refine stepV 5 rfl rfl (fun _ _ _ h => h) ?_ ?_
    · intros; go_simp; exact ⟨rfl, rfl⟩
    refine AllI.cons ?_ ?_
    · refine stepI_alloc 6 rfl (fun p => rfl) rfl (vfn fun _ => 0) 25 (fun p => rfl) ?_ ?_
      · intro p w1
        go_simp
        first | rfl | rw [zero_vec]
      rintro p L w1 ⟨hsz, hB, q, d, ch, o, h_su⟩ hk
      have L7 : L 7 = false := hk.2.2 7 rfl
      refine ⟨Nat.le_trans hsz (by simp), hB.alloc (Nat.le_trans (by first | exact hW0 | (have := hB.size; simp at this ⊢; omega)) hsz) _, q.alloc _, d.alloc _, ch.alloc _, o.alloc _, fun _ => ⟨hsz, ?_⟩⟩
      rw [show upL L 6 7 = false from L7]
      exact blk.new _ _ _
    refine AllI.cons ?_ ?_
    · refine stepI_store 7 rfl (fun p => rfl) (fun p => rfl) _ _ _ rfl (fun p => p 6) 0 (fun p => rfl) (fun p => (vfn X.T)) (fun p => rfl) (fun p => (vfn fun _ => 0)) (fun p => (vfn X.T)) 25 (fun p => over_v _ _) (fun p => by first | (rw [vfn_size, vfn_size]; decide) | simp [vfn_size, vfn_size]) (fun p => by rw [vfn_size]; kernel_rfl) (fun p => vfn_one _) ?_ ?_
      · rintro p L w1 ⟨hsz, hB, q, d, ch, o, h_su⟩ hk
        have L7 : L 7 = false := hk.1
        have hh := (h_su (hk.2.1 6 rfl)).2
        rw [L7] at hh
        try simp only [cond_true, cond_false] at hh
        exact hh
      · rintro p L w1 ⟨hsz, hB, q, d, ch, o, h_su⟩ hk
        have L7 : L 7 = false := hk.1
        skip
        have hp := h_su (hk.2.1 6 rfl)
        refine ⟨(by simpa using hsz), Below.setRow hB (by first | exact Nat.le_trans hW0 hp.1 | exact ge_su | omega | (have := hB.size; simp at this ⊢; omega)) _, q.rowOther (by first | exact Nat.ne_of_lt (Nat.lt_of_lt_of_le lt_q hp.1) | omega) _, d.rowOther (by first | exact Nat.ne_of_lt (Nat.lt_of_lt_of_le lt_d hp.1) | omega) _, ch.rowOther (by first | exact Nat.ne_of_lt (Nat.lt_of_lt_of_le lt_ch hp.1) | omega) _, o.rowOther (.inr (Nat.lt_of_lt_of_le lt_o hp.1)) _, fun _ => ⟨hp.1, ?_⟩⟩
        rw [show upL L 7 7 = true from rfl]
        exact hp.2.row _
    refine stepV 8 rfl rfl (fun _ _ _ h => h) ?_ ?_
    · intros; go_simp; exact ⟨rfl, rfl⟩
    exact AllI.nil
  case hV0 =>
    intro p q
    refine AllI.cons ?_ ?_
    · skip
      iterate 9 (refine AllI.cons (by first | exact .inl rfl | (refine .inr ?_; simp only [List.getD_cons_zero, List.getD_cons_succ]; done) | exact .inr rfl) ?_)
      exact AllI.nil
    exact AllI.nil
  case he =>
  clear hB q d ch o
  rintro p w0r ⟨hsz, hB, q, d, ch, o, h_su⟩
  obtain ⟨le_su, su⟩ := h_su rfl
  clear h_su
  replace su : blk w0r (p 6) (vfn X.T) 25 := su
  have ne_q_su : w.heap.size ≠ p 6 := Nat.ne_of_lt (Nat.lt_of_lt_of_le lt_q le_su)
  have ne_d_su : (w.heap.size + 1) ≠ p 6 := Nat.ne_of_lt (Nat.lt_of_lt_of_le lt_d le_su)
  have ne_ch_su : (w.heap.size + 2) ≠ p 6 := Nat.ne_of_lt (Nat.lt_of_lt_of_le lt_ch le_su)
  have ne_o_su : b ≠ p 6 := Nat.ne_of_lt (Nat.lt_of_lt_of_le lt_o le_su)
  have ge_su : w.heap.size ≤ p 6 := Nat.le_trans hW0 le_su
  have out_su : b < p 6 := Nat.lt_of_lt_of_le lt_o le_su
  generalize p 6 = su_b at *
  clear lt_q
  clear lt_d
  clear lt_ch
  clear lt_o
  clear hsz hW0
  go_upto_region 2 with (fail)
  have lt_o := o.lt
  have lt_su := su.lt
  have hW0 : w.heap.size ≤ w0r.heap.size := by have := hB.size; first | exact this | simpa using this
  apply wp_region_Q 4 [0, 1, 3, 7] [2] [_, _, (fun p => .pointer (some ⟨p 2, 0, none⟩)), (fun _ => undef)] (fun p L w' => w0r.heap.size ≤ w'.heap.size ∧ Below w.heap.size w w' ∧ bod lo b w' (X) ∧ blk w' su_b (vfn X.T) 25 ∧ (L 2 = true → w0r.heap.size ≤ p 2 ∧ blk w' (p 2) (bif L 3 then (qfn X.h) else (qfn fun _ => 0)) 22)) _ [(0, 23), (1, 24), (2, 11)] [0, 1, 2, 3]
  case hn => rfl
  case hB => kernel_rfl
  case hds => kernel_rfl
  case hA => (intro p; simp only [putsD, Act.put, List.setIfInBounds_toArray, List.set_cons_zero, List.set_cons_succ, List.getD_cons_zero, List.getD_cons_succ]; exact rfl)
  case h0 => exact fun p => ⟨Nat.le_refl _, hB, o, su, fun h => absurd h (by decide)⟩
  case hmore => exact fun p L w1 w2 ⟨hsz, hB, o, su, h_h⟩ hm => ⟨Nat.le_trans hsz hm.size, hB.trans (hm.mono (Nat.le_trans hW0 hsz)), o.below hm o.lt, su.below hm su.lt, fun hl => ⟨(h_h hl).1, (h_h hl).2.below hm (h_h hl).2.lt⟩⟩
  case hs =>
    intro more
    refine stepV 0 rfl rfl (fun _ _ _ h => h) ?_ ?_
    · intros; go_simp; exact ⟨rfl, rfl⟩
    refine stepD 1 rfl (fun p => rfl) (fun _ _ _ h => h) more ?_ ?_
    · rintro p L w1 ⟨hsz, hB, o, su, h_h⟩ hk
      have L3 : L 3 = false := hk.2.2 3 rfl
      go_simp
      refine (SP.out _ o).mono ?_
      rintro e w2 ⟨rfl, h2⟩
      first | exact ⟨rfl, h2⟩ | (subst h2; exact ⟨rfl, Below.refl _ _⟩)
    refine AllI.cons ?_ ?_
    · refine stepI_alloc 2 rfl (fun p => rfl) rfl (qfn fun _ => 0) 22 (fun p => rfl) ?_ ?_
      · intro p w1
        go_simp
        first | rfl | rw [zero_spd]
      rintro p L w1 ⟨hsz, hB, o, su, h_h⟩ hk
      have L3 : L 3 = false := hk.2.2 3 rfl
      refine ⟨Nat.le_trans hsz (by simp), hB.alloc (Nat.le_trans (by first | exact hW0 | (have := hB.size; simp at this ⊢; omega)) hsz) _, o.alloc _, su.alloc _, fun _ => ⟨hsz, ?_⟩⟩
      rw [show upL L 2 3 = false from L3]
      exact blk.new _ _ _
    refine AllI.cons ?_ ?_
    · refine stepI_store 3 rfl (fun p => rfl) (fun p => rfl) _ _ _ rfl (fun p => p 2) 0 (fun p => rfl) (fun p => (qfn X.h)) (fun p => rfl) (fun p => (qfn fun _ => 0)) (fun p => (qfn X.h)) 22 (fun p => over_qq _ _) (fun p => by first | (rw [qfn_size, qfn_size]; decide) | simp [qfn_size, qfn_size]) (fun p => by rw [qfn_size]; kernel_rfl) (fun p => qfn_one _) ?_ ?_
      · rintro p L w1 ⟨hsz, hB, o, su, h_h⟩ hk
        have L3 : L 3 = false := hk.1
        have hh := (h_h (hk.2.1 2 rfl)).2
        rw [L3] at hh
        try simp only [cond_true, cond_false] at hh
        exact hh
      · rintro p L w1 ⟨hsz, hB, o, su, h_h⟩ hk
        have L3 : L 3 = false := hk.1
        skip
        have hp := h_h (hk.2.1 2 rfl)
        refine ⟨(by simpa using hsz), Below.setRow hB (by first | exact Nat.le_trans hW0 hp.1 | exact ge_h | omega | (have := hB.size; simp at this ⊢; omega)) _, o.rowOther (.inr (Nat.lt_of_lt_of_le lt_o hp.1)) _, su.rowOther (by first | exact Nat.ne_of_lt (Nat.lt_of_lt_of_le lt_su hp.1) | omega) _, fun _ => ⟨hp.1, ?_⟩⟩
        rw [show upL L 3 3 = true from rfl]
        exact hp.2.row _
    exact AllI.nil
  case hV0 =>
    intro p q
    refine AllI.cons ?_ ?_
    · skip
      iterate 4 (refine AllI.cons (by first | exact .inl rfl | (refine .inr ?_; simp only [List.getD_cons_zero, List.getD_cons_succ]; done) | exact .inr rfl) ?_)
      exact AllI.nil
    exact AllI.nil
  case he =>
  clear hB o su
  rintro p w0rr ⟨hsz, hB, o, su, h_h⟩
  obtain ⟨le_h, h⟩ := h_h rfl
  clear h_h
  replace h : blk w0rr (p 2) (qfn X.h) 22 := h
  have ne_o_h : b ≠ p 2 := Nat.ne_of_lt (Nat.lt_of_lt_of_le lt_o le_h)
  have ne_su_h : su_b ≠ p 2 := Nat.ne_of_lt (Nat.lt_of_lt_of_le lt_su le_h)
  have ge_h : w.heap.size ≤ p 2 := Nat.le_trans hW0 le_h
  have out_h : b < p 2 := Nat.lt_of_lt_of_le lt_o le_h
  generalize p 2 = h_b at *
  clear lt_o
  clear lt_su
  clear hsz hW0
  go_upto_region 3 with (fail)
  have lt_o := o.lt
  have lt_su := su.lt
  have lt_h := h.lt
  have hW0 : w.heap.size ≤ w0rr.heap.size := by have := hB.size; first | exact this | simpa using this
  apply wp_region_Q 4 [0, 1, 3, 7] [2] [_, _, (fun p => .pointer (some ⟨p 2, 0, none⟩)), (fun _ => undef)] (fun p L w' => w0rr.heap.size ≤ w'.heap.size ∧ Below w.heap.size w w' ∧ bod lo b w' (X) ∧ blk w' su_b (vfn X.T) 25 ∧ blk w' h_b (qfn X.h) 22 ∧ (L 2 = true → w0rr.heap.size ≤ p 2 ∧ blk w' (p 2) (bif L 3 then (vfn Lm) else (vfn fun _ => 0)) 25)) _ [(0, 25), (1, 26), (2, 12)] [0, 1, 2, 3]
  case hn => rfl
  case hB => kernel_rfl
  case hds => kernel_rfl
  case hA => (intro p; simp only [putsD, Act.put, List.setIfInBounds_toArray, List.set_cons_zero, List.set_cons_succ, List.getD_cons_zero, List.getD_cons_succ]; exact rfl)
  case h0 => exact fun p => ⟨Nat.le_refl _, hB, o, su, h, fun h => absurd h (by decide)⟩
  case hmore => exact fun p L w1 w2 ⟨hsz, hB, o, su, h, h_l⟩ hm => ⟨Nat.le_trans hsz hm.size, hB.trans (hm.mono (Nat.le_trans hW0 hsz)), o.below hm o.lt, su.below hm su.lt, h.below hm h.lt, fun hl => ⟨(h_l hl).1, (h_l hl).2.below hm (h_l hl).2.lt⟩⟩
  case hs =>
    intro more
    refine stepV 0 rfl rfl (fun _ _ _ h => h) ?_ ?_
    · intros; go_simp; exact ⟨rfl, rfl⟩
    refine stepD 1 rfl (fun p => rfl) (fun _ _ _ h => h) more ?_ ?_
    · rintro p L w1 ⟨hsz, hB, o, su, h, h_l⟩ hk
      have L3 : L 3 = false := hk.2.2 3 rfl
      go_simp
      refine (MO.out _ o).mono ?_
      rintro e w2 ⟨rfl, h2⟩
      first | exact ⟨rfl, h2⟩ | (subst h2; exact ⟨rfl, Below.refl _ _⟩)
    refine AllI.cons ?_ ?_
    · refine stepI_alloc 2 rfl (fun p => rfl) rfl (vfn fun _ => 0) 25 (fun p => rfl) ?_ ?_
      · intro p w1
        go_simp
        first | rfl | rw [zero_vec]
      rintro p L w1 ⟨hsz, hB, o, su, h, h_l⟩ hk
      have L3 : L 3 = false := hk.2.2 3 rfl
      refine ⟨Nat.le_trans hsz (by simp), hB.alloc (Nat.le_trans (by first | exact hW0 | (have := hB.size; simp at this ⊢; omega)) hsz) _, o.alloc _, su.alloc _, h.alloc _, fun _ => ⟨hsz, ?_⟩⟩
      rw [show upL L 2 3 = false from L3]
      exact blk.new _ _ _
    refine AllI.cons ?_ ?_
    · refine stepI_store 3 rfl (fun p => rfl) (fun p => rfl) _ _ _ rfl (fun p => p 2) 0 (fun p => rfl) (fun p => (vfn Lm)) (fun p => rfl) (fun p => (vfn fun _ => 0)) (fun p => (vfn Lm)) 25 (fun p => over_v _ _) (fun p => by first | (rw [vfn_size, vfn_size]; decide) | simp [vfn_size, vfn_size]) (fun p => by rw [vfn_size]; kernel_rfl) (fun p => vfn_one _) ?_ ?_
      · rintro p L w1 ⟨hsz, hB, o, su, h, h_l⟩ hk
        have L3 : L 3 = false := hk.1
        have hh := (h_l (hk.2.1 2 rfl)).2
        rw [L3] at hh
        try simp only [cond_true, cond_false] at hh
        exact hh
      · rintro p L w1 ⟨hsz, hB, o, su, h, h_l⟩ hk
        have L3 : L 3 = false := hk.1
        skip
        have hp := h_l (hk.2.1 2 rfl)
        refine ⟨(by simpa using hsz), Below.setRow hB (by first | exact Nat.le_trans hW0 hp.1 | exact ge_l | omega | (have := hB.size; simp at this ⊢; omega)) _, o.rowOther (.inr (Nat.lt_of_lt_of_le lt_o hp.1)) _, su.rowOther (by first | exact Nat.ne_of_lt (Nat.lt_of_lt_of_le lt_su hp.1) | omega) _, h.rowOther (by first | exact Nat.ne_of_lt (Nat.lt_of_lt_of_le lt_h hp.1) | omega) _, fun _ => ⟨hp.1, ?_⟩⟩
        rw [show upL L 3 3 = true from rfl]
        exact hp.2.row _
    exact AllI.nil
  case hV0 =>
    intro p q
    refine AllI.cons ?_ ?_
    · skip
      iterate 4 (refine AllI.cons (by first | exact .inl rfl | (refine .inr ?_; simp only [List.getD_cons_zero, List.getD_cons_succ]; done) | exact .inr rfl) ?_)
      exact AllI.nil
    exact AllI.nil
  case he =>
  clear hB o su h
  rintro p w0rrr ⟨hsz, hB, o, su, h, h_l⟩
  obtain ⟨le_l, l⟩ := h_l rfl
  clear h_l
  replace l : blk w0rrr (p 2) (vfn Lm) 25 := l
  have ne_o_l : b ≠ p 2 := Nat.ne_of_lt (Nat.lt_of_lt_of_le lt_o le_l)
  have ne_su_l : su_b ≠ p 2 := Nat.ne_of_lt (Nat.lt_of_lt_of_le lt_su le_l)
  have ne_h_l : h_b ≠ p 2 := Nat.ne_of_lt (Nat.lt_of_lt_of_le lt_h le_l)
  have ge_l : w.heap.size ≤ p 2 := Nat.le_trans hW0 le_l
  have out_l : b < p 2 := Nat.lt_of_lt_of_le lt_o le_l
  generalize p 2 = l_b at *
  clear lt_o
  clear lt_su
  clear lt_h
  clear hsz hW0
  go_upto_region 4 with (fail)
  have lt_o := o.lt
  have lt_su := su.lt
  have lt_h := h.lt
  have lt_l := l.lt
  have hW0 : w.heap.size ≤ w0rrr.heap.size := by have := hB.size; first | exact this | simpa using this
  apply wp_region_Q 11 [0, 1, 3, 7, 15, 31, 63, 127, 255, 511, 1023] [8] [_, _, _, _, _, _, _, _, (fun p => .pointer (some ⟨p 8, 0, none⟩)), (fun _ => undef), _] (fun p L w' => w0rrr.heap.size ≤ w'.heap.size ∧ Below w.heap.size w w' ∧ bod lo b w' (X) ∧ blk w' su_b (vfn X.T) 25 ∧ blk w' h_b (qfn X.h) 22 ∧ blk w' l_b (vfn Lm) 25 ∧ (L 8 = true → w0rrr.heap.size ≤ p 8 ∧ blk w' (p 8) (bif L 9 then (vfn Qb) else (vfn fun _ => 0)) 25)) _ [(0, 28), (1, 29), (2, 30), (3, 31), (4, 32), (5, 27), (6, 33), (7, 34), (8, 13), (10, 14)] [0, 1, 2, 3, 4, 5, 6, 7, 8, 9, 10]
  case hn => rfl
  case hB => kernel_rfl
  case hds => kernel_rfl
  case hA => (intro p; simp only [putsD, Act.put, List.setIfInBounds_toArray, List.set_cons_zero, List.set_cons_succ, List.getD_cons_zero, List.getD_cons_succ]; exact rfl)
  case h0 => exact fun p => ⟨Nat.le_refl _, hB, o, su, h, l, fun h => absurd h (by decide)⟩
  case hmore => exact fun p L w1 w2 ⟨hsz, hB, o, su, h, l, h_al⟩ hm => ⟨Nat.le_trans hsz hm.size, hB.trans (hm.mono (Nat.le_trans hW0 hsz)), o.below hm o.lt, su.below hm su.lt, h.below hm h.lt, l.below hm l.lt, fun hl => ⟨(h_al hl).1, (h_al hl).2.below hm (h_al hl).2.lt⟩⟩
  case hs =>
    intro more
    refine stepV 0 rfl rfl (fun _ _ _ h => h) ?_ ?_
    · intros; go_simp; exact ⟨rfl, rfl⟩
    refine stepD 1 rfl (fun p => rfl) (fun _ _ _ h => h) more ?_ ?_
    · rintro p L w1 ⟨hsz, hB, o, su, h, l, h_al⟩ hk
      have L9 : L 9 = false := hk.2.2 9 rfl
      go_simp
      refine (AT.out _ o).mono ?_
      rintro e w2 ⟨rfl, h2⟩
      first | exact ⟨rfl, h2⟩ | (subst h2; exact ⟨rfl, Below.refl _ _⟩)
    refine stepV 2 rfl rfl (fun _ _ _ h => h) ?_ ?_
    · intros; go_simp; exact ⟨rfl, rfl⟩
    refine stepD 3 rfl (fun p => rfl) (fun _ _ _ h => h) more ?_ ?_
    · rintro p L w1 ⟨hsz, hB, o, su, h, l, h_al⟩ hk
      have L9 : L 9 = false := hk.2.2 9 rfl
      go_simp
      refine (TO.out _ o).mono ?_
      rintro e w2 ⟨rfl, h2⟩
      first | exact ⟨rfl, h2⟩ | (subst h2; exact ⟨rfl, Below.refl _ _⟩)
    refine stepD 4 rfl (fun p => rfl) (fun _ _ _ h => h) more ?_ ?_
    · rintro p L w1 ⟨hsz, hB, o, su, h, l, h_al⟩ hk
      go_simp
      refine (BA.out _).mono ?_
      rintro e w2 ⟨rfl, h2⟩
      first | exact ⟨rfl, h2⟩ | (subst h2; exact ⟨rfl, Below.refl _ _⟩)
    refine stepV 5 rfl rfl (fun _ _ _ h => h) ?_ ?_
    · intros; go_simp; exact ⟨rfl, rfl⟩
    refine stepV 6 rfl rfl (fun _ _ _ h => h) ?_ ?_
    · intros; go_simp; exact ⟨rfl, rfl⟩
    refine stepV 7 rfl rfl (fun _ _ _ h => h) ?_ ?_
    · intros; go_simp; exact ⟨rfl, rfl⟩
    refine AllI.cons ?_ ?_
    · refine stepI_alloc 8 rfl (fun p => rfl) rfl (vfn fun _ => 0) 25 (fun p => rfl) ?_ ?_
      · intro p w1
        go_simp
        first | rfl | rw [zero_vec]
      rintro p L w1 ⟨hsz, hB, o, su, h, l, h_al⟩ hk
      have L9 : L 9 = false := hk.2.2 9 rfl
      refine ⟨Nat.le_trans hsz (by simp), hB.alloc (Nat.le_trans (by first | exact hW0 | (have := hB.size; simp at this ⊢; omega)) hsz) _, o.alloc _, su.alloc _, h.alloc _, l.alloc _, fun _ => ⟨hsz, ?_⟩⟩
      rw [show upL L 8 9 = false from L9]
      exact blk.new _ _ _
    refine AllI.cons ?_ ?_
    · refine stepI_store 9 rfl (fun p => rfl) (fun p => rfl) _ _ _ rfl (fun p => p 8) 0 (fun p => rfl) (fun p => (vfn Qb)) (fun p => rfl) (fun p => (vfn fun _ => 0)) (fun p => (vfn Qb)) 25 (fun p => over_v _ _) (fun p => by first | (rw [vfn_size, vfn_size]; decide) | simp [vfn_size, vfn_size]) (fun p => by rw [vfn_size]; kernel_rfl) (fun p => vfn_one _) ?_ ?_
      · rintro p L w1 ⟨hsz, hB, o, su, h, l, h_al⟩ hk
        have L9 : L 9 = false := hk.1
        have hh := (h_al (hk.2.1 8 rfl)).2
        rw [L9] at hh
        try simp only [cond_true, cond_false] at hh
        exact hh
      · rintro p L w1 ⟨hsz, hB, o, su, h, l, h_al⟩ hk
        have L9 : L 9 = false := hk.1
        skip
        have hp := h_al (hk.2.1 8 rfl)
        refine ⟨(by simpa using hsz), Below.setRow hB (by first | exact Nat.le_trans hW0 hp.1 | exact ge_al | omega | (have := hB.size; simp at this ⊢; omega)) _, o.rowOther (.inr (Nat.lt_of_lt_of_le lt_o hp.1)) _, su.rowOther (by first | exact Nat.ne_of_lt (Nat.lt_of_lt_of_le lt_su hp.1) | omega) _, h.rowOther (by first | exact Nat.ne_of_lt (Nat.lt_of_lt_of_le lt_h hp.1) | omega) _, l.rowOther (by first | exact Nat.ne_of_lt (Nat.lt_of_lt_of_le lt_l hp.1) | omega) _, fun _ => ⟨hp.1, ?_⟩⟩
        rw [show upL L 9 9 = true from rfl]
        exact hp.2.row _
    refine stepV 10 rfl rfl (fun _ _ _ h => h) ?_ ?_
    · intros; go_simp; exact ⟨rfl, rfl⟩
    exact AllI.nil
  case hV0 =>
    intro p q
    refine AllI.cons ?_ ?_
    · skip
      iterate 11 (refine AllI.cons (by first | exact .inl rfl | (refine .inr ?_; simp only [List.getD_cons_zero, List.getD_cons_succ]; done) | exact .inr rfl) ?_)
      exact AllI.nil
    exact AllI.nil
  case he =>
  clear hB o su h l
  rintro p w0rrrr ⟨hsz, hB, o, su, h, l, h_al⟩
  obtain ⟨le_al, al⟩ := h_al rfl
  clear h_al
  replace al : blk w0rrrr (p 8) (vfn Qb) 25 := al
  have ne_o_al : b ≠ p 8 := Nat.ne_of_lt (Nat.lt_of_lt_of_le lt_o le_al)
  have ne_su_al : su_b ≠ p 8 := Nat.ne_of_lt (Nat.lt_of_lt_of_le lt_su le_al)
  have ne_h_al : h_b ≠ p 8 := Nat.ne_of_lt (Nat.lt_of_lt_of_le lt_h le_al)
  have ne_l_al : l_b ≠ p 8 := Nat.ne_of_lt (Nat.lt_of_lt_of_le lt_l le_al)
  have ge_al : w.heap.size ≤ p 8 := Nat.le_trans hW0 le_al
  have out_al : b < p 8 := Nat.lt_of_lt_of_le lt_o le_al
  generalize p 8 = al_b at *
  clear lt_o
  clear lt_su
  clear lt_h
  clear lt_l
  clear hsz hW0
  go_upto_region 5 with (fail)
  have lt_o := o.lt
  have lt_su := su.lt
  have lt_h := h.lt
  have lt_l := l.lt
  have lt_al := al.lt
  have hW0 : w.heap.size ≤ w0rrrr.heap.size := by have := hB.size; first | exact this | simpa using this
  apply wp_region_Q 10 [0, 1, 3, 7, 15, 31, 63, 127, 255, 511] [7] [_, _, _, _, _, _, _, (fun p => .pointer (some ⟨p 7, 0, none⟩)), (fun _ => undef), _] (fun p L w' => w0rrrr.heap.size ≤ w'.heap.size ∧ Below w.heap.size w w' ∧ bod lo b w' (X) ∧ blk w' su_b (vfn X.T) 25 ∧ blk w' h_b (qfn X.h) 22 ∧ blk w' l_b (vfn Lm) 25 ∧ blk w' al_b (vfn Qb) 25 ∧ (L 7 = true → w0rrrr.heap.size ≤ p 7 ∧ blk w' (p 7) (bif L 8 then (vfn Qb) else (vfn fun _ => 0)) 25)) _ [(0, 36), (1, 37), (2, 38), (3, 39), (4, 35), (5, 40), (6, 41), (7, 15), (9, 16)] [0, 1, 2, 3, 4, 5, 6, 7, 8, 9]
  case hn => rfl
  case hB => kernel_rfl
  case hds => kernel_rfl
  case hA => (intro p; simp only [putsD, Act.put, List.setIfInBounds_toArray, List.set_cons_zero, List.set_cons_succ, List.getD_cons_zero, List.getD_cons_succ]; exact rfl)
  case h0 => exact fun p => ⟨Nat.le_refl _, hB, o, su, h, l, al, fun h => absurd h (by decide)⟩
  case hmore => exact fun p L w1 w2 ⟨hsz, hB, o, su, h, l, al, h_sn⟩ hm => ⟨Nat.le_trans hsz hm.size, hB.trans (hm.mono (Nat.le_trans hW0 hsz)), o.below hm o.lt, su.below hm su.lt, h.below hm h.lt, l.below hm l.lt, al.below hm al.lt, fun hl => ⟨(h_sn hl).1, (h_sn hl).2.below hm (h_sn hl).2.lt⟩⟩
  case hs =>
    intro more
    refine stepV 0 rfl rfl (fun _ _ _ h => h) ?_ ?_
    · intros; go_simp; exact ⟨rfl, rfl⟩
    refine stepV 1 rfl rfl (fun _ _ _ h => h) ?_ ?_
    · intros; go_simp; exact ⟨rfl, rfl⟩
    refine stepD 2 rfl (fun p => rfl) (fun _ _ _ h => h) more ?_ ?_
    · rintro p L w1 ⟨hsz, hB, o, su, h, l, al, h_sn⟩ hk
      have L8 : L 8 = false := hk.2.2 8 rfl
      go_simp
      refine (TO.out _ o).mono ?_
      rintro e w2 ⟨rfl, h2⟩
      first | exact ⟨rfl, h2⟩ | (subst h2; exact ⟨rfl, Below.refl _ _⟩)
    refine stepD 3 rfl (fun p => rfl) (fun _ _ _ h => h) more ?_ ?_
    · rintro p L w1 ⟨hsz, hB, o, su, h, l, al, h_sn⟩ hk
      have L8 : L 8 = false := hk.2.2 8 rfl
      go_simp
      refine (SE.out _ o).mono ?_
      rintro e w2 ⟨rfl, h2⟩
      first | exact ⟨rfl, h2⟩ | (subst h2; exact ⟨rfl, Below.refl _ _⟩)
    refine stepV 4 rfl rfl (fun _ _ _ h => h) ?_ ?_
    · intros; go_simp; exact ⟨rfl, rfl⟩
    refine stepV 5 rfl rfl (fun _ _ _ h => h) ?_ ?_
    · intros; go_simp; exact ⟨rfl, rfl⟩
    refine stepV 6 rfl rfl (fun _ _ _ h => h) ?_ ?_
    · intros; go_simp; exact ⟨rfl, rfl⟩
    refine AllI.cons ?_ ?_
    · refine stepI_alloc 7 rfl (fun p => rfl) rfl (vfn fun _ => 0) 25 (fun p => rfl) ?_ ?_
      · intro p w1
        go_simp
        first | rfl | rw [zero_vec]
      rintro p L w1 ⟨hsz, hB, o, su, h, l, al, h_sn⟩ hk
      have L8 : L 8 = false := hk.2.2 8 rfl
      refine ⟨Nat.le_trans hsz (by simp), hB.alloc (Nat.le_trans (by first | exact hW0 | (have := hB.size; simp at this ⊢; omega)) hsz) _, o.alloc _, su.alloc _, h.alloc _, l.alloc _, al.alloc _, fun _ => ⟨hsz, ?_⟩⟩
      rw [show upL L 7 8 = false from L8]
      exact blk.new _ _ _
    refine AllI.cons ?_ ?_
    · refine stepI_store 8 rfl (fun p => rfl) (fun p => rfl) _ _ _ rfl (fun p => p 7) 0 (fun p => rfl) (fun p => (vfn Qb)) (fun p => rfl) (fun p => (vfn fun _ => 0)) (fun p => (vfn Qb)) 25 (fun p => over_v _ _) (fun p => by first | (rw [vfn_size, vfn_size]; decide) | simp [vfn_size, vfn_size]) (fun p => by rw [vfn_size]; kernel_rfl) (fun p => vfn_one _) ?_ ?_
      · rintro p L w1 ⟨hsz, hB, o, su, h, l, al, h_sn⟩ hk
        have L8 : L 8 = false := hk.1
        have hh := (h_sn (hk.2.1 7 rfl)).2
        rw [L8] at hh
        try simp only [cond_true, cond_false] at hh
        exact hh
      · rintro p L w1 ⟨hsz, hB, o, su, h, l, al, h_sn⟩ hk
        have L8 : L 8 = false := hk.1
        skip
        have hp := h_sn (hk.2.1 7 rfl)
        refine ⟨(by simpa using hsz), Below.setRow hB (by first | exact Nat.le_trans hW0 hp.1 | exact ge_sn | omega | (have := hB.size; simp at this ⊢; omega)) _, o.rowOther (.inr (Nat.lt_of_lt_of_le lt_o hp.1)) _, su.rowOther (by first | exact Nat.ne_of_lt (Nat.lt_of_lt_of_le lt_su hp.1) | omega) _, h.rowOther (by first | exact Nat.ne_of_lt (Nat.lt_of_lt_of_le lt_h hp.1) | omega) _, l.rowOther (by first | exact Nat.ne_of_lt (Nat.lt_of_lt_of_le lt_l hp.1) | omega) _, al.rowOther (by first | exact Nat.ne_of_lt (Nat.lt_of_lt_of_le lt_al hp.1) | omega) _, fun _ => ⟨hp.1, ?_⟩⟩
        rw [show upL L 8 8 = true from rfl]
        exact hp.2.row _
    refine stepV 9 rfl rfl (fun _ _ _ h => h) ?_ ?_
    · intros; go_simp; exact ⟨rfl, rfl⟩
    exact AllI.nil
  case hV0 =>
    intro p q
    refine AllI.cons ?_ ?_
    · skip
      iterate 10 (refine AllI.cons (by first | exact .inl rfl | (refine .inr ?_; simp only [List.getD_cons_zero, List.getD_cons_succ]; done) | exact .inr rfl) ?_)
      exact AllI.nil
    exact AllI.nil
  case he =>
  clear hB o su h l al
  rintro p w0rrrrr ⟨hsz, hB, o, su, h, l, al, h_sn⟩
  obtain ⟨le_sn, sn⟩ := h_sn rfl
  clear h_sn
  replace sn : blk w0rrrrr (p 7) (vfn Qb) 25 := sn
  have ne_o_sn : b ≠ p 7 := Nat.ne_of_lt (Nat.lt_of_lt_of_le lt_o le_sn)
  have ne_su_sn : su_b ≠ p 7 := Nat.ne_of_lt (Nat.lt_of_lt_of_le lt_su le_sn)
  have ne_h_sn : h_b ≠ p 7 := Nat.ne_of_lt (Nat.lt_of_lt_of_le lt_h le_sn)
  have ne_l_sn : l_b ≠ p 7 := Nat.ne_of_lt (Nat.lt_of_lt_of_le lt_l le_sn)
  have ne_al_sn : al_b ≠ p 7 := Nat.ne_of_lt (Nat.lt_of_lt_of_le lt_al le_sn)
  have ge_sn : w.heap.size ≤ p 7 := Nat.le_trans hW0 le_sn
  have out_sn : b < p 7 := Nat.lt_of_lt_of_le lt_o le_sn
  generalize p 7 = sn_b at *
  clear lt_o
  clear lt_su
  clear lt_h
  clear lt_l
  clear lt_al
  clear hsz hW0
  clear MO AT SP AD BA SE
  go_upto_region 6 with (fail)
  have lt_o := o.lt
  have lt_su := su.lt
  have lt_h := h.lt
  have lt_l := l.lt
  have lt_al := al.lt
  have lt_sn := sn.lt
  have hW0 : w.heap.size ≤ w0rrrrr.heap.size := by have := hB.size; first | exact this | simpa using this
  apply wp_region_I 51 [0, 1, 3, 7, 7, 23, 63, 127, 255, 511, 1023, 2047, 4095, 8191, 16383, 32767, 65535, 131071, 131071, 524287, 1048575, 2097151, 4194303, 4194303, 12582911, 4194303, 37748735, 130023423, 4194303, 272629759, 1069547519, 4194303, 2151677951, 4194303, 8594128895, 32216449023, 4194303, 68723671039, 272734617599, 4194303, 549760008191, 4194303, 2199027449855, 8246341402623, 4194303, 17592190238719, 69818992558079, 140737484161023, 281474976710655, 562949953421311, 1125899906842623] [] [_, _, _, _, _, _, _, _, _, _, _, _, _, _, _, _, _, _, _, _, _, _, _, _, _, _, _, _, _, _, _, _, _, _, _, _, _, _, _, _, _, _, _, _, _, _, _, _, _, _, _] (fun p L w' => w0rrrrr.heap.size ≤ w'.heap.size ∧ Below w.heap.size w w' ∧ bod lo b w' (X) ∧ blk w' su_b (vfn X.T) 25 ∧ blk w' h_b (qfn X.h) 22 ∧ blk w' l_b (vfn Lm) 25 ∧ blk w' al_b (vfn Qb) 25 ∧ blk w' sn_b (vfn Qb) 25) _ [(0, 42), (1, 43), (2, 44), (3, 45), (4, 46), (5, 47), (6, 48), (7, 49), (8, 50), (9, 51), (10, 52), (11, 53), (12, 54), (13, 55), (14, 56), (15, 57), (16, 58), (17, 59), (18, 60), (19, 61), (20, 62), (21, 63), (22, 64), (23, 65), (24, 66), (25, 67), (26, 68), (27, 69), (28, 70), (29, 71), (30, 72), (31, 73), (32, 74), (33, 75), (34, 76), (35, 77), (36, 78), (37, 79), (38, 80), (39, 81), (40, 82), (41, 83), (42, 84), (43, 85), (44, 86), (45, 87), (46, 88), (47, 89), (48, 90), (49, 91), (50, 8)] [0, 1, 2, 3, 4, 5, 6, 7, 8, 9, 10, 11, 12, 13, 14, 15, 16, 17, 18, 19, 20, 21, 22, 23, 24, 25, 26, 27, 28, 29, 30, 31, 32, 33, 34, 35, 36, 37, 38, 39, 40, 41, 42, 43, 44, 45, 46, 47, 48, 49, 50]
  case hn => rfl
  case hm => kernel_rfl
  case hB => kernel_rfl
  case hds => kernel_rfl
  case hA => (intro p; simp only [putsD, Act.put, List.setIfInBounds_toArray, List.set_cons_zero, List.set_cons_succ, List.getD_cons_zero, List.getD_cons_succ]; exact rfl)
  case h0 => exact fun p => ⟨Nat.le_refl _, hB.drew, o.drew, su.drew, h.drew, l.drew, al.drew, sn.drew⟩
  case hmore => exact fun p L w1 w2 ⟨hsz, hB, o, su, h, l, al, sn⟩ hm => ⟨Nat.le_trans hsz hm.size, hB.trans (hm.mono (Nat.le_trans hW0 hsz)), o.below hm o.lt, su.below hm su.lt, h.below hm h.lt, l.below hm l.lt, al.below hm al.lt, sn.below hm sn.lt⟩
  case hs =>
    intro more
    refine stepV 0 rfl rfl (fun _ _ _ h => h) ?_ ?_
    · intros; go_simp; exact ⟨rfl, rfl⟩
    refine stepV 1 rfl rfl (fun _ _ _ h => h) ?_ ?_
    · intros; go_simp; exact ⟨rfl, rfl⟩
    refine stepV 2 rfl rfl (fun _ _ _ h => h) ?_ ?_
    · intros; go_simp; exact ⟨rfl, rfl⟩
    refine stepVg 3 rfl (fun p => (by first | rfl | (simp [Region.wanted, yielded]; done))) (fun _ _ _ h => h) ?_ ?_
    · rintro p L w1 ⟨hsz, hB, o, su, h, l, al, sn⟩ hk
      first | exact valR_row _ _ rfl _ rfl _ _ su _ Try.underlying25 rfl (by first | kernel_rfl | (rw [vfn_size]; kernel_rfl)) rfl | (have hc := su.cellIs (vfn_get _ (show 0 < 3 by omega)); go_simp; exact ⟨rfl, rfl⟩)
    refine stepVg 4 rfl (fun p => (by first | rfl | (simp [Region.wanted, yielded]; done))) (fun _ _ _ h => h) ?_ ?_
    · intros; go_simp; exact ⟨rfl, rfl⟩
    refine stepD 5 rfl (fun p => (by first | rfl | (simp [Region.wanted, yielded]; done))) (fun _ _ _ h => h) more ?_ ?_
    · rintro p L w1 ⟨hsz, hB, o, su, h, l, al, sn⟩ hk
      go_simp
      refine (TO.out _ o).mono ?_
      rintro e w2 ⟨rfl, h2⟩
      first | exact ⟨rfl, h2⟩ | (subst h2; exact ⟨rfl, Below.refl _ _⟩)
    refine stepVg 6 rfl (fun p => (by first | rfl | (simp [Region.wanted, yielded]; done))) (fun _ _ _ h => h) ?_ ?_
    · intros; go_simp; exact ⟨rfl, rfl⟩
    refine stepV 7 rfl rfl (fun _ _ _ h => h) ?_ ?_
    · intros; go_simp; exact ⟨rfl, rfl⟩
    refine stepV 8 rfl rfl (fun _ _ _ h => h) ?_ ?_
    · intros; go_simp; exact ⟨rfl, rfl⟩
    refine stepVg 9 rfl (fun p => (by first | rfl | (simp [Region.wanted, yielded]; done))) (fun _ _ _ h => h) ?_ ?_
    · intros; go_simp; exact ⟨rfl, rfl⟩
    refine stepVg 10 rfl (fun p => (by first | rfl | (simp [Region.wanted, yielded]; done))) (fun _ _ _ h => h) ?_ ?_
    · intros; go_simp; exact ⟨rfl, rfl⟩
    refine stepV 11 rfl rfl (fun _ _ _ h => h) ?_ ?_
    · intros; go_simp; exact ⟨rfl, rfl⟩
    refine stepV 12 rfl rfl (fun _ _ _ h => h) ?_ ?_
    · intros; go_simp; exact ⟨rfl, rfl⟩
    refine stepVg 13 rfl (fun p => (by first | rfl | (simp [Region.wanted, yielded]; done))) (fun _ _ _ h => h) ?_ ?_
    · intros; go_simp; exact ⟨rfl, rfl⟩
    refine stepVg 14 rfl (fun p => (by first | rfl | (simp [Region.wanted, yielded]; done))) (fun _ _ _ h => h) ?_ ?_
    · intros; go_simp; exact ⟨rfl, rfl⟩
    refine stepV 15 rfl rfl (fun _ _ _ h => h) ?_ ?_
    · intros; go_simp; exact ⟨rfl, rfl⟩
    refine stepV 16 rfl rfl (fun _ _ _ h => h) ?_ ?_
    · intros; go_simp; exact ⟨rfl, rfl⟩
    refine stepVg 17 rfl (fun p => (by first | rfl | (simp [Region.wanted, yielded]; done))) (fun _ _ _ h => h) ?_ ?_
    · rintro p L w1 ⟨hsz, hB, o, su, h, l, al, sn⟩ hk
      first | exact valR_row _ _ rfl _ rfl _ _ sn _ Try.underlying25 rfl (by first | kernel_rfl | (rw [vfn_size]; kernel_rfl)) rfl | (have hc := sn.cellIs (vfn_get _ (show 0 < 3 by omega)); go_simp; exact ⟨rfl, rfl⟩)
    refine stepVg 18 rfl (fun p => (by first | rfl | (simp [Region.wanted, yielded]; done))) (fun _ _ _ h => h) ?_ ?_
    · rintro p L w1 ⟨hsz, hB, o, su, h, l, al, sn⟩ hk
      first | exact valR_row _ _ rfl _ rfl _ _ al _ Try.underlying25 rfl (by first | kernel_rfl | (rw [vfn_size]; kernel_rfl)) rfl | (have hc := al.cellIs (vfn_get _ (show 0 < 3 by omega)); go_simp; exact ⟨rfl, rfl⟩)
    refine stepVg 19 rfl (fun p => (by first | rfl | (simp [Region.wanted, yielded]; done))) (fun _ _ _ h => h) ?_ ?_
    · intros; go_simp; exact ⟨rfl, rfl⟩
    refine stepV 20 rfl rfl (fun _ _ _ h => h) ?_ ?_
    · intros; go_simp; exact ⟨rfl, rfl⟩
    refine stepV 21 rfl rfl (fun _ _ _ h => h) ?_ ?_
    · intros; go_simp; exact ⟨rfl, rfl⟩
    refine stepVg 22 rfl (fun p => (by first | rfl | (simp [Region.wanted, yielded]; done))) (fun _ _ _ h => h) ?_ ?_
    · rintro p L w1 ⟨hsz, hB, o, su, h, l, al, sn⟩ hk
      first | exact valR_row _ _ rfl _ rfl _ _ al _ Try.underlying25 rfl (by first | kernel_rfl | (rw [vfn_size]; kernel_rfl)) rfl | (have hc := al.cellIs (vfn_get _ (show 0 < 3 by omega)); go_simp; exact ⟨rfl, rfl⟩)
    refine stepVg 23 rfl (fun p => (by first | rfl | (simp [Region.wanted, yielded]; done))) (fun _ _ _ h => h) ?_ ?_
    · intros; go_simp; exact ⟨rfl, rfl⟩
    refine stepVg 24 rfl (fun p => (by first | rfl | (simp [Region.wanted, yielded]; done))) (fun _ _ _ h => h) ?_ ?_
    · rintro p L w1 ⟨hsz, hB, o, su, h, l, al, sn⟩ hk
      have hc : w1.cell? ⟨l_b, 0, none⟩ = some (.int .i64 (Lm 0)) := l.cellIs (vfn_get _ (by omega))
      go_simp
      exact ⟨rfl, rfl⟩
    refine stepVg 25 rfl (fun p => (by first | rfl | (simp [Region.wanted, yielded]; done))) (fun _ _ _ h => h) ?_ ?_
    · intros; go_simp; exact ⟨rfl, rfl⟩
    refine stepVg 26 rfl (fun p => (by first | rfl | (simp [Region.wanted, yielded]; done))) (fun _ _ _ h => h) ?_ ?_
    · rintro p L w1 ⟨hsz, hB, o, su, h, l, al, sn⟩ hk
      have hc : w1.cell? ⟨h_b, 0, none⟩ = some (.int .i64 (X.h 0)) := h.cellIs (qfn_get _ (by omega))
      go_simp
      exact ⟨rfl, rfl⟩
    refine stepVg 27 rfl (fun p => (by first | rfl | (simp [Region.wanted, yielded]; done))) (fun _ _ _ h => h) ?_ ?_
    · intros; go_simp; exact ⟨rfl, rfl⟩
    refine stepVg 28 rfl (fun p => (by first | rfl | (simp [Region.wanted, yielded]; done))) (fun _ _ _ h => h) ?_ ?_
    · intros; go_simp; exact ⟨rfl, rfl⟩
    refine stepVg 29 rfl (fun p => (by first | rfl | (simp [Region.wanted, yielded]; done))) (fun _ _ _ h => h) ?_ ?_
    · rintro p L w1 ⟨hsz, hB, o, su, h, l, al, sn⟩ hk
      have hc : w1.cell? ⟨h_b, 3, none⟩ = some (.int .i64 (X.h 3)) := h.cellIs (qfn_get _ (by omega))
      go_simp
      exact ⟨rfl, rfl⟩
    refine stepVg 30 rfl (fun p => (by first | rfl | (simp [Region.wanted, yielded]; done))) (fun _ _ _ h => h) ?_ ?_
    · intros; go_simp; exact ⟨rfl, rfl⟩
    refine stepVg 31 rfl (fun p => (by first | rfl | (simp [Region.wanted, yielded]; done))) (fun _ _ _ h => h) ?_ ?_
    · intros; go_simp; exact ⟨rfl, rfl⟩
    refine stepVg 32 rfl (fun p => (by first | rfl | (simp [Region.wanted, yielded]; done))) (fun _ _ _ h => h) ?_ ?_
    · rintro p L w1 ⟨hsz, hB, o, su, h, l, al, sn⟩ hk
      have hc : w1.cell? ⟨l_b, 1, none⟩ = some (.int .i64 (Lm 1)) := l.cellIs (vfn_get _ (by omega))
      go_simp
      exact ⟨rfl, rfl⟩
    refine stepVg 33 rfl (fun p => (by first | rfl | (simp [Region.wanted, yielded]; done))) (fun _ _ _ h => h) ?_ ?_
    · intros; go_simp; exact ⟨rfl, rfl⟩
    refine stepVg 34 rfl (fun p => (by first | rfl | (simp [Region.wanted, yielded]; done))) (fun _ _ _ h => h) ?_ ?_
    · rintro p L w1 ⟨hsz, hB, o, su, h, l, al, sn⟩ hk
      have hc : w1.cell? ⟨h_b, 1, none⟩ = some (.int .i64 (X.h 1)) := h.cellIs (qfn_get _ (by omega))
      go_simp
      exact ⟨rfl, rfl⟩
    refine stepVg 35 rfl (fun p => (by first | rfl | (simp [Region.wanted, yielded]; done))) (fun _ _ _ h => h) ?_ ?_
    · intros; go_simp; exact ⟨rfl, rfl⟩
    refine stepVg 36 rfl (fun p => (by first | rfl | (simp [Region.wanted, yielded]; done))) (fun _ _ _ h => h) ?_ ?_
    · intros; go_simp; exact ⟨rfl, rfl⟩
    refine stepVg 37 rfl (fun p => (by first | rfl | (simp [Region.wanted, yielded]; done))) (fun _ _ _ h => h) ?_ ?_
    · rintro p L w1 ⟨hsz, hB, o, su, h, l, al, sn⟩ hk
      have hc : w1.cell? ⟨h_b, 3, none⟩ = some (.int .i64 (X.h 3)) := h.cellIs (qfn_get _ (by omega))
      go_simp
      exact ⟨rfl, rfl⟩
    refine stepVg 38 rfl (fun p => (by first | rfl | (simp [Region.wanted, yielded]; done))) (fun _ _ _ h => h) ?_ ?_
    · intros; go_simp; exact ⟨rfl, rfl⟩
    refine stepVg 39 rfl (fun p => (by first | rfl | (simp [Region.wanted, yielded]; done))) (fun _ _ _ h => h) ?_ ?_
    · intros; go_simp; exact ⟨rfl, rfl⟩
    refine stepVg 40 rfl (fun p => (by first | rfl | (simp [Region.wanted, yielded]; done))) (fun _ _ _ h => h) ?_ ?_
    · rintro p L w1 ⟨hsz, hB, o, su, h, l, al, sn⟩ hk
      have hc : w1.cell? ⟨l_b, 2, none⟩ = some (.int .i64 (Lm 2)) := l.cellIs (vfn_get _ (by omega))
      go_simp
      exact ⟨rfl, rfl⟩
    refine stepVg 41 rfl (fun p => (by first | rfl | (simp [Region.wanted, yielded]; done))) (fun _ _ _ h => h) ?_ ?_
    · intros; go_simp; exact ⟨rfl, rfl⟩
    refine stepVg 42 rfl (fun p => (by first | rfl | (simp [Region.wanted, yielded]; done))) (fun _ _ _ h => h) ?_ ?_
    · rintro p L w1 ⟨hsz, hB, o, su, h, l, al, sn⟩ hk
      have hc : w1.cell? ⟨h_b, 2, none⟩ = some (.int .i64 (X.h 2)) := h.cellIs (qfn_get _ (by omega))
      go_simp
      exact ⟨rfl, rfl⟩
    refine stepVg 43 rfl (fun p => (by first | rfl | (simp [Region.wanted, yielded]; done))) (fun _ _ _ h => h) ?_ ?_
    · intros; go_simp; exact ⟨rfl, rfl⟩
    refine stepVg 44 rfl (fun p => (by first | rfl | (simp [Region.wanted, yielded]; done))) (fun _ _ _ h => h) ?_ ?_
    · intros; go_simp; exact ⟨rfl, rfl⟩
    refine stepVg 45 rfl (fun p => (by first | rfl | (simp [Region.wanted, yielded]; done))) (fun _ _ _ h => h) ?_ ?_
    · rintro p L w1 ⟨hsz, hB, o, su, h, l, al, sn⟩ hk
      have hc : w1.cell? ⟨h_b, 3, none⟩ = some (.int .i64 (X.h 3)) := h.cellIs (qfn_get _ (by omega))
      go_simp
      exact ⟨rfl, rfl⟩
    refine stepVg 46 rfl (fun p => (by first | rfl | (simp [Region.wanted, yielded]; done))) (fun _ _ _ h => h) ?_ ?_
    · intros; go_simp; exact ⟨rfl, rfl⟩
    refine stepVg 47 rfl (fun p => (by first | rfl | (simp [Region.wanted, yielded]; done))) (fun _ _ _ h => h) ?_ ?_
    · intros; (try simp only [vfn, qfn]); go_simp; exact ⟨rfl, rfl⟩
    refine stepVg 48 rfl (fun p => (by first | rfl | (simp [Region.wanted, yielded]; done))) (fun _ _ _ h => h) ?_ ?_
    · intros; go_simp; exact ⟨rfl, rfl⟩
    refine stepV 49 rfl rfl (fun _ _ _ h => h) ?_ ?_
    · intros; go_simp; exact ⟨rfl, rfl⟩
    refine stepV 50 rfl rfl (fun _ _ _ h => h) ?_ ?_
    · intros; go_simp; exact ⟨rfl, rfl⟩
    exact AllI.nil
  case hV0 => exact fun p q => AllI.nil
  case he =>
  clear hB o su h l al sn
  rintro p w0rrrrrr ⟨hsz, hB, o, su, h, l, al, sn⟩
  clear lt_o
  clear lt_su
  clear lt_h
  clear lt_l
  clear lt_al
  clear lt_sn
  clear hsz hW0
  go_wp2_with (fail)
  go_ret
  exact ⟨rfl, hB⟩
end Go.Proofs.Ytjnocbjngojigaa
