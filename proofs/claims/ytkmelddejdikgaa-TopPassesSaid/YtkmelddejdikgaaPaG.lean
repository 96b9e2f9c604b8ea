/-
  Value and Feasible.
-/
import Derived.Test.YtkmelddejdikgaaPaA
import Derived.Test.YtkmelddejdikgaaPaF
set_option linter.unusedSimpArgs false
set_option linter.unusedVariables false
namespace Go.Proofs.Ytkmelddejdikgaa
open Go.RowKit PM Dt Pa
theorem Pli.below {B : Nat} {w w' : World} {a : Option Addr} {q : List Nat} (h : Pli w a q) (hb : Below B w w') (hB : w.heap.size ≤ B) : Pli w' a q := Els.below h hb hB
theorem sumF_take (L : Nat → Nat → Int) (f : Nat) : ∀ (q : List Nat) (j : Nat), j < q.length → sumF L f (q.take (j + 1)) = sumF L f (q.take j) + L (q.getD j 0) f
  | [], j, h => by simp at h
  | x :: q, 0, h => by simp [sumF]
  | x :: q, j + 1, h => by
    have := sumF_take L f q j (by simpa using h)
    simp only [List.take_succ_cons, sumF, List.getD_cons_succ] at this ⊢
    omega
theorem sumF_bd {n : Nat} {L : Nat → Nat → Int} (hW : WOk n L) : ∀ (q : List Nat), (∀ k, k < q.length → q.getD k 0 < n) → (0 ≤ sumF L 3 q ∧ sumF L 3 q ≤ 1099511627776 * q.length) ∧ 0 ≤ sumF L 4 q ∧ sumF L 4 q ≤ 1000 * q.length
  | [], _ => by simp [sumF]
  | x :: q, h => by
    have h1 := sumF_bd hW q (fun k hk => by have := h (k + 1) (by simpa using hk); simpa using this)
    have h0 : x < n := by simpa using h 0 (by simp)
    have h2 := hW.v x h0
    have h3 := hW.c x h0
    simp only [sumF, List.length_cons]
    omega
theorem take_in {n : Nat} {q : List Nat} (h : ∀ k, k < q.length → q.getD k 0 < n) (j : Nat) : ∀ k, k < (q.take j).length → (q.take j).getD k 0 < n := fun k hk => by
  have h1 : k < q.length := by simp at hk; omega
  have h2 := h k h1
  have h3 : k < j := by simp at hk; omega
  simpa [List.getD, List.getElem?_take, h3] using h2
theorem sumB {n : Nat} {L : Nat → Nat → Int} (hW : WOk n L) {q : List Nat} (h : ∀ k, k < q.length → q.getD k 0 < n) (hq : q.length ≤ 40) (j : Nat) : (0 ≤ sumF L 3 (q.take j) ∧ sumF L 3 (q.take j) ≤ 43980465111040) ∧ 0 ≤ sumF L 4 (q.take j) ∧ sumF L 4 (q.take j) ≤ 40000 := by
  have h1 := sumF_bd hW (q.take j) (take_in h j)
  have h2 : (q.take j).length ≤ 40 := by simp; omega
  omega
theorem all_snoc (p : Nat → Bool) (j : Nat) : (List.range (j + 1)).all p = ((List.range j).all p && p j) := by rw [List.range_succ, List.all_append]; simp
theorem all_no (p : Nat → Bool) {j m : Nat} (hj : j < m) (h : p j = false) : (List.range m).all p = false := by
  rw [List.all_eq_false]
  exact ⟨j, List.mem_range.2 hj, by rw [h]; decide⟩
theorem zero_ruc : (#[.int .i64 0, .int .i64 0, .int .i64 0] : Array Value) = ruc (0, 0, 0) := rfl
set_option maxRecDepth 100000 in
set_option maxHeartbeats 6000000 in
theorem value_any (L : Nat → Nat → Int) (a pa : Option Addr) (n c pc : Nat) (q : List Nat) (w : World) (el : Els w a n 5 (fun k => (wnc (L k)).toList)) (hW : WOk n L) (hn : n ≤ 40) (pl : Pli w pa q) (hq : q.length ≤ 40) (hi : ∀ k, k < q.length → q.getD k 0 < n) : Calls Try.prog 26 #[.slice a n c, .slice pa q.length pc] w fun e w' => e = .returned (.tuple #[.int .i64 (sumF L 3 q), .int .i64 0]) ∧ Below w.heap.size w w' := by
  have CH := Lib.hid (fun w1 x1 x2 => checked_ok L a pa n c pc q (0, 0, 0) w1 x1 hW hn rfl x2 hq hi)
  rw [← zero_ruc] at CH
  have SB := Lib.hid (fun j => (sumB hW hi hq j).1)
  have ST := Lib.hid (fun j => sumF_take L 3 q j)
  have hlast : sumF L 3 (q.take q.length) = sumF L 3 q := by rw [List.take_length]
  replace hlast := Lib.hid hlast
  replace el := Lib.hid el
  replace pl := Lib.hid pl
  replace hi := Lib.hid hi
  clear hW
  generalize hm : q.length = m at *
  replace hm := Lib.hid hm
  go_enter Try.func26, Try.ntmps26
  have hB : Below w.heap.size w w := Below.refl _ _
  go_wp2_with (first
    | (go_at_call 73; with_reducible refine (CH.out _ (el.out.below hB (Nat.le_refl _)) (pl.out.below hB (Nat.le_refl _))).mono ?_; rintro e w1 ⟨rfl, hb⟩; replace hB := hB.trans (hb.mono hB.size); clear hb))
  clear CH
  go_loopg [19, 7] m (fun g_ iv sv wr => ∃ j : Nat, g_ + j = m ∧ iv = .int .i64 j ∧ sv = .int .i64 (sumF L 3 (q.take j)) ∧ Below w.heap.size w wr)
  case atStart => exact ⟨0, by omega, rfl, rfl, hB⟩
  case round =>
    clear hB
    obtain ⟨j, hj, rfl, rfl, hB⟩ := hrel
    by_cases hjn : j < m
    · have hdj : decide ((j : Int) < m) = true := decide_eq_true (by omega)
      have hdj' : decide (j < m) = true := decide_eq_true hjn
      have hj3 : (j : Int) < m := by omega
      have hj0 : (0 : Int) ≤ j := by omega
      have hwj : IntKind.i64.wrap ((j : Int) + 1) = ((j + 1 : Nat) : Int) := by rw [IntKind.wrap_i64]; omega
      obtain ⟨eb, eo, rfl, hEl, hE⟩ := pl.out j (by rw [hm.out]; exact hjn)
      have hz := hi.out j hjn
      have hst := ST.out j hjn
      have b1 := SB.out j
      have b2 := SB.out (j + 1)
      replace hE : w.rangeAt eb (eo + j) [.int .i64 ((q.getD j 0 : Nat) : Int)] := by rw [Nat.mul_one] at hE; exact hE
      generalize q.getD j 0 = z at *
      obtain ⟨fb, fo, rfl, hFl, hF⟩ := el.out z hz
      replace hF : w.rangeAt fb (fo + z * 5) ((wnc (L z)).toList) := hF
      have hdz : decide ((z : Int) < n) = true := decide_eq_true (by omega)
      have hdz' : decide (z < n) = true := decide_eq_true hz
      have hz3 : (z : Int) < n := by omega
      have hz0 : (0 : Int) ≤ z := by omega
      generalize hwz : L z = wz at *
      clear hwz
      rw [hst] at b2
      generalize sumF L 3 (q.take j) = S at *
      have wS : IntKind.i64.wrap (S + wz 3) = S + wz 3 := by rw [IntKind.wrap_i64]; omega
      have cz : wr.cell? ⟨eb, eo + j, none⟩ = some (.int .i64 (z : Int)) := (range_below hE hB hEl) 0 _ rfl
      have cf : wr.cell? ⟨fb, fo + z * 5 + 3, none⟩ = some (.int .i64 (wz 3)) := (range_below hF hB hFl) 3 _ rfl
      clear b1 b2
      replace hst := Lib.hid hst
      go_wp2_with (fail)
      go_roundg (m - (j + 1))
      case rel => exact ⟨j + 1, by omega, rfl, by rw [hst.out], hB⟩
      case measure => omega
    · obtain rfl : m = j := by omega
      have hdj : decide ((m : Int) < m) = false := decide_eq_false (by omega)
      rw [hlast.out]
      go_wp2_with (fail)
      refine bodyPost_ret (results_tmp2 rfl _ _ _) rfl ?_
      exact ⟨rfl, hB⟩
set_option maxRecDepth 100000 in
set_option maxHeartbeats 8000000 in
theorem feasible_any (L : Nat → Nat → Int) (a pa : Option Addr) (n c pc : Nat) (q : List Nat) (g : Int × Int × Int) (w : World) (el : Els w a n 5 (fun k => (wnc (L k)).toList)) (hW : WOk n L) (hn : n ≤ 40) (pl : Pli w pa q) (hq : q.length ≤ 40) (hi : ∀ k, k < q.length → q.getD k 0 < n) (hg : ruE g = 0) : Calls Try.prog 25 #[.slice a n c, .agg (ruc g), .slice pa q.length pc] w fun e w' => e = .returned (.tuple #[.bool (feasB L g.1 g.2.1 g.2.2 q), .int .i64 0]) ∧ Below w.heap.size w w' := by
  have CH := Lib.hid (fun w1 x1 x2 => checked_ok L a pa n c pc q g w1 x1 hW hn hg x2 hq hi)
  have SB := Lib.hid (fun j => (sumB hW hi hq j).2)
  have ST := Lib.hid (fun j => sumF_take L 4 q j)
  have hlast : sumF L 4 (q.take q.length) = sumF L 4 q := by rw [List.take_length]
  replace hlast := Lib.hid hlast
  replace el := Lib.hid el
  replace pl := Lib.hid pl
  replace hi := Lib.hid hi
  have FO := Lib.hid (fun x y w1 hx => follows_any (L x) (L y) g.1 w1 (by have := hW.a x hx; omega) (ru_ok hg).1)
  clear hW hg
  unfold feasB
  generalize hm : q.length = m at *
  replace hm := Lib.hid hm
  go_enter Try.func25, Try.ntmps25
  go_upto_region 1 with (fail)
  have u : blk (w.alloc (.cells (ruc g) 57)) w.heap.size (ruc g) 57 := blk.new _ _ _
  have hB : Below w.heap.size w (w.alloc (.cells (ruc g) 57)) := by go_grown
  generalize (w.alloc (.cells (ruc g) 57)) = w0 at *
  go_wp2_with (first
    | (refine wpList_load_rowG ?hw _ _ rfl _ rfl _ _ _ _ u Try.underlying57 rfl ?hi ?_; (case hw => (first | rfl | (simp [Region.wanted, yielded]; done))); (case hi => (first | kernel_rfl | (rw [ruc_size]; kernel_rfl))))
    | (go_at_call 73; with_reducible refine (CH.out _ (el.out.below hB (Nat.le_refl _)) (pl.out.below hB (Nat.le_refl _))).mono ?_; rintro e w1 ⟨rfl, hb⟩; replace hB := hB.trans (hb.mono hB.size); replace u := u.below hb u.lt; clear hb))
  clear CH
  go_loopg [21, 9] m (fun g_ iv sv wr => ∃ j : Nat, g_ + j = m ∧ iv = .int .i64 j ∧ sv = .int .i64 (sumF L 4 (q.take j)) ∧ Hid ((List.range j).all (prB L g.1 q) = true) ∧ blk wr w.heap.size (ruc g) 57 ∧ Below w.heap.size w wr)
  case atStart => exact ⟨0, by omega, rfl, rfl, rfl, u, hB⟩
  case round =>
    clear u hB
    obtain ⟨j, hj, rfl, rfl, hal, u, hB⟩ := hrel
    by_cases hjn : j < m
    · have hdj : decide ((j : Int) < m) = true := decide_eq_true (by omega)
      have hdj' : decide (j < m) = true := decide_eq_true hjn
      have hj3 : (j : Int) < m := by omega
      have hj0 : (0 : Int) ≤ j := by omega
      have hwj : IntKind.i64.wrap ((j : Int) + 1) = ((j + 1 : Nat) : Int) := by rw [IntKind.wrap_i64]; omega
      obtain ⟨eb, eo, rfl, hEl, hE⟩ := pl.out j (by rw [hm.out]; exact hjn)
      have hz := hi.out j hjn
      have hst := ST.out j hjn
      have b1 := SB.out j
      have b2 := SB.out (j + 1)
      have hpr : prB L g.1 q j = (decide (j = 0) || folB (L (q.getD (j - 1) 0)) (L (q.getD j 0)) g.1) := rfl
      replace hpr := Lib.hid hpr
      have FJ := Lib.hid (fun x w1 hx => FO.out x (q.getD j 0) w1 hx)
      replace hE : w.rangeAt eb (eo + j) [.int .i64 ((q.getD j 0 : Nat) : Int)] := by rw [Nat.mul_one] at hE; exact hE
      generalize q.getD j 0 = z at *
      obtain ⟨fb, fo, rfl, hFl, hF⟩ := el.out z hz
      replace hF : w.rangeAt fb (fo + z * 5) ((wnc (L z)).toList) := hF
      have hdz : decide ((z : Int) < n) = true := decide_eq_true (by omega)
      have hdz' : decide (z < n) = true := decide_eq_true hz
      have hz3 : (z : Int) < n := by omega
      have hz0 : (0 : Int) ≤ z := by omega
      generalize hwz : L z = wz at *
      clear hwz
      rw [hst] at b2
      generalize sumF L 4 (q.take j) = S at *
      have wS : IntKind.i64.wrap (S + wz 4) = S + wz 4 := by rw [IntKind.wrap_i64]; omega
      have cz : wr.cell? ⟨eb, eo + j, none⟩ = some (.int .i64 (z : Int)) := (range_below hE hB hEl) 0 _ rfl
      clear b1 b2
      replace hst := Lib.hid hst
      rcases Nat.eq_zero_or_pos j with hj00 | hjp
      · skip
        have hpt : Hid (prB L g.1 q j = true) := by rw [hpr.out, decide_eq_true hj00]; rfl
        have djp : decide ((0 : Int) < (j : Int)) = false := decide_eq_false (by omega)
        have djp2 : decide (0 < j) = false := decide_eq_false (by omega)
        clear FJ FO hpr hj00
        go_upto_region 8 with (fail)
        clear cz
        have lt_u := u.lt
        have hW0 : w.heap.size ≤ wr.heap.size := by have := hB.size; first | exact this | simpa using this
        apply wp_region_I 20 [0, 1, 3, 7, 7, 7, 39, 119, 247, 511, 1023, 7, 7, 6151, 14343, 7, 32775, 131071, 262143, 524287] [] [_, _, _, _, _, _, _, _, _, _, _, _, _, _, _, _, _, _, _, _] (fun p L w' => wr.heap.size ≤ w'.heap.size ∧ Below w.heap.size w w' ∧ blk w' w.heap.size (ruc g) 57) _ [(0, 26), (1, 27), (2, 28), (3, 29), (4, 30), (5, 31), (6, 32), (7, 33), (8, 34), (9, 35), (10, 36), (11, 37), (12, 38), (13, 39), (14, 40), (15, 41), (16, 42), (17, 43), (18, 44), (19, 45)] [0, 1, 2, 3, 4, 5, 6, 7, 8, 9, 10, 11, 12, 13, 14, 15, 16, 17, 18, 19]
        case hn => rfl
        case hm => kernel_rfl
        case hB => kernel_rfl
        case hds => kernel_rfl
        case hA => (intro p; simp only [putsD, Act.put, List.setIfInBounds_toArray, List.set_cons_zero, List.set_cons_succ, List.getD_cons_zero, List.getD_cons_succ]; exact rfl)
        case h0 => exact fun p => ⟨Nat.le_refl _, hB.drew, u.drew⟩
        case hmore => exact fun p L w1 w2 ⟨hsz, hB, u⟩ hm => ⟨Nat.le_trans hsz hm.size, hB.trans (hm.mono (Nat.le_trans hW0 hsz)), u.below hm u.lt⟩
        case hs =>
          intro more
          iterate 3 (refine stepV _ rfl rfl (fun _ _ _ h => h) (by intros; go_simp; exact ⟨rfl, rfl⟩) ?_)
          iterate 16 (refine AllI.cons (stepI_off _ rfl (fun p => rfl) (fun p => rfl) (fun _ _ _ h => h)) ?_)
          refine stepV _ rfl rfl (fun _ _ _ h => h) (by intros; go_simp; exact ⟨rfl, rfl⟩) ?_
          exact AllI.nil
        case hV0 => exact fun p q => AllI.nil
        case he =>
        clear hB u
        rintro p wrr ⟨hsz, hB, u⟩
        clear lt_u
        clear hsz hW0
        have cf : wrr.cell? ⟨fb, fo + z * 5 + 4, none⟩ = some (.int .i64 (wz 4)) := (range_below hF hB hFl) 4 _ rfl
        go_wp2_with (fail)
        go_roundg (m - (j + 1))
        case rel => exact ⟨j + 1, by omega, rfl, by rw [hst.out], by show _ = true; rw [all_snoc, hal.out, hpt.out]; rfl, u, hB⟩
        case measure => omega
      · skip
        obtain ⟨i, rfl⟩ : ∃ i, j = i + 1 := ⟨j - 1, by omega⟩
        have djp : decide ((0 : Int) < ((i + 1 : Nat) : Int)) = true := decide_eq_true (by omega)
        have djp' : decide (0 < i + 1) = true := decide_eq_true (by omega)
        have hwi : IntKind.i64.wrap (((i + 1 : Nat) : Int) - 1) = (i : Int) := by rw [IntKind.wrap_i64]; omega
        have hwi2 : IntKind.i64.wrap (i : Int) = (i : Int) := by rw [IntKind.wrap_i64]; omega
        have hi3 : (i : Int) < m := by omega
        have hi0 : (0 : Int) ≤ i := by omega
        have hdi : decide ((i : Int) < m) = true := decide_eq_true hi3
        have hdi' : decide (i < m) = true := decide_eq_true (by omega)
        obtain ⟨eb', eo', he, hGl, hG⟩ := pl.out i (by rw [hm.out]; omega)
        simp only [Option.some.injEq, Addr.mk.injEq, and_true] at he
        obtain ⟨rfl, rfl⟩ := he
        have hy := hi.out i (by omega)
        replace hG : w.rangeAt eb (eo + i) [.int .i64 ((q.getD i 0 : Nat) : Int)] := by rw [Nat.mul_one] at hG; exact hG
        have hpr2 : prB L g.1 q (i + 1) = folB (L (q.getD i 0)) wz g.1 := hpr.out
        clear hpr
        generalize q.getD i 0 = y at *
        obtain ⟨fb', fo', he, hHl, hH⟩ := el.out y hy
        simp only [Option.some.injEq, Addr.mk.injEq, and_true] at he
        obtain ⟨rfl, rfl⟩ := he
        replace hH : w.rangeAt fb (fo + y * 5) ((wnc (L y)).toList) := hH
        have hdy : decide ((y : Int) < n) = true := decide_eq_true (by omega)
        have hdy' : decide (y < n) = true := decide_eq_true hy
        have hy3 : (y : Int) < n := by omega
        have hy0 : (0 : Int) ≤ y := by omega
        have FY := Lib.hid (fun w1 => FJ.out y w1 hy)
        clear FJ FO
        generalize hwy : L y = wy at *
        clear hwy
        generalize hfo : folB wy wz g.1 = fo_ at *
        clear hfo
        replace hpr2 := Lib.hid hpr2
        go_upto_region 8 with (fail)
        clear cz
        have lt_u := u.lt
        have hW0 : w.heap.size ≤ wr.heap.size := by have := hB.size; first | exact this | simpa using this
        apply wp_region_I 20 [0, 1, 3, 7, 7, 7, 39, 119, 247, 511, 1023, 7, 7, 6151, 14343, 7, 32775, 131071, 262143, 524287] [] [_, _, _, _, _, _, _, _, _, _, _, _, _, _, _, _, _, _, _, _] (fun p L w' => wr.heap.size ≤ w'.heap.size ∧ Below w.heap.size w w' ∧ blk w' w.heap.size (ruc g) 57) _ [(0, 26), (1, 27), (2, 28), (3, 29), (4, 30), (5, 31), (6, 32), (7, 33), (8, 34), (9, 35), (10, 36), (11, 37), (12, 38), (13, 39), (14, 40), (15, 41), (16, 42), (17, 43), (18, 44), (19, 45)] [0, 1, 2, 3, 4, 5, 6, 7, 8, 9, 10, 11, 12, 13, 14, 15, 16, 17, 18, 19]
        case hn => rfl
        case hm => kernel_rfl
        case hB => kernel_rfl
        case hds => kernel_rfl
        case hA => (intro p; simp only [putsD, Act.put, List.setIfInBounds_toArray, List.set_cons_zero, List.set_cons_succ, List.getD_cons_zero, List.getD_cons_succ]; exact rfl)
        case h0 => exact fun p => ⟨Nat.le_refl _, hB.drew, u.drew⟩
        case hmore => exact fun p L w1 w2 ⟨hsz, hB, u⟩ hm => ⟨Nat.le_trans hsz hm.size, hB.trans (hm.mono (Nat.le_trans hW0 hsz)), u.below hm u.lt⟩
        case hs =>
          intro more
          iterate 3 (refine stepV _ rfl rfl (fun _ _ _ h => h) (by intros; go_simp; exact ⟨rfl, rfl⟩) ?_)
          iterate 5 (refine stepVg _ rfl (fun p => (by first | rfl | (simp [Region.wanted, yielded]; done))) (fun _ _ _ h => h) (by intros; go_simp; exact ⟨rfl, rfl⟩) ?_)
          refine stepVg 8 rfl (fun p => (by first | rfl | (simp [Region.wanted, yielded]; done))) (fun _ _ _ h => h) ?_ ?_
          · rintro p L w1 ⟨hsz, hB, u⟩ hk
            have hr := range_below hG hB hGl
            have hc : w1.cell? ⟨eb, eo + i, none⟩ = some (.int .i64 (y : Int)) := hr 0 _ rfl
            go_simp
            exact ⟨rfl, rfl⟩
          refine stepVg _ rfl (fun p => (by first | rfl | (simp [Region.wanted, yielded]; done))) (fun _ _ _ h => h) (by intros; go_simp; exact ⟨rfl, rfl⟩) ?_
          refine stepVg 10 rfl (fun p => (by first | rfl | (simp [Region.wanted, yielded]; done))) (fun _ _ _ h => h) ?_ ?_
          · rintro p L w1 ⟨hsz, hB, u⟩ hk
            have hr := range_below hH hB hHl
            exact valR_range _ _ rfl _ _ rfl _ (fo + y * 5) 0 hr (by first | rfl | omega) (wnc wy) (wnc_get wy) _ Try.underlying72 rfl (by rw [wnc_size]; kernel_rfl) rfl
          iterate 3 (refine stepVg _ rfl (fun p => (by first | rfl | (simp [Region.wanted, yielded]; done))) (fun _ _ _ h => h) (by intros; go_simp; exact ⟨rfl, rfl⟩) ?_)
          refine stepVg 14 rfl (fun p => (by first | rfl | (simp [Region.wanted, yielded]; done))) (fun _ _ _ h => h) ?_ ?_
          · rintro p L w1 ⟨hsz, hB, u⟩ hk
            have hr := range_below hF hB hFl
            exact valR_range _ _ rfl _ _ rfl _ (fo + z * 5) 0 hr (by first | rfl | omega) (wnc wz) (wnc_get wz) _ Try.underlying72 rfl (by rw [wnc_size]; kernel_rfl) rfl
          refine stepVg _ rfl (fun p => (by first | rfl | (simp [Region.wanted, yielded]; done))) (fun _ _ _ h => h) (by intros; go_simp; exact ⟨rfl, rfl⟩) ?_
          refine stepVg 16 rfl (fun p => (by first | rfl | (simp [Region.wanted, yielded]; done))) (fun _ _ _ h => h) ?_ ?_
          · rintro p L w1 ⟨hsz, hB, u⟩ hk
            have hc : w1.cell? ⟨w.heap.size, 0, none⟩ = some (.int .i64 g.1) := u.cellIs rfl
            go_simp
            exact ⟨rfl, rfl⟩
          refine stepD 17 rfl (fun p => (by first | rfl | (simp [Region.wanted, yielded]; done))) (fun _ _ _ h => h) more ?_ ?_
          · rintro p L w1 ⟨hsz, hB, u⟩ hk
            go_simp
            refine (FY.out _).mono ?_
            rintro e w2 ⟨rfl, h2⟩
            first | exact ⟨rfl, h2⟩ | (subst h2; exact ⟨rfl, Below.refl _ _⟩)
          refine stepVg _ rfl (fun p => (by first | rfl | (simp [Region.wanted, yielded]; done))) (fun _ _ _ h => h) (by intros; go_simp; exact ⟨rfl, rfl⟩) ?_
          refine stepV _ rfl rfl (fun _ _ _ h => h) (by intros; go_simp; exact ⟨rfl, rfl⟩) ?_
          exact AllI.nil
        case hV0 => exact fun p q => AllI.nil
        case he =>
        clear hB u
        rintro p wrr ⟨hsz, hB, u⟩
        clear lt_u
        clear hsz hW0
        clear FY
        cases fo_
        · skip
          go_wp2_with (fail)
          refine bodyPost_ret (results_tmp2 rfl _ _ _) rfl ?_
          exact ⟨by rw [all_no (prB L g.1 q) hjn hpr2.out, Bool.false_and]; rfl, hB⟩
        · have hpt : Hid (prB L g.1 q (i + 1) = true) := hpr2.out
          have cf : wrr.cell? ⟨fb, fo + z * 5 + 4, none⟩ = some (.int .i64 (wz 4)) := (range_below hF hB hFl) 4 _ rfl
          go_wp2_with (fail)
          go_roundg (m - ((i + 1) + 1))
          case rel => exact ⟨(i + 1) + 1, by omega, rfl, by rw [hst.out], by show _ = true; rw [all_snoc, hal.out, hpt.out]; rfl, u, hB⟩
          case measure => omega
    · obtain rfl : m = j := by omega
      have hdj : decide ((m : Int) < m) = false := decide_eq_false (by omega)
      rw [hlast.out]
      have cu1 : wr.cell? ⟨w.heap.size, 1, none⟩ = some (.int .i64 g.2.1) := u.cellIs rfl
      have cu2 : wr.cell? ⟨w.heap.size, 2, none⟩ = some (.int .i64 g.2.2) := u.cellIs rfl
      clear hj hjn el pl hi SB ST FO hlast
      cases d1 : decide (sumF L 4 q ≤ g.2.1)
      · go_wp2_with (fail)
        refine bodyPost_ret (results_tmp2 rfl _ _ _) rfl ?_
        exact ⟨by rw [hal.out, Bool.true_and, d1]; rfl, hB⟩
      · go_wp2_with (fail)
        refine bodyPost_ret (results_tmp2 rfl _ _ _) rfl ?_
        exact ⟨by rw [hal.out, Bool.true_and, d1]; rfl, hB⟩
end Go.Proofs.Ytkmelddejdikgaa
