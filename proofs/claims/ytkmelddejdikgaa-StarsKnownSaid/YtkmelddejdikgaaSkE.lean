/-
  A table of sixteen numbers, filled by any function.
-/
import Derived.Test.YtkmelddejdikgaaSkB
set_option linter.unusedSimpArgs false
set_option linter.unusedVariables false
namespace Go.Proofs.Ytkmelddejdikgaa
open Go.RowKit PM Dt
def tbn (g : Nat → Int) : Array Value := ((List.range 16).map fun i => Value.int .i64 (g i)).toArray
theorem tbn_size (g : Nat → Int) : (tbn g).size = 16 := by simp [tbn]
theorem tbn_one (g : Nat → Int) : (tbn g).all (·.oneCell') = true := by simp [tbn, Value.oneCell']
theorem tbn_get (g : Nat → Int) {i : Nat} (h : i < 16) : (tbn g)[i]? = some (.int .i64 (g i)) := by simp [tbn, List.getElem?_range h]
theorem tbn_congr {f g : Nat → Int} (h : ∀ i, i < 16 → f i = g i) : tbn f = tbn g := by
  unfold tbn
  rw [List.map_congr_left]
  intro i hi
  rw [h i (List.mem_range.1 hi)]
theorem zero_tb : #[Value.int .i64 0, .int .i64 0, .int .i64 0, .int .i64 0, .int .i64 0, .int .i64 0, .int .i64 0, .int .i64 0, .int .i64 0, .int .i64 0, .int .i64 0, .int .i64 0, .int .i64 0, .int .i64 0, .int .i64 0, .int .i64 0] = tbn (fun _ => 0) := rfl
theorem tbover (f g : Nat → Int) : over (tbn f) 0 (tbn g).toList = tbn g := over_full (by rw [tbn_size, tbn_size])
theorem tbn_set {f g : Nat → Int} {i : Nat} {v : Int} (h : i < 16) (hx : v = g i) (hg : ∀ j, j < 16 → j ≠ i → f j = g j) : (tbn f).setIfInBounds i (.int .i64 v) = tbn g := by
  apply Array.ext_getElem?
  intro j
  rw [Array.getElem?_setIfInBounds]
  by_cases hj : j < 16
  · rw [tbn_get g hj, tbn_get f hj]
    split
    · rename_i e; subst e; rw [if_pos (by rw [tbn_size]; exact h), hx]
    · rename_i e; rw [hg j hj (Ne.symm e)]
  · have n1 : (tbn f)[j]? = none := Array.getElem?_eq_none (by rw [tbn_size]; omega)
    have n2 : (tbn g)[j]? = none := Array.getElem?_eq_none (by rw [tbn_size]; omega)
    rw [n1, n2, if_neg (by omega)]
def pre16 (x : Nat → Int) (n : Nat) : Nat → Int := fun j => if j < n then x j else 0
theorem pre16_set (x : Nat → Int) {n : Nat} (h : n < 16) : (tbn (pre16 x n)).setIfInBounds n (.int .i64 (x n)) = tbn (pre16 x (n + 1)) :=
  tbn_set h (by simp [pre16]) fun j hj hne => by simp only [pre16]; split <;> split <;> first | rfl | omega
theorem pre16_all (x : Nat → Int) : tbn (pre16 x 16) = tbn x := tbn_congr fun i hi => by simp [pre16, hi]
theorem pre16_zero (x : Nat → Int) : tbn (fun _ => 0) = tbn (pre16 x 0) := tbn_congr fun i hi => by simp [pre16]
set_option maxRecDepth 100000 in
set_option maxHeartbeats 8000000 in
theorem sfill_any (X : Nat → Int) (N : Nat) (cs : Array Value) (w : World) (CF : ∀ i k : Nat, i < 4 → k < 4 → ∀ w1, Below w.heap.size w w1 → Calls Try.prog N (#[.int .i64 i, .int .i64 k] ++ cs) w1 fun e w' => e = .returned (.int .i64 (X (i * 4 + k))) ∧ Below w1.heap.size w1 w') (HN : ∀ ar w1, Sem.run Try.prog (callFunc N ar) w1 = .ok (.enter N ar) w1) : Calls Try.prog 56 #[.func (.func N) #[] cs] w fun e w' => e = .returned (.agg (tbn X)) ∧ Below w.heap.size w w' := by
  replace CF := Lib.hid CF
  replace HN := Lib.hid HN
  go_enter Try.func56, Try.ntmps56
  go_upto_region 2 with (fail)
  simp only [zero_tb]
  have r : blk ((w.alloc (.cells (tbn fun _ => 0) 113)).alloc (.cells (tbn fun _ => 0) 113)) w.heap.size (tbn fun _ => 0) 113 := (blk.new _ _ _).alloc _
  have m : blk ((w.alloc (.cells (tbn fun _ => 0) 113)).alloc (.cells (tbn fun _ => 0) 113)) (w.heap.size + 1) (tbn fun _ => 0) 113 := blk.new' (by simp)
  have hB : Below w.heap.size w ((w.alloc (.cells (tbn fun _ => 0) 113)).alloc (.cells (tbn fun _ => 0) 113)) := by go_grown
  generalize ((w.alloc (.cells (tbn fun _ => 0) 113)).alloc (.cells (tbn fun _ => 0) 113)) = w0 at *
  have hne : w.heap.size ≠ w.heap.size + 1 := by omega
  go_wp2_with (fail)
  go_loopg [6] 4 (fun g_ iv wr => ∃ i : Nat, g_ + i = 4 ∧ iv = .int .i64 i ∧ blk wr w.heap.size (tbn fun _ => 0) 113 ∧ blk wr (w.heap.size + 1) (tbn (pre16 X (i * 4))) 113 ∧ Below w.heap.size w wr)
  case atStart => exact ⟨0, rfl, rfl, r, by rw [pre16_zero X] at m; exact m, hB⟩
  case round =>
    clear r m hB
    obtain ⟨i, hi, rfl, r, m, hB⟩ := hrel
    by_cases hin : i < 4
    · have hdi : decide ((i : Int) < 4) = true := decide_eq_true (by omega)
      have hdi' : decide (i < 4) = true := decide_eq_true hin
      have hi3 : (i : Int) < 4 := by omega
      have hwi : IntKind.i64.wrap ((i : Int) + 1) = ((i + 1 : Nat) : Int) := by rw [IntKind.wrap_i64]; omega
      go_wp2_with (fail)
      go_loopg [9] 4 (fun g_ iv wr => ∃ k : Nat, g_ + k = 4 ∧ iv = .int .i64 k ∧ blk wr w.heap.size (tbn fun _ => 0) 113 ∧ blk wr (w.heap.size + 1) (tbn (pre16 X (i * 4 + k))) 113 ∧ Below w.heap.size w wr)
      case atStart => exact ⟨0, rfl, rfl, r, m, hB⟩
      case round =>
        clear r m hB
        obtain ⟨k, hk, rfl, r, m, hB⟩ := hrel
        by_cases hkn : k < 4
        · have hdk : decide ((k : Int) < 4) = true := decide_eq_true (by omega)
          have hdk' : decide (k < 4) = true := decide_eq_true hkn
          have hk3 : (k : Int) < 4 := by omega
          have hwk : IntKind.i64.wrap ((k : Int) + 1) = ((k + 1 : Nat) : Int) := by rw [IntKind.wrap_i64]; omega
          have CC := Lib.hid (CF.out i k hin hkn)
          have ne_r_m : w.heap.size ≠ w.heap.size + 1 := by omega
          go_upto_region 8 with (fail)
          have lt_r := r.lt
          have lt_m := m.lt
          have hW0 : w.heap.size ≤ wr.heap.size := by have := hB.size; first | exact this | simpa using this
          apply wp_region_I 9 [0, 0, 0, 0, 0, 28, 1, 127, 255] [] [_, _, _, _, _, _, _, _, (fun _ => undef)] (fun p L w' => wr.heap.size ≤ w'.heap.size ∧ Below w.heap.size w w' ∧ blk w' w.heap.size (tbn (fun _ => 0)) 113 ∧ blk w' (w.heap.size + 1) (bif L 8 then (tbn (pre16 X (i * 4 + k + 1))) else (tbn (pre16 X (i * 4 + k)))) 113) _ [(0, 12), (1, 13), (2, 14), (3, 15), (4, 16), (5, 17), (6, 18), (7, 19)] [0, 1, 2, 3, 4, 5, 6, 7, 8]
          case hn => rfl
          case hm => kernel_rfl
          case hB => kernel_rfl
          case hds => kernel_rfl
          case hA => (intro p; simp only [putsD, Act.put, List.setIfInBounds_toArray, List.set_cons_zero, List.set_cons_succ, List.getD_cons_zero, List.getD_cons_succ]; exact rfl)
          case h0 => exact fun p => ⟨Nat.le_refl _, hB.drew, r.drew, m.drew⟩
          case hmore => exact fun p L w1 w2 ⟨hsz, hB, r, m⟩ hm => ⟨Nat.le_trans hsz hm.size, hB.trans (hm.mono (Nat.le_trans hW0 hsz)), r.below hm r.lt, m.below hm m.lt⟩
          case hs =>
            intro more
            iterate 5 (refine stepV _ rfl rfl (fun _ _ _ h => h) (by intros; go_simp; exact ⟨rfl, rfl⟩) ?_)
            refine stepD 5 rfl (fun p => rfl) (fun _ _ _ h => h) more ?_ ?_
            · rintro p L w1 ⟨hsz, hB, r, m⟩ hk
              go_simp
              rw [HN.out]
              simp only [DetR]
              refine (CC.out _ hB).mono ?_
              rintro e w2 ⟨rfl, h2⟩
              first | exact ⟨rfl, h2⟩ | (subst h2; exact ⟨rfl, Below.refl _ _⟩)
            iterate 2 (refine stepV _ rfl rfl (fun _ _ _ h => h) (by intros; go_simp; exact ⟨rfl, rfl⟩) ?_)
            refine AllI.cons ?_ ?_
            · refine stepI_cell 8 rfl (fun p => rfl) (fun p => rfl) (fun _ => (w.heap.size + 1)) (i * 4 + k) (fun p => .int .i64 (X (i * 4 + k))) (fun p => (tbn (pre16 X (i * 4 + k)))) (fun p => (tbn (pre16 X (i * 4 + k + 1)))) 113 (fun p => pre16_set X (by omega)) ?_ ?_ ?_
              · rintro p L w1 ⟨hsz, hB, r, m⟩ hk
                have L8 : L 8 = false := hk.1
                rw [L8] at m
                try simp only [cond_true, cond_false] at m
                exact m
              · intro p w1 hb
                have fz : w1.frozen? ⟨(w.heap.size + 1), i * 4 + k, none⟩ = false := hb.free _
                have cz : ∃ u, w1.cell? ⟨(w.heap.size + 1), i * 4 + k, none⟩ = some u := ⟨_, hb.cellIs (tbn_get _ (by omega))⟩
                obtain ⟨u, cz⟩ := cz
                go_simp
                try exact ⟨_, rfl, by first | exact .inl rfl | exact .inr rfl⟩
              · rintro p L w1 ⟨hsz, hB, r, m⟩ hk
                have L8 : L 8 = false := hk.1
                refine ⟨(by simpa using hsz), Below.setRow hB (by first | exact Nat.le_trans hW0 hp.1 | exact ge_m | omega | (have := hB.size; simp at this ⊢; omega)) _, r.rowOther (by first | exact ne_r_m | exact Ne.symm ne_m_r | omega) _, ?_⟩
                rw [show upL L 8 8 = true from rfl]
                exact m.row _
            exact AllI.nil
          case hV0 => exact fun p q => AllI.nil
          case he =>
          clear hB r m
          rintro p wrr ⟨hsz, hB, r, m⟩
          replace m : blk wrr (w.heap.size + 1) (tbn (pre16 X (i * 4 + k + 1))) 113 := m
          clear lt_r
          clear lt_m
          clear hsz hW0
          clear CC
          go_wp2_with (fail)
          go_roundg (4 - (k + 1))
          case rel => exact ⟨k + 1, by omega, rfl, r, m, hB⟩
          case measure => omega
        · obtain rfl : k = 4 := by omega
          go_wp2_with (fail)
          go_roundg (4 - (i + 1))
          case rel => exact ⟨i + 1, by omega, rfl, r, by rw [show (i + 1) * 4 = i * 4 + 4 by omega]; exact m, hB⟩
          case measure => omega
    · obtain rfl : i = 4 := by omega
      replace m : blk wr (w.heap.size + 1) (tbn X) 113 := by rw [← pre16_all X]; exact m
      go_wp2_with (first | (refine wpList_load_rowG ?hw _ _ rfl _ rfl _ _ _ _ m Try.underlying113 rfl ?hi ?_; (case hw => (first | rfl | (simp [Region.wanted, yielded]; done))); (case hi => (first | kernel_rfl | (rw [tbn_size]; kernel_rfl)))) | (refine wpList_store_row rfl _ _ _ rfl _ rfl _ rfl _ _ r (by first | kernel_rfl | (rw [tbn_size]; kernel_rfl)) (by first | rfl | simp only [tbn_size]) (by first | exact tbn_one _ | rfl) ?_))
      refine bodyPost_ret (results_cell_row rfl _ _ _ _ _ _ _ rfl (r.row (tbn X)) Try.underlying113 rfl (by rw [tbn_size]; kernel_rfl)) rfl ?_; refine ⟨rfl, Below.setRow hB (by omega) _⟩
end Go.Proofs.Ytkmelddejdikgaa
