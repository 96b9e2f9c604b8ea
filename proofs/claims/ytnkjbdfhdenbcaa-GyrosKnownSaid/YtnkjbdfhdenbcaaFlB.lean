/-
  The filter of the package: New, Predict.
-/
import Derived.Test.YtnkjbdfhdenbcaaFlA
set_option linter.unusedSimpArgs false
set_option linter.unusedVariables false
namespace Go.Proofs.Ytnkjbdfhdenbcaa
open Go.RowKit PM Dt
theorem over_v (F G : Nat → Int) : over (vfn F) 0 (vfn G).toList = vfn G := by unfold vfn; rfl
theorem over_qq (F G : Nat → Int) : over (qfn F) 0 (qfn G).toList = qfn G := by unfold qfn; rfl
theorem partF_I (f : Nat → Int) (d : Int) : ∀ i, i < 3 → I64 (partF f d i) := fun i _ => by unfold partF; exact ratioV_I _ _ _
theorem vsubF_I (f g : Nat → Int) : ∀ i, i < 3 → I64 (vsubF f g i) := by
  intro i hi
  have h0 : I64 0 := ⟨by omega, by omega⟩
  unfold vsubF
  split
  · unfold resF
    split
    · rename_i h
      have := (vb_iff _).1 ((okV_iff _).1 h i hi)
      exact ⟨by omega, by omega⟩
    · exact h0
  · exact h0
set_option maxRecDepth 100000 in
set_option maxHeartbeats 2000000 in
theorem fnew_no (q : Nat → Int) (w : World) (hq : ∀ i, i < 4 → I64 (q i)) (hv : validQ q = false) : Calls Try.prog 24 #[.agg (qfn q)] w fun e w' => e = .returned (.tuple #[.pointer none, .int .i64 2]) ∧ Below w.heap.size w w' := by
  have VA := Lib.hid (fun w => qvalid_any q w hq)
  rw [hv] at VA
  go_enter Try.func24, Try.ntmps24
  go_upto_region 1 with (fail)
  have v : blk (w.alloc (.cells (qfn q) 46)) w.heap.size (qfn q) 46 := blk.new _ _ _
  have hB : Below w.heap.size w (w.alloc (.cells (qfn q) 46)) := by go_grown
  generalize (w.alloc (.cells (qfn q) 46)) = w0 at *
  go_wp2_with (first
    | (refine wpList_load_rowG ?hw _ _ rfl _ rfl _ _ _ _ v Try.underlying46 rfl ?hi ?_; (case hw => (first | rfl | (simp [Region.wanted, yielded]; done))); (case hi => (first | kernel_rfl | (rw [qfn_size]; kernel_rfl))))
    | (go_at_call 29; with_reducible refine (VA.out _).mono ?_; rintro e w1 ⟨rfl, hb⟩; replace hB := hB.trans (hb.mono hB.size); replace v := v.below hb v.lt; clear hb))
  go_ret2
  exact ⟨rfl, hB⟩
set_option maxRecDepth 100000 in
set_option maxHeartbeats 2000000 in
theorem fnew_ok (q : Nat → Int) (w : World) (hq : ∀ i, i < 4 → I64 (q i)) (hv : validQ q = true) : Calls Try.prog 24 #[.agg (qfn q)] w fun e w' => ∃ b, e = .returned (.tuple #[.pointer (some ⟨b, 0, none⟩), .int .i64 0]) ∧ blk w' b (fltc (q, fun _ => 0)) 91 ∧ w.heap.size ≤ b ∧ Below w.heap.size w w' := by
  have VA := Lib.hid (fun w => qvalid_any q w hq)
  rw [hv] at VA
  go_enter Try.func24, Try.ntmps24
  go_upto_region 1 with (fail)
  have v : blk (w.alloc (.cells (qfn q) 46)) w.heap.size (qfn q) 46 := blk.new _ _ _
  have hB : Below w.heap.size w (w.alloc (.cells (qfn q) 46)) := by go_grown
  generalize (w.alloc (.cells (qfn q) 46)) = w0 at *
  go_upto_region 3 with (first
    | (refine wpList_load_rowG ?hw _ _ rfl _ rfl _ _ _ _ v Try.underlying46 rfl ?hi ?_; (case hw => (first | rfl | (simp [Region.wanted, yielded]; done))); (case hi => (first | kernel_rfl | (rw [qfn_size]; kernel_rfl))))
    | (go_at_call 29; with_reducible refine (VA.out _).mono ?_; rintro e w1 ⟨rfl, hb⟩; replace hB := hB.trans (hb.mono hB.size); replace v := v.below hb v.lt; clear hb))
  unfold qfn at v
  go_wp2_with (first
    | (refine wpList_load_rowG ?hw _ _ rfl _ rfl _ _ _ _ v Try.underlying46 rfl ?hi ?_; (case hw => (first | rfl | (simp [Region.wanted, yielded]; done))); (case hi => (first | kernel_rfl | (rw [qfn_size]; kernel_rfl)))))
  rw [show #[Value.int .i64 (q 0), .int .i64 (q 1), .int .i64 (q 2), .int .i64 (q 3), .int .i64 0, .int .i64 0, .int .i64 0] = fltc (q, fun _ => 0) from rfl]
  go_ret2
  exact ⟨w1.heap.size, rfl, blk.new _ _ _, hB.size, hB.alloc hB.size _⟩
set_option maxRecDepth 100000 in
set_option maxHeartbeats 2000000 in
theorem fpred_none (v : Value) (r : Nat → Int) (w : World) (hn : ∀ w', Below w.heap.size w w' → Calls Try.prog 67 #[v] w' fun e w2 => e = .returned (.bool true) ∧ w' = w2) : Calls Try.prog 28 #[v, .agg (vfn r)] w fun e w' => e = .returned (.int .i64 1) ∧ Below w.heap.size w w' := by
  have NN := Lib.hid hn
  clear hn
  go_enter Try.func28, Try.ntmps28
  go_upto_region 1 with (fail)
  have v : blk (w.alloc (.cells (vfn r) 39)) w.heap.size (vfn r) 39 := blk.new _ _ _
  have hB : Below w.heap.size w (w.alloc (.cells (vfn r) 39)) := by go_grown
  generalize (w.alloc (.cells (vfn r) 39)) = w0 at *
  go_wp2_with (first
    | (refine wpList_load_rowG ?hw _ _ rfl _ rfl _ _ _ _ v Try.underlying39 rfl ?hi ?_; (case hw => (first | rfl | (simp [Region.wanted, yielded]; done))); (case hi => (first | kernel_rfl | (rw [vfn_size]; kernel_rfl))))
    | (go_at_call 67; with_reducible refine (NN.out _ hB).mono ?_; rintro e w9 ⟨rfl, rfl⟩))
  go_ret
  exact ⟨rfl, hB⟩
set_option maxRecDepth 100000 in
set_option maxHeartbeats 2000000 in
theorem fpred_no (Q B r : Nat → Int) (b : Nat) (w : World) (hg : blk w b (fltc (Q, B)) 91) (hz : zQ Q = false) (hr : smallB r 268435456 = false) : Calls Try.prog 28 #[.pointer (some ⟨b, 0, none⟩), .agg (vfn r)] w fun e w' => e = .returned (.int .i64 2) ∧ Below w.heap.size w w' := by
  have NN := Lib.hid (fun w' (hb : Below w.heap.size w w') => fnone_any Q B b w' (hg.below hb hg.lt))
  rw [hz] at NN
  have WI := Lib.hid (fun w => gwithin_any r 268435456 w (by omega) (by omega))
  rw [hr] at WI
  go_enter Try.func28, Try.ntmps28
  go_upto_region 1 with (fail)
  have v : blk (w.alloc (.cells (vfn r) 39)) w.heap.size (vfn r) 39 := blk.new _ _ _
  have hB : Below w.heap.size w (w.alloc (.cells (vfn r) 39)) := by go_grown
  generalize (w.alloc (.cells (vfn r) 39)) = w0 at *
  go_wp2_with (first
    | (refine wpList_load_rowG ?hw _ _ rfl _ rfl _ _ _ _ v Try.underlying39 rfl ?hi ?_; (case hw => (first | rfl | (simp [Region.wanted, yielded]; done))); (case hi => (first | kernel_rfl | (rw [vfn_size]; kernel_rfl))))
    | (go_at_call 72; with_reducible refine (WI.out _).mono ?_; rintro e w1 ⟨rfl, hb⟩; replace hB := hB.trans (hb.mono hB.size); replace v := v.below hb v.lt; clear hb)
    | (go_at_call 67; with_reducible refine (NN.out _ hB).mono ?_; rintro e w9 ⟨rfl, rfl⟩))
  go_ret
  exact ⟨rfl, hB⟩
set_option maxRecDepth 100000 in
set_option maxHeartbeats 4000000 in
theorem fpred_ok (Q B r : Nat → Int) (b : Nat) (w : World) (hg : blk w b (fltc (Q, B)) 91) (hz : zQ Q = false) (hr : smallB r 268435456 = true) (hQ : ∀ i, i < 4 → I64 (Q i)) : Calls Try.prog 28 #[.pointer (some ⟨b, 0, none⟩), .agg (vfn r)] w fun e w' => e = .returned (.int .i64 0) ∧ Below w.heap.size (w.setRow b (fltc (ftF Q (partF (vsubF r B) 2), B))) w' := by
  have NN := Lib.hid (fun w' (hb : Below w.heap.size w w') => fnone_any Q B b w' (hg.below hb hg.lt))
  rw [hz] at NN
  have WI := Lib.hid (fun w => gwithin_any r 268435456 w (by omega) (by omega))
  rw [hr] at WI
  have SU := Lib.hid (fun w => vsub_any r B w)
  have PA := Lib.hid (fun w => part_any (vsubF r B) 2 w (vsubF_I r B) ⟨by omega, by omega⟩)
  have FT := Lib.hid (fun (w1 : World) (h1 : blk w1 b (fltc (Q, B)) 91) => fturn_any Q B (partF (vsubF r B) 2) b w1 h1 hQ (partF_I _ _))
  have hgl := hg.lt
  clear hQ
  go_enter Try.func28, Try.ntmps28
  go_upto_region 1 with (fail)
  have v : blk (w.alloc (.cells (vfn r) 39)) w.heap.size (vfn r) 39 := blk.new _ _ _
  have hB : Below w.heap.size w (w.alloc (.cells (vfn r) 39)) := by go_grown
  generalize (w.alloc (.cells (vfn r) 39)) = w0 at *
  go_upto_region 5 with (first
    | (refine wpList_load_rowG ?hw _ _ rfl _ rfl _ _ _ _ v Try.underlying39 rfl ?hi ?_; (case hw => (first | rfl | (simp [Region.wanted, yielded]; done))); (case hi => (first | kernel_rfl | (rw [vfn_size]; kernel_rfl))))
    | (go_at_call 72; with_reducible refine (WI.out _).mono ?_; rintro e w1 ⟨rfl, hb⟩; replace hB := hB.trans (hb.mono hB.size); replace v := v.below hb v.lt; clear hb)
    | (go_at_call 67; with_reducible refine (NN.out _ hB).mono ?_; rintro e w9 ⟨rfl, rfl⟩))
  have f : blk w1 b (fltc (Q, B)) 91 := hg.below hB hg.lt
  clear hg
  have ne_v_f : w.heap.size ≠ b := by omega
  have lt_v := v.lt
  have lt_f := f.lt
  have hW0 : w.heap.size ≤ w1.heap.size := by have := hB.size; first | exact this | simpa using this
  apply wp_region_I 12 [0, 0, 2, 6, 14, 31, 63, 127, 127, 0, 767, 2047] [9] [_, _, _, _, _, _, _, _, _, (fun p => .pointer (some ⟨p 9, 0, none⟩)), (fun _ => undef), _] (fun p L w' => w1.heap.size ≤ w'.heap.size ∧ Below w.heap.size w w' ∧ blk w' w.heap.size (vfn r) 39 ∧ blk w' b (fltc (Q, B)) 91 ∧ (L 9 = true → w1.heap.size ≤ p 9 ∧ blk w' (p 9) (bif L 10 then (vfn (vsubF r B)) else (vfn fun _ => 0)) 39)) _ [(0, 15), (1, 16), (2, 17), (3, 18), (4, 19), (5, 20), (6, 14), (7, 21), (8, 22), (9, 5), (11, 6)] [0, 1, 2, 3, 4, 5, 6, 7, 8, 9, 10, 11]
  case hn => rfl
  case hm => kernel_rfl
  case hB => kernel_rfl
  case hds => kernel_rfl
  case hA => (intro p; simp only [putsD, Act.put, List.setIfInBounds_toArray, List.set_cons_zero, List.set_cons_succ, List.getD_cons_zero, List.getD_cons_succ]; exact rfl)
  case h0 => exact fun p => ⟨Nat.le_refl _, hB.drew, v.drew, f.drew, fun h => absurd h (by decide)⟩
  case hmore => exact fun p L w1 w2 ⟨hsz, hB, v, f, h_d⟩ hm => ⟨Nat.le_trans hsz hm.size, hB.trans (hm.mono (Nat.le_trans hW0 hsz)), v.below hm v.lt, f.below hm f.lt, fun hl => ⟨(h_d hl).1, (h_d hl).2.below hm (h_d hl).2.lt⟩⟩
  case hs =>
    intro more
    refine stepV 0 rfl rfl (fun _ _ _ h => h) ?_ ?_
    · rintro p L w1 ⟨hsz, hB, v, f, h_d⟩ hk
      have L10 : L 10 = false := hk.2.2 10 rfl
      first | exact valR_row _ _ rfl _ rfl _ _ v _ Try.underlying39 rfl (by first | kernel_rfl | (rw [vfn_size]; kernel_rfl)) rfl | (have hc := v.cellIs (vfn_get _ (show 0 < 3 by omega)); go_simp; exact ⟨rfl, rfl⟩)
    refine stepV 1 rfl rfl (fun _ _ _ h => h) ?_ ?_
    · intros; go_simp; exact ⟨rfl, rfl⟩
    refine stepV 2 rfl rfl (fun _ _ _ h => h) ?_ ?_
    · intros; go_simp; exact ⟨rfl, rfl⟩
    refine stepV 3 rfl rfl (fun _ _ _ h => h) ?_ ?_
    · intros; go_simp; exact ⟨rfl, rfl⟩
    refine stepV 4 rfl rfl (fun _ _ _ h => h) ?_ ?_
    · rintro p L w1 ⟨hsz, hB, v, f, h_d⟩ hk
      have L10 : L 10 = false := hk.2.2 10 rfl
      exact valR_part _ _ rfl _ 4 rfl _ _ f (vfn B) (flt_b Q B) _ Try.underlying39 rfl (by rw [vfn_size]; kernel_rfl) rfl
    refine stepD 5 rfl (fun p => rfl) (fun _ _ _ h => h) more ?_ ?_
    · rintro p L w1 ⟨hsz, hB, v, f, h_d⟩ hk
      go_simp
      refine (SU.out _).mono ?_
      rintro e w2 ⟨rfl, h2⟩
      first | exact ⟨rfl, h2⟩ | (subst h2; exact ⟨rfl, Below.refl _ _⟩)
    refine stepV 6 rfl rfl (fun _ _ _ h => h) ?_ ?_
    · intros; go_simp; exact ⟨rfl, rfl⟩
    refine stepV 7 rfl rfl (fun _ _ _ h => h) ?_ ?_
    · intros; go_simp; exact ⟨rfl, rfl⟩
    refine stepV 8 rfl rfl (fun _ _ _ h => h) ?_ ?_
    · intros; go_simp; exact ⟨rfl, rfl⟩
    refine AllI.cons ?_ ?_
    · refine stepI_alloc 9 rfl (fun p => rfl) rfl (vfn fun _ => 0) 39 (fun p => rfl) ?_ ?_
      · intro p w1
        go_simp
        first | rfl | rw [zero_vec]
      rintro p L w1 ⟨hsz, hB, v, f, h_d⟩ hk
      have L10 : L 10 = false := hk.2.2 10 rfl
      refine ⟨Nat.le_trans hsz (by simp), hB.alloc (Nat.le_trans (by first | exact hW0 | (have := hB.size; simp at this ⊢; omega)) hsz) _, v.alloc _, f.alloc _, fun _ => ⟨hsz, ?_⟩⟩
      rw [show upL L 9 10 = false from L10]
      exact blk.new _ _ _
    refine AllI.cons ?_ ?_
    · refine stepI_store 10 rfl (fun p => rfl) (fun p => rfl) _ _ _ rfl (fun p => p 9) 0 (fun p => rfl) (fun p => (vfn (vsubF r B))) (fun p => rfl) (fun p => (vfn fun _ => 0)) (fun p => (vfn (vsubF r B))) 39 (fun p => over_v _ _) (fun p => by first | (rw [vfn_size, vfn_size]; decide) | simp [vfn_size, vfn_size]) (fun p => by rw [vfn_size]; kernel_rfl) (fun p => vfn_one _) ?_ ?_
      · rintro p L w1 ⟨hsz, hB, v, f, h_d⟩ hk
        have L10 : L 10 = false := hk.1
        have hh := (h_d (hk.2.1 9 rfl)).2
        rw [L10] at hh
        try simp only [cond_true, cond_false] at hh
        exact hh
      · rintro p L w1 ⟨hsz, hB, v, f, h_d⟩ hk
        have L10 : L 10 = false := hk.1
        skip
        have hp := h_d (hk.2.1 9 rfl)
        refine ⟨(by simpa using hsz), Below.setRow hB (by first | exact Nat.le_trans hW0 hp.1 | exact ge_d | omega | (have := hB.size; simp at this ⊢; omega)) _, v.rowOther (by first | exact Nat.ne_of_lt (Nat.lt_of_lt_of_le lt_v hp.1) | omega) _, f.rowOther (by first | exact Nat.ne_of_lt (Nat.lt_of_lt_of_le lt_f hp.1) | omega) _, fun _ => ⟨hp.1, ?_⟩⟩
        rw [show upL L 10 10 = true from rfl]
        exact hp.2.row _
    refine stepV 11 rfl rfl (fun _ _ _ h => h) ?_ ?_
    · intros; go_simp; exact ⟨rfl, rfl⟩
    exact AllI.nil
  case hV0 =>
    intro p q
    refine AllI.cons ?_ ?_
    · skip
      iterate 12 (refine AllI.cons (by first | exact .inl rfl | (refine .inr ?_; simp only [List.getD_cons_zero, List.getD_cons_succ]; done) | exact .inr rfl) ?_)
      exact AllI.nil
    exact AllI.nil
  case he =>
  clear hB v f
  rintro p w1r ⟨hsz, hB, v, f, h_d⟩
  obtain ⟨le_d, d⟩ := h_d rfl
  clear h_d
  replace d : blk w1r (p 9) (vfn (vsubF r B)) 39 := d
  have ne_v_d : w.heap.size ≠ p 9 := Nat.ne_of_lt (Nat.lt_of_lt_of_le lt_v le_d)
  have ne_f_d : b ≠ p 9 := Nat.ne_of_lt (Nat.lt_of_lt_of_le lt_f le_d)
  have ge_d : w.heap.size ≤ p 9 := Nat.le_trans hW0 le_d
  generalize p 9 = d_b at *
  clear lt_v
  clear lt_f
  clear hsz hW0
  have ne_d_f : d_b ≠ b := Ne.symm ne_f_d
  go_wp2_with (first | (refine wpList_load_rowG ?hw _ _ rfl _ rfl _ _ _ _ d Try.underlying39 rfl ?hi ?_; (case hw => (first | rfl | (simp [Region.wanted, yielded]; done))); (case hi => (first | kernel_rfl | (rw [vfn_size]; kernel_rfl)))) | (go_at_call 75; with_reducible refine (PA.out _).mono ?_; rintro e w2 ⟨rfl, hb⟩; replace hB := hB.trans (hb.mono hB.size); replace v := v.below hb v.lt; replace f := f.below hb f.lt; replace d := d.below hb d.lt; clear hb) | (go_at_call 74; with_reducible refine (FT.out _ f).mono ?_; rintro e w3 ⟨rfl, hb⟩; replace hB := (rowBoth hB b (fltc (ftF Q (partF (vsubF r B) 2), B))).trans (hb.mono (by have := hB.size; simp at this ⊢; omega)); replace v := (v.rowOther (by first | exact ne_v_f | exact Ne.symm ne_f_v | omega) (fltc (ftF Q (partF (vsubF r B) 2), B))).below hb (by have := v.lt; simpa using this); replace f := (f.row (fltc (ftF Q (partF (vsubF r B) 2), B))).below hb (by have := f.lt; simpa using this); replace d := (d.rowOther (by first | exact ne_d_f | exact Ne.symm ne_f_d | omega) (fltc (ftF Q (partF (vsubF r B) 2), B))).below hb (by have := d.lt; simpa using this); clear hb))
  go_ret
  exact ⟨rfl, hB⟩
end Go.Proofs.Ytnkjbdfhdenbcaa
