/-
  Wheels: Fail.
-/
import Derived.Test.YtjnocbjngojigaaWhB
set_option linter.unusedSimpArgs false
set_option linter.unusedVariables false
namespace Go.Proofs.Ytjnocbjngojigaa
open Go.RowKit PM Dt
def failH (h : Nat → Int) (f i : Int) : Nat → Int := if failE f i = 0 then setF h i.toNat else h
def failF (f i : Int) : Int := if failE f i = 0 then i else f
theorem set_f (h : Nat → Int) (f i : Int) : (setc (h, f)).setIfInBounds 4 (.int .i64 i) = setc (h, i) := rfl
theorem set_0 (h : Nat → Int) (f : Int) {j : Nat} (hj : j < 4) : (setc (h, f)).setIfInBounds j (.int .i64 0) = setc (setF h j, f) := by
  unfold setc setF
  rcases (show j = 0 ∨ j = 1 ∨ j = 2 ∨ j = 3 by omega) with rfl | rfl | rfl | rfl <;> simp
set_option maxRecDepth 100000 in
set_option maxHeartbeats 2000000 in
theorem sfail_a (h : Nat → Int) (f i : Int) (b : Nat) (w : World) (hg : blk w b (setc (h, f)) 126) (hi : i < 0) : Calls Try.prog 67 #[.pointer (some ⟨b, 0, none⟩), .int .i64 i] w fun e w' => e = .returned (.int .i64 (failE f i)) ∧ blk w' b (setc (failH h f i, failF f i)) 126 ∧ Save b b w w' := by
  have hB : Below w.heap.size w w := Below.refl _ _
  have NN := Lib.hid (fun w' (hb : Below w.heap.size w w') => snone_any h f b w' (hg.below hb hg.lt))
  have d1 : decide (i < 0) = true := decide_eq_true hi
  have E : failE f i = 2 := by unfold failE; rw [d1]; rfl
  unfold failH failF
  rw [E, if_neg (by decide), if_neg (by decide)]
  clear E
  go_enter Try.func67, Try.ntmps67
  go_wp2_with (first
    | (go_at_call 79; with_reducible refine (NN.out _ hB).mono ?_; rintro e w9 ⟨rfl, rfl⟩)
    | (go_at_call 78; with_reducible refine (IS.out _).mono ?_; rintro e w9 ⟨rfl, hb⟩; replace hB := hB.trans (hb.mono hB.size); clear hb))
  go_ret
  exact ⟨rfl, hg.below hB hg.lt, Save.of hB⟩
set_option maxRecDepth 100000 in
set_option maxHeartbeats 2000000 in
theorem sfail_b (h : Nat → Int) (f i : Int) (b : Nat) (w : World) (hg : blk w b (setc (h, f)) 126) (hi : 3 < i) : Calls Try.prog 67 #[.pointer (some ⟨b, 0, none⟩), .int .i64 i] w fun e w' => e = .returned (.int .i64 (failE f i)) ∧ blk w' b (setc (failH h f i, failF f i)) 126 ∧ Save b b w w' := by
  have hB : Below w.heap.size w w := Below.refl _ _
  have NN := Lib.hid (fun w' (hb : Below w.heap.size w w') => snone_any h f b w' (hg.below hb hg.lt))
  have d1 : decide (i < 0) = false := decide_eq_false (by omega)
  have E : failE f i = 2 := by unfold failE; rw [d1, decide_eq_true hi]; rfl
  have IS := Lib.hid (fun w => is_any i w)
  rw [show isW i = false from by unfold isW; rw [decide_eq_false (show ¬ i ≤ 3 by omega), Bool.and_false]] at IS
  unfold failH failF
  rw [E, if_neg (by decide), if_neg (by decide)]
  clear E
  go_enter Try.func67, Try.ntmps67
  go_wp2_with (first
    | (go_at_call 79; with_reducible refine (NN.out _ hB).mono ?_; rintro e w9 ⟨rfl, rfl⟩)
    | (go_at_call 78; with_reducible refine (IS.out _).mono ?_; rintro e w9 ⟨rfl, hb⟩; replace hB := hB.trans (hb.mono hB.size); clear hb))
  go_ret
  exact ⟨rfl, hg.below hB hg.lt, Save.of hB⟩
set_option maxRecDepth 100000 in
set_option maxHeartbeats 2000000 in
theorem sfail_c (h : Nat → Int) (f i : Int) (b : Nat) (w : World) (hg : blk w b (setc (h, f)) 126) (h0 : 0 ≤ i) (h3 : i ≤ 3) (hf : 0 ≤ f) : Calls Try.prog 67 #[.pointer (some ⟨b, 0, none⟩), .int .i64 i] w fun e w' => e = .returned (.int .i64 (failE f i)) ∧ blk w' b (setc (failH h f i, failF f i)) 126 ∧ Save b b w w' := by
  have hB : Below w.heap.size w w := Below.refl _ _
  have NN := Lib.hid (fun w' (hb : Below w.heap.size w w') => snone_any h f b w' (hg.below hb hg.lt))
  have d1 : decide (i < 0) = false := decide_eq_false (by omega)
  have d2 : decide (0 ≤ f) = true := decide_eq_true hf
  have hc4 : ∀ w', Below w.heap.size w w' → w'.cell? ⟨b, 4, none⟩ = some (.int .i64 f) := fun w' hb => (hg.below hb hg.lt).cellIs rfl
  replace hc4 := Lib.hid hc4
  have E : failE f i = 5 := by unfold failE; rw [d1, decide_eq_false (show ¬ 3 < i by omega), d2]; rfl
  have IS := Lib.hid (fun w => is_any i w)
  rw [show isW i = true from by unfold isW; rw [decide_eq_true (show -1 ≤ i by omega), decide_eq_true (show i ≤ 3 by omega)]; rfl] at IS
  unfold failH failF
  rw [E, if_neg (by decide), if_neg (by decide)]
  clear E
  go_enter Try.func67, Try.ntmps67
  go_upto_region 5 with (first | (go_at_call 79; with_reducible refine (NN.out _ hB).mono ?_; rintro e w9 ⟨rfl, rfl⟩) | (go_at_call 78; with_reducible refine (IS.out _).mono ?_; rintro e w9 ⟨rfl, hb⟩; replace hB := hB.trans (hb.mono hB.size); clear hb))
  have hc := hc4.out _ hB
  clear hc4
  go_wp2_with (fail)
  go_ret
  exact ⟨rfl, hg.below hB hg.lt, Save.of hB⟩
set_option maxRecDepth 100000 in
set_option maxHeartbeats 2000000 in
theorem sfail_ok (h : Nat → Int) (f : Int) (b j : Nat) (w : World) (hg : blk w b (setc (h, f)) 126) (hj : j < 4) (hf : f < 0) : Calls Try.prog 67 #[.pointer (some ⟨b, 0, none⟩), .int .i64 j] w fun e w' => e = .returned (.int .i64 0) ∧ blk w' b (setc (setF h j, j)) 126 ∧ Save b b w w' := by
  have hB : Below w.heap.size w w := Below.refl _ _
  have NN := Lib.hid (fun w' (hb : Below w.heap.size w w') => snone_any h f b w' (hg.below hb hg.lt))
  have d1 : decide ((j : Int) < 0) = false := decide_eq_false (by omega)
  have hj3 : (j : Int) < 4 := by omega
  have d2 : decide (0 ≤ f) = false := decide_eq_false (by omega)
  have IS := Lib.hid (fun w => is_any j w)
  rw [show isW j = true from by unfold isW; rw [decide_eq_true (show (-1 : Int) ≤ j by omega), decide_eq_true (show (j : Int) ≤ 3 by omega)]; rfl] at IS
  have hc4 : ∀ w', Below w.heap.size w w' → w'.cell? ⟨b, 4, none⟩ = some (.int .i64 f) := fun w' hb => (hg.below hb hg.lt).cellIs rfl
  replace hc4 := Lib.hid hc4
  go_enter Try.func67, Try.ntmps67
  go_upto_region 5 with (first | (go_at_call 79; with_reducible refine (NN.out _ hB).mono ?_; rintro e w9 ⟨rfl, rfl⟩) | (go_at_call 78; with_reducible refine (IS.out _).mono ?_; rintro e w9 ⟨rfl, hb⟩; replace hB := hB.trans (hb.mono hB.size); clear hb))
  have hc := hc4.out _ hB
  clear hc4
  go_upto_region 7 with (fail)
  have g : blk w9 b (setc (h, f)) 126 := hg.below hB hg.lt
  replace hB : Save b b w w9 := Save.of hB
  clear NN IS hc
  have lt_g := g.lt
  have hW0 : w.heap.size ≤ w9.heap.size := by have := hB.size; first | exact this | simpa using this
  apply wp_region_I 13 [0, 0, 0, 0, 9, 25, 57, 121, 2, 258, 770, 2047, 4095] [] [_, _, _, _, _, _, _, (fun _ => undef), _, _, _, _, (fun _ => undef)] (fun p L w' => w9.heap.size ≤ w'.heap.size ∧ Save b b w w' ∧ blk w' b (bif L 12 then (setc (setF h j, (j : Int))) else (bif L 7 then (setc (h, (j : Int))) else (setc (h, f)))) 126) _ [(0, 23), (1, 24), (2, 25), (3, 26), (4, 27), (5, 28), (6, 29), (8, 30), (9, 31), (10, 32), (11, 33)] [0, 1, 2, 3, 4, 5, 6, 7, 8, 9, 10, 11, 12]
  case hn => rfl
  case hm => kernel_rfl
  case hB => kernel_rfl
  case hds => kernel_rfl
  case hA => (intro p; simp only [putsD, Act.put, List.setIfInBounds_toArray, List.set_cons_zero, List.set_cons_succ, List.getD_cons_zero, List.getD_cons_succ]; exact rfl)
  case h0 => exact fun p => ⟨Nat.le_refl _, hB.drew, g.drew⟩
  case hmore => exact fun p L w1 w2 ⟨hsz, hB, g⟩ hm => ⟨Nat.le_trans hsz hm.size, hB.trans (hm.mono (Nat.le_trans hW0 hsz)), g.below hm g.lt⟩
  case hs =>
    intro more
    refine stepV 0 rfl rfl (fun _ _ _ h => h) ?_ ?_
    · intros; go_simp; exact ⟨rfl, rfl⟩
    refine stepV 1 rfl rfl (fun _ _ _ h => h) ?_ ?_
    · intros; go_simp; exact ⟨rfl, rfl⟩
    refine stepV 2 rfl rfl (fun _ _ _ h => h) ?_ ?_
    · intros; go_simp; exact ⟨rfl, rfl⟩
    refine stepV 3 rfl rfl (fun _ _ _ h => h) ?_ ?_
    · intros; go_simp; exact ⟨rfl, rfl⟩
    refine stepV 4 rfl rfl (fun _ _ _ h => h) ?_ ?_
    · intros; go_simp; exact ⟨rfl, rfl⟩
    refine stepV 5 rfl rfl (fun _ _ _ h => h) ?_ ?_
    · intros; go_simp; exact ⟨rfl, rfl⟩
    refine stepV 6 rfl rfl (fun _ _ _ h => h) ?_ ?_
    · intros; go_simp; exact ⟨rfl, rfl⟩
    refine AllI.cons ?_ ?_
    · refine stepI_cell 7 rfl (fun p => rfl) (fun p => rfl) (fun _ => b) (4) (fun p => .int .i64 j) (fun p => (setc (h, f))) (fun p => (setc (h, (j : Int)))) 126 (fun p => set_f h f j) ?_ ?_ ?_
      · rintro p L w1 ⟨hsz, hB, g⟩ hk
        have L7 : L 7 = false := hk.1
        have L12 : L 12 = false := hk.2.2 12 rfl
        rw [L7, L12] at g
        try simp only [cond_true, cond_false] at g
        exact g
      · intro p w1 hb
        have fz : w1.frozen? ⟨b, 4, none⟩ = false := hb.free _
        have cz : ∃ u, w1.cell? ⟨b, 4, none⟩ = some u := ⟨_, hb.cellIs (rfl)⟩
        obtain ⟨u, cz⟩ := cz
        go_simp
        try exact ⟨_, rfl, by first | exact .inl rfl | exact .inr rfl⟩
      · rintro p L w1 ⟨hsz, hB, g⟩ hk
        have L7 : L 7 = false := hk.1
        have L12 : L 12 = false := hk.2.2 12 rfl
        refine ⟨(by simpa using hsz), hB.row (by first | exact .inr (Nat.le_trans hW0 hp.1) | exact .inr ge_g | exact .inl ⟨Nat.le_refl _, Nat.le_refl _⟩ | omega | (have := hB.size; simp at this ⊢; omega)) _, ?_⟩
        rw [show upL L 7 12 = false from L12, show upL L 7 7 = true from rfl]
        exact g.row _
    refine stepV 8 rfl rfl (fun _ _ _ h => h) ?_ ?_
    · intros; go_simp; exact ⟨rfl, rfl⟩
    refine stepV 9 rfl rfl (fun _ _ _ h => h) ?_ ?_
    · intros; go_simp; exact ⟨rfl, rfl⟩
    refine stepV 10 rfl rfl (fun _ _ _ h => h) ?_ ?_
    · intros; go_simp; exact ⟨rfl, rfl⟩
    refine stepV 11 rfl rfl (fun _ _ _ h => h) ?_ ?_
    · intros; go_simp; exact ⟨rfl, rfl⟩
    refine AllI.cons ?_ ?_
    · refine stepI_cell 12 rfl (fun p => rfl) (fun p => rfl) (fun _ => b) (j) (fun p => .int .i64 0) (fun p => (setc (h, (j : Int)))) (fun p => (setc (setF h j, (j : Int)))) 126 (fun p => set_0 h j hj) ?_ ?_ ?_
      · rintro p L w1 ⟨hsz, hB, g⟩ hk
        have L7 : L 7 = true := hk.2.1 7 rfl
        have L12 : L 12 = false := hk.1
        rw [L7, L12] at g
        try simp only [cond_true, cond_false] at g
        exact g
      · intro p w1 hb
        have fz : w1.frozen? ⟨b, j, none⟩ = false := hb.free _
        have cz : ∃ u, w1.cell? ⟨b, j, none⟩ = some u := ⟨_, hb.cellIs (set_i _ _ hj)⟩
        obtain ⟨u, cz⟩ := cz
        go_simp
        try exact ⟨_, rfl, by first | exact .inl rfl | exact .inr rfl⟩
      · rintro p L w1 ⟨hsz, hB, g⟩ hk
        have L7 : L 7 = true := hk.2.1 7 rfl
        have L12 : L 12 = false := hk.1
        refine ⟨(by simpa using hsz), hB.row (by first | exact .inr (Nat.le_trans hW0 hp.1) | exact .inr ge_g | exact .inl ⟨Nat.le_refl _, Nat.le_refl _⟩ | omega | (have := hB.size; simp at this ⊢; omega)) _, ?_⟩
        rw [show upL L 12 12 = true from rfl]
        exact g.row _
    exact AllI.nil
  case hV0 => exact fun p q => AllI.nil
  case he =>
  clear hB g
  rintro p w9r ⟨hsz, hB, g⟩
  replace g : blk w9r b (setc (setF h j, (j : Int))) 126 := g
  clear lt_g
  clear hsz hW0
  go_wp2_with (fail)
  go_ret
  exact ⟨rfl, g, hB⟩
theorem sfail_any (h : Nat → Int) (f i : Int) (b : Nat) (w : World) (hg : blk w b (setc (h, f)) 126) : Calls Try.prog 67 #[.pointer (some ⟨b, 0, none⟩), .int .i64 i] w fun e w' => e = .returned (.int .i64 (failE f i)) ∧ blk w' b (setc (failH h f i, failF f i)) 126 ∧ Save b b w w' := by
  by_cases h1 : i < 0
  · exact sfail_a h f i b w hg h1
  · by_cases h2 : 3 < i
    · exact sfail_b h f i b w hg h2
    · by_cases h3 : 0 ≤ f
      · exact sfail_c h f i b w hg (by omega) (by omega) h3
      · obtain ⟨j, rfl⟩ : ∃ j : Nat, i = j := ⟨i.toNat, by omega⟩
        have E : failE f j = 0 := by unfold failE; rw [decide_eq_false h1, decide_eq_false h2, decide_eq_false h3]; rfl
        unfold failH failF
        rw [E, if_pos rfl, if_pos rfl, Int.toNat_natCast]
        exact sfail_ok h f b j w hg (by omega) (by omega)
/-- The same, as a turned row. -/
theorem Save.toRow {b : Nat} {w w' : World} {c0 c : Array Value} {t : TypeId} (h0 : blk w b c0 t) (hs : Save b b w w') (h1 : blk w' b c t) : Below w.heap.size (w.setRow b c) w' :=
  ⟨hs.os, hs.tape, hs.output, by have := hs.size; simpa using this, fun k hk => by
    by_cases e : k = b
    · subst e
      have : blk (w.setRow k c) k c t := h0.row c
      unfold blk at this h1
      rw [this, h1]
    · rw [setRow_other _ _ _ _ e]
      exact hs.block k hk (by omega)⟩
theorem sstep_row (h : Nat → Int) (f : Int) (b : Nat) (c : Nat → Int) (w : World) (hg : blk w b (setc (h, f)) 126) (hI : SI h f) : Calls Try.prog 68 #[.pointer (some ⟨b, 0, none⟩), .agg (qfn c)] w fun e w' => e = .returned (.int .i64 0) ∧ Below w.heap.size (w.setRow b (setc (stpF h f c, f))) w' :=
  (sstep_any h f b c w hg hI).mono fun e w' ⟨he, hb, hs⟩ => ⟨he, hs.toRow hg hb⟩
end Go.Proofs.Ytjnocbjngojigaa
