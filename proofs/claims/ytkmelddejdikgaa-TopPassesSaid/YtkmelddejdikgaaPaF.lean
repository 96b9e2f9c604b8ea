/-
  Check and checked.
-/
import Derived.Test.YtkmelddejdikgaaPaM
set_option linter.unusedSimpArgs false
set_option linter.unusedVariables false
namespace Go.Proofs.Ytkmelddejdikgaa
open Go.RowKit PM Dt Pa
/-- What Check says of rules. -/
def ruBad (g : Int × Int × Int) : Bool := decide (g.1 < 0) || (decide (1099511627776 < g.1) || (decide (g.2.1 < 0) || (decide (1000 < g.2.1) || (decide (g.2.2 < 0) || decide (40 < g.2.2)))))
def ruE (g : Int × Int × Int) : Int := if ruBad g then 2 else 0
theorem ru_ok {g : Int × Int × Int} (h : ruE g = 0) : (0 ≤ g.1 ∧ g.1 ≤ 1099511627776) ∧ (0 ≤ g.2.1 ∧ g.2.1 ≤ 1000) ∧ 0 ≤ g.2.2 ∧ g.2.2 ≤ 40 := by
  unfold ruE at h
  cases hb : ruBad g with
  | true => rw [hb] at h; cases h
  | false =>
    unfold ruBad at hb
    simp only [Bool.or_eq_false_iff, decide_eq_false_iff_not] at hb
    omega
/-- The indices of a plan. -/
def Pli (w : World) (a : Option Addr) (q : List Nat) : Prop := Els w a q.length 1 (fun k => [.int .i64 ((q.getD k 0 : Nat) : Int)])
set_option maxRecDepth 100000 in
set_option maxHeartbeats 6000000 in
theorem pcheck_any (L : Nat → Nat → Int) (a : Option Addr) (n c : Nat) (g : Int × Int × Int) (w : World) (el : Els w a n 5 (fun k => (wnc (L k)).toList)) (hW : WOk n L) (hn : n ≤ 40) : Calls Try.prog 22 #[.slice a n c, .agg (ruc g)] w fun e w' => e = .returned (.int .i64 (ruE g)) ∧ Below w.heap.size w w' := by
  replace el := Lib.hid el
  replace hW := Lib.hid hW
  have dn : decide ((40 : Int) < n) = false := decide_eq_false (by omega)
  have dn' : decide (40 < n) = false := decide_eq_false (by omega)
  go_enter Try.func22, Try.ntmps22
  go_upto_region 1 with (fail)
  have u : blk (w.alloc (.cells (ruc g) 57)) w.heap.size (ruc g) 57 := blk.new _ _ _
  have hB : Below w.heap.size w (w.alloc (.cells (ruc g) 57)) := by go_grown
  generalize (w.alloc (.cells (ruc g) 57)) = w0 at *
  go_wp2_with (fail)
  go_loopg [12] n (fun g_ iv wr => ∃ j : Nat, g_ + j = n ∧ iv = .int .i64 j ∧ blk wr w.heap.size (ruc g) 57 ∧ Below w.heap.size w wr)
  case atStart => exact ⟨0, by omega, rfl, u, hB⟩
  case round =>
    clear u hB dn dn'
    obtain ⟨j, hj, rfl, u, hB⟩ := hrel
    by_cases hjn : j < n
    · have hdj : decide ((j : Int) < n) = true := decide_eq_true (by omega)
      have hdj' : decide (j < n) = true := decide_eq_true hjn
      have hj3 : (j : Int) < n := by omega
      have hj0 : (0 : Int) ≤ j := by omega
      have hwj : IntKind.i64.wrap ((j : Int) + 1) = ((j + 1 : Nat) : Int) := by rw [IntKind.wrap_i64]; omega
      obtain ⟨eb, eo, rfl, hEl, hE⟩ := el.out j hjn
      replace hE : w.rangeAt eb (eo + j * 5) ((wnc (L j)).toList) := hE
      have b1 := hW.out.a j hjn
      have b2 := hW.out.s j hjn
      have b3 := hW.out.v j hjn
      have b4 := hW.out.c j hjn
      generalize hwi : L j = wi at *
      clear hwi
      have e0 : decide (wi 0 < 0) = false := decide_eq_false (by omega)
      have e1 : decide (wi 1 ≤ wi 0) = false := decide_eq_false (by omega)
      have e2 : decide ((1099511627776 : Int) < wi 1) = false := decide_eq_false (by omega)
      have e3 : decide (wi 2 < 0) = false := decide_eq_false (by omega)
      have e4 : decide ((255 : Int) < wi 2) = false := decide_eq_false (by omega)
      have e5 : decide (wi 3 < 0) = false := decide_eq_false (by omega)
      have e6 : decide ((1099511627776 : Int) < wi 3) = false := decide_eq_false (by omega)
      have e7 : decide (wi 4 < 0) = false := decide_eq_false (by omega)
      have e8 : decide ((1000 : Int) < wi 4) = false := decide_eq_false (by omega)
      clear b1 b2 b3 b4
      go_upto_region 5 with (fail)
      have lt_u := u.lt
      have hW0 : w.heap.size ≤ wr.heap.size := by have := hB.size; first | exact this | simpa using this
      apply wp_region_Q 4 [0, 1, 3, 7] [2] [_, _, (fun p => .pointer (some ⟨p 2, 0, none⟩)), (fun _ => undef)] (fun p L w' => wr.heap.size ≤ w'.heap.size ∧ Below w.heap.size w w' ∧ blk w' w.heap.size (ruc g) 57 ∧ (L 2 = true → wr.heap.size ≤ p 2 ∧ blk w' (p 2) (bif L 3 then (wnc wi) else (wnc fun _ => 0)) 72)) _ [(0, 14), (1, 15), (2, 6)] [0, 1, 2, 3]
      case hn => rfl
      case hB => kernel_rfl
      case hds => kernel_rfl
      case hA => (intro p; simp only [putsD, Act.put, List.setIfInBounds_toArray, List.set_cons_zero, List.set_cons_succ, List.getD_cons_zero, List.getD_cons_succ]; exact rfl)
      case h0 => exact fun p => ⟨Nat.le_refl _, hB, u, fun h => absurd h (by decide)⟩
      case hmore => exact fun p L w1 w2 ⟨hsz, hB, u, h_x⟩ hm => ⟨Nat.le_trans hsz hm.size, hB.trans (hm.mono (Nat.le_trans hW0 hsz)), u.below hm u.lt, fun hl => ⟨(h_x hl).1, (h_x hl).2.below hm (h_x hl).2.lt⟩⟩
      case hs =>
        intro more
        refine stepV _ rfl rfl (fun _ _ _ h => h) (by intros; go_simp; exact ⟨rfl, rfl⟩) ?_
        refine stepV 1 rfl rfl (fun _ _ _ h => h) ?_ ?_
        · rintro p L w1 ⟨hsz, hB, u, h_x⟩ hk
          have hr := range_below hE hB hEl
          exact valR_range _ _ rfl _ _ rfl _ (eo + j * 5) 0 hr (by first | rfl | omega) (wnc wi) (wnc_get wi) _ Try.underlying72 rfl (by rw [wnc_size]; kernel_rfl) rfl
        refine AllI.cons ?_ ?_
        · refine stepI_alloc 2 rfl (fun p => rfl) rfl (wnc fun _ => 0) 72 (fun p => rfl) ?_ ?_
          · intro p w1
            go_simp
            first | done | rfl | rw [zero_wnc]
          rintro p L w1 ⟨hsz, hB, u, h_x⟩ hk
          have L3 : L 3 = false := hk.2.2 3 rfl
          refine ⟨Nat.le_trans hsz (by simp), hB.alloc (Nat.le_trans (by first | exact hW0 | (have := hB.size; simp at this ⊢; omega)) hsz) _, u.alloc _, fun _ => ⟨hsz, ?_⟩⟩
          rw [show upL L 2 3 = false from L3]
          exact blk.new _ _ _
        refine AllI.cons ?_ ?_
        · refine stepI_store 3 rfl (fun p => rfl) (fun p => rfl) _ _ _ rfl (fun p => p 2) 0 (fun p => rfl) (fun p => (wnc wi)) (fun p => rfl) (fun p => (wnc fun _ => 0)) (fun p => (wnc wi)) 72 (fun p => over_wnc _ _) (fun p => by first | (rw [wnc_size, wnc_size]; decide) | simp [wnc_size, wnc_size]) (fun p => by rw [wnc_size]; kernel_rfl) (fun p => wnc_one _) ?_ ?_
          · rintro p L w1 ⟨hsz, hB, u, h_x⟩ hk
            have L3 : L 3 = false := hk.1
            have hh := (h_x (hk.2.1 2 rfl)).2
            rw [L3] at hh
            try simp only [cond_true, cond_false] at hh
            exact hh
          · rintro p L w1 ⟨hsz, hB, u, h_x⟩ hk
            have L3 : L 3 = false := hk.1
            skip
            have hp := h_x (hk.2.1 2 rfl)
            refine ⟨(by simpa using hsz), Below.setRow hB (by first | exact Nat.le_trans hW0 hp.1 | exact ge_x | omega | (have := hB.size; simp at this ⊢; omega)) _, u.rowOther (by first | exact Nat.ne_of_lt (Nat.lt_of_lt_of_le lt_u hp.1) | omega) _, fun _ => ⟨hp.1, ?_⟩⟩
            rw [show upL L 3 3 = true from rfl]
            exact hp.2.row _
        exact AllI.nil
      case hV0 =>
        intro p q
        refine AllI.cons ?_ ?_
        · skip
          iterate 4 (refine AllI.cons (by first | exact .inl rfl | (refine .inr ?_; simp only [List.getD_cons_zero, List.getD_cons_succ]; done) | exact .inr rfl) ?_)
          exact AllI.nil
        exact AllI.nil
      case he =>
      clear hB u
      rintro p wrr ⟨hsz, hB, u, h_x⟩
      obtain ⟨le_x, x⟩ := h_x rfl
      clear h_x
      replace x : blk wrr (p 2) (wnc wi) 72 := x
      have ne_u_x : w.heap.size ≠ p 2 := Nat.ne_of_lt (Nat.lt_of_lt_of_le lt_u le_x)
      have ge_x : w.heap.size ≤ p 2 := Nat.le_trans hW0 le_x
      generalize p 2 = x_b at *
      clear lt_u
      clear hsz hW0
      have cx0 : wrr.cell? ⟨x_b, 0, none⟩ = some (.int .i64 (wi 0)) := x.cellIs rfl
      have cx1 : wrr.cell? ⟨x_b, 1, none⟩ = some (.int .i64 (wi 1)) := x.cellIs rfl
      have cx2 : wrr.cell? ⟨x_b, 2, none⟩ = some (.int .i64 (wi 2)) := x.cellIs rfl
      have cx3 : wrr.cell? ⟨x_b, 3, none⟩ = some (.int .i64 (wi 3)) := x.cellIs rfl
      have cx4 : wrr.cell? ⟨x_b, 4, none⟩ = some (.int .i64 (wi 4)) := x.cellIs rfl
      go_wp2_with (fail)
      go_roundg (n - (j + 1))
      case rel => exact ⟨j + 1, by omega, rfl, u, hB⟩
      case measure => omega
    · obtain rfl : n = j := by omega
      have hdj : decide ((n : Int) < n) = false := decide_eq_false (by omega)
      clear hjn hj hW el
      have cu0 : wr.cell? ⟨w.heap.size, 0, none⟩ = some (.int .i64 (g.1)) := u.cellIs rfl
      have cu1 : wr.cell? ⟨w.heap.size, 1, none⟩ = some (.int .i64 (g.2.1)) := u.cellIs rfl
      have cu2 : wr.cell? ⟨w.heap.size, 2, none⟩ = some (.int .i64 (g.2.2)) := u.cellIs rfl
      cases t0 : decide (g.1 < 0)
      · skip
        cases t1 : decide ((1099511627776 : Int) < g.1)
        · skip
          cases t2 : decide (g.2.1 < 0)
          · skip
            cases t3 : decide ((1000 : Int) < g.2.1)
            · skip
              cases t4 : decide (g.2.2 < 0)
              · skip
                cases t5 : decide ((40 : Int) < g.2.2)
                · skip
                  go_wp2_with (fail)
                  go_ret
                  refine ⟨?_, hB⟩
                  unfold ruE ruBad; rw [t0, t1, t2, t3, t4, t5]; rfl
                · go_wp2_with (fail)
                  go_ret
                  refine ⟨?_, hB⟩
                  unfold ruE ruBad; rw [t0, t1, t2, t3, t4, t5]; rfl
              · go_wp2_with (fail)
                go_ret
                refine ⟨?_, hB⟩
                unfold ruE ruBad; rw [t0, t1, t2, t3, t4]; rfl
            · go_wp2_with (fail)
              go_ret
              refine ⟨?_, hB⟩
              unfold ruE ruBad; rw [t0, t1, t2, t3]; rfl
          · go_wp2_with (fail)
            go_ret
            refine ⟨?_, hB⟩
            unfold ruE ruBad; rw [t0, t1, t2]; rfl
        · go_wp2_with (fail)
          go_ret
          refine ⟨?_, hB⟩
          unfold ruE ruBad; rw [t0, t1]; rfl
      · go_wp2_with (fail)
        go_ret
        refine ⟨?_, hB⟩
        unfold ruE ruBad; rw [t0]; rfl
set_option maxRecDepth 100000 in
set_option maxHeartbeats 6000000 in
theorem checked_ok (L : Nat → Nat → Int) (a pa : Option Addr) (n c pc : Nat) (q : List Nat) (g : Int × Int × Int) (w : World) (el : Els w a n 5 (fun k => (wnc (L k)).toList)) (hW : WOk n L) (hn : n ≤ 40) (hg : ruE g = 0) (pl : Pli w pa q) (hq : q.length ≤ 40) (hi : ∀ k, k < q.length → q.getD k 0 < n) : Calls Try.prog 73 #[.slice a n c, .agg (ruc g), .slice pa q.length pc] w fun e w' => e = .returned (.int .i64 0) ∧ Below w.heap.size w w' := by
  have CH := Lib.hid (fun w1 x1 => pcheck_any L a n c g w1 x1 hW hn)
  rw [hg] at CH
  replace el := Lib.hid el
  replace pl := Lib.hid pl
  replace hi := Lib.hid hi
  clear hW hg
  have dn : decide ((40 : Int) < q.length) = false := decide_eq_false (by omega)
  have dn' : decide (40 < q.length) = false := decide_eq_false (by omega)
  generalize hm : q.length = m at *
  replace hm := Lib.hid hm
  go_enter Try.func73, Try.ntmps73
  go_upto_region 1 with (fail)
  have u : blk (w.alloc (.cells (ruc g) 57)) w.heap.size (ruc g) 57 := blk.new _ _ _
  have hB : Below w.heap.size w (w.alloc (.cells (ruc g) 57)) := by go_grown
  generalize (w.alloc (.cells (ruc g) 57)) = w0 at *
  go_wp2_with (first
    | (refine wpList_load_rowG ?hw _ _ rfl _ rfl _ _ _ _ u Try.underlying57 rfl ?hi ?_; (case hw => (first | rfl | (simp [Region.wanted, yielded]; done))); (case hi => (first | kernel_rfl | (rw [ruc_size]; kernel_rfl))))
    | (go_at_call 22; with_reducible refine (CH.out _ (el.out.below hB (Nat.le_refl _))).mono ?_; rintro e w1 ⟨rfl, hb⟩; replace hB := hB.trans (hb.mono hB.size); replace u := u.below hb u.lt; clear hb))
  clear dn dn'
  go_loopg [21] m (fun g_ iv wr => ∃ j : Nat, g_ + j = m ∧ iv = .int .i64 j ∧ Below w.heap.size w wr)
  case atStart => exact ⟨0, by omega, rfl, hB⟩
  case round =>
    clear u hB CH
    obtain ⟨j, hj, rfl, hB⟩ := hrel
    by_cases hjn : j < m
    · have hdj : decide ((j : Int) < m) = true := decide_eq_true (by omega)
      have hdj' : decide (j < m) = true := decide_eq_true hjn
      have hj3 : (j : Int) < m := by omega
      have hj0 : (0 : Int) ≤ j := by omega
      have hwj : IntKind.i64.wrap ((j : Int) + 1) = ((j + 1 : Nat) : Int) := by rw [IntKind.wrap_i64]; omega
      obtain ⟨eb, eo, rfl, hEl, hE⟩ := pl.out j (by rw [hm.out]; exact hjn)
      have hz := hi.out j hjn
      have hr : wr.cell? ⟨eb, eo + j * 1 + 0, none⟩ = some (.int .i64 ((q.getD j 0 : Nat) : Int)) := (range_below hE hB hEl) 0 _ rfl
      rw [Nat.mul_one, Nat.add_zero] at hr
      generalize q.getD j 0 = z at *
      have cz := hr
      clear hr
      have e0 : decide ((z : Int) < 0) = false := decide_eq_false (by omega)
      have e1 : decide ((n : Int) ≤ z) = false := decide_eq_false (by omega)
      have e1' : decide (n ≤ z) = false := decide_eq_false (by omega)
      go_wp2_with (fail)
      go_roundg (m - (j + 1))
      case rel => exact ⟨j + 1, by omega, rfl, hB⟩
      case measure => omega
    · obtain rfl : m = j := by omega
      have hdj : decide ((m : Int) < m) = false := decide_eq_false (by omega)
      go_wp2_with (fail)
      go_ret
      exact ⟨rfl, hB⟩
end Go.Proofs.Ytkmelddejdikgaa
