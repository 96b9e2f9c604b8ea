/-
  What the statements on bodies ask for first.
-/
import Derived.Test.YtjnocbjngojigaaGreatBdC
import Derived.Test.YtjnocbjngojigaaGreatBdP
import Derived.Test.YtjnocbjngojigaaGreatLawVec
import Derived.Test.YtjnocbjngojigaaGreatQEq
set_option linter.unusedSimpArgs false
set_option linter.unusedVariables false
namespace Go.Proofs.YtjnocbjngojigaaGreat
open Go.RowKit PM Dt
theorem aw24_n : newB (of4 0 0 0 0) (-1) = true := by decide +kernel
theorem aw24_v : validQ (of4 1073741824 0 0 0) = true := by decide +kernel
theorem aw24_a : allB (of3 0 0 1048576) = true := by decide +kernel
def aw24_X : BSt := ⟨(of4 1073741824 0 0 0), (of3 0 0 1048576), (of4 0 0 0 0), -1⟩
theorem aw24_I : BI aw24_X := ⟨of4_I ⟨by omega, by omega⟩ ⟨by omega, by omega⟩ ⟨by omega, by omega⟩ ⟨by omega, by omega⟩, aw24_v, aw24_a, (newB_SI aw24_n).1⟩
theorem aw24_r : vfn (mulF 4 (momF aw24_X)) = vfn (of3 0 0 4194304) := vfn_congr (by decide +kernel)
theorem aw24_c : vfn (qrotF (attG aw24_X.Q (tickL aw24_X (of4 0 0 0 0))) (of3 0 0 0)) = vfn (of3 0 0 0) := vfn_congr (by decide +kernel)
theorem aw24_q : qfn (attG aw24_X.Q (tickL aw24_X (of4 0 0 0 0))) = qfn (of4 1073739776 0 0 2097148) := qfn_congr (by decide +kernel)
theorem aw24_t : vfn (vaddF aw24_X.T (qrotF (attG aw24_X.Q (tickL aw24_X (of4 0 0 0 0))) (of3 0 0 0))) = vfn (of3 0 0 1048576) := vfn_congr (by decide +kernel)
theorem aw24_h : qfn (tickH aw24_X (of4 0 0 0 0)) = qfn (of4 0 0 0 0) := qfn_congr (by decide +kernel)
set_option maxRecDepth 100000 in
theorem aw24_tick (lo b : Nat) (w : World) (o : bod lo b w aw24_X) : Calls Tryz.prog 20 #[.pointer (some ⟨b, 0, none⟩), .agg #[.int .i64 0, .int .i64 0, .int .i64 0, .int .i64 0], .agg #[.int .i64 0, .int .i64 0, .int .i64 0]] w fun e w' => e = .returned (.tuple #[.agg (vfn (of3 0 0 0)), .int .i64 0]) ∧ bod lo b w' ⟨(of4 1073739776 0 0 2097148), (of3 0 0 1048576), (of4 0 0 0 0), -1⟩ ∧ Save lo b w w' := by
  rw [of4_cells, of3_cells]
  have hb : allB (vaddF aw24_X.T (qrotF (attG aw24_X.Q (tickL aw24_X (of4 0 0 0 0))) (of3 0 0 0))) = true := by decide +kernel
  have h := btick_ok aw24_X lo b (of4 0 0 0 0) (of3 0 0 0) w o aw24_I.q aw24_I.s (by decide +kernel) (aw24_I.att _).1
  rw [hb] at h
  simp only [cond_true] at h
  refine h.mono ?_
  rintro e w' ⟨rfl, o2, hs⟩
  rw [aw24_c]
  exact ⟨rfl, o2.congr aw24_q aw24_t aw24_h rfl, hs⟩
theorem aw24_new (w : World) : Calls Tryz.prog 40 #[.agg #[.int .i64 1073741824, .int .i64 0, .int .i64 0, .int .i64 0], .agg #[.int .i64 0, .int .i64 0, .int .i64 1048576], .agg #[.int .i64 0, .int .i64 0, .int .i64 0, .int .i64 0], .int .i64 (-1)] w fun e w' => ∃ b, e = .returned (.tuple #[.pointer (some ⟨b, 0, none⟩), .int .i64 0]) ∧ bod w.heap.size b w' aw24_X ∧ Below w.heap.size w w' := by
  rw [of4_cells, of3_cells, of4_cells]
  exact bnew_ok (of4 1073741824 0 0 0) (of3 0 0 1048576) (of4 0 0 0 0) (-1) w (of4_I ⟨by omega, by omega⟩ ⟨by omega, by omega⟩ ⟨by omega, by omega⟩ ⟨by omega, by omega⟩) aw24_n aw24_v aw24_a
theorem aw24_rate (lo b : Nat) (w : World) (o : bod lo b w aw24_X) : Calls Tryz.prog 41 #[.pointer (some ⟨b, 0, none⟩)] w fun e w' => e = .returned (.agg #[.int .i64 0, .int .i64 0, .int .i64 4194304]) ∧ Below w.heap.size w w' := by
  rw [of3_cells, ← aw24_r]
  exact brate_any aw24_X lo b w o aw24_I.q aw24_I.s
theorem aw24_att (lo b : Nat) (w : World) (o : bod lo b w ⟨(of4 1073739776 0 0 2097148), (of3 0 0 1048576), (of4 0 0 0 0), -1⟩) : Calls Tryz.prog 42 #[.pointer (some ⟨b, 0, none⟩)] w fun e w' => e = .returned (.agg #[.int .i64 1073739776, .int .i64 0, .int .i64 0, .int .i64 2097148]) ∧ Below w.heap.size w w' := by
  rw [of4_cells]
  exact battitude_any _ lo b w o
set_option maxRecDepth 100000 in
set_option maxHeartbeats 6000000 in
theorem awake24_any  (w : World) : Calls Tryz.prog 15 #[] w fun e w' => e = .returned (.bool true) ∧ Below w.heap.size w w' := by
  have hB : Below w.heap.size w w := Below.refl _ _
  have NB := Lib.hid aw24_new
  have RA := Lib.hid aw24_rate
  have TK := Lib.hid aw24_tick
  have AT := Lib.hid aw24_att
  have FA := Lib.hid (fun lo b w o => bfailed_any ⟨(of4 1073739776 0 0 2097148), (of3 0 0 1048576), (of4 0 0 0 0), -1⟩ lo b w o)
  have E1 : ∀ w, (Op.equalIn 10000 27 (.agg (vfn (of3 0 0 0))) (.agg #[.int .i64 0, .int .i64 0, .int .i64 0])).run Tryz.prog w = .ok true w := fun w => by rw [of3_cells 0 0 0]; exact vec_eq_self _ w
  have E2 : ∀ w, (Op.equalIn 10000 27 (.agg #[.int .i64 0, .int .i64 0, .int .i64 4194304]) (.agg #[.int .i64 0, .int .i64 0, .int .i64 4194304])).run Tryz.prog w = .ok true w := fun w => by rw [of3_cells 0 0 4194304]; exact vec_eq_self _ w
  have E3 : ∀ w, (Op.equalIn 10000 31 (.agg #[.int .i64 1073739776, .int .i64 0, .int .i64 0, .int .i64 2097148]) (.agg #[.int .i64 1073739776, .int .i64 0, .int .i64 0, .int .i64 2097148])).run Tryz.prog w = .ok true w := fun w => by rw [of4_cells]; exact quat_eq_self _ w
  go_enter Tryz.func15, Tryz.ntmps15
  go_upto_region 2 with (first
    | (go_at_call 40; with_reducible refine (NB.out _).mono ?_; rintro e w1 ⟨ob, rfl, o, hb⟩; replace hB := hB.trans (hb.mono hB.size); clear hb))
  have hlo : w.heap.size ≤ w.heap.size := Nat.le_refl _
  go_upto_region 4 with (first
    | (go_at_call 41; with_reducible refine (RA.out _ _ _ o).mono ?_; rintro e w2 ⟨rfl, hb⟩; replace hB := hB.trans (hb.mono hB.size); replace o := o.below hb o.lt; clear hb))
  go_upto_region 5 with (first
    | (go_at_call 20; with_reducible refine (TK.out _ _ _ o).mono ?_; rintro e w3 ⟨rfl, o2, hS⟩; replace hB := hB.trans (hS.below hB.size hlo); replace o := o2; clear hS o2)
    | (rw [zero_vec]; refine wpList_store_row rfl _ _ _ rfl _ rfl _ rfl _ _ (blk.new _ _ _) (by first | kernel_rfl | (rw [vfn_size]; kernel_rfl)) (by first | rfl | simp only [vfn_size]) (by first | exact vfn_one _ | rfl) ?_))
  have c := (blk.new w3 (vfn fun _ => 0) 27).row (vfn (of3 0 0 0))
  replace hB := Below.setRow (hB.alloc hB.size (.cells (vfn fun _ => 0) 27)) (g := w3.heap.size) hB.size (vfn (of3 0 0 0))
  have hne : ∀ x, x < w3.heap.size → x ≠ w3.heap.size := fun x hx => Nat.ne_of_lt hx
  have out_c : ob < w3.heap.size := o.lt
  replace o := (o.alloc (.cells (vfn fun _ => 0) 27)).rowOther (.inr o.lt) (vfn (of3 0 0 0))
  clear hne
  generalize (w3.alloc (.cells (vfn fun _ => 0) 27)).setRow w3.heap.size (vfn (of3 0 0 0)) = w3x at *
  generalize w3.heap.size = c_b at *
  go_wp2_with (first
    | (refine wpList_load_rowG ?hw _ _ rfl _ rfl _ _ _ _ c Tryz.underlying27 rfl ?hi ?_; (case hw => (first | rfl | (simp [Region.wanted, yielded]; done))); (case hi => (first | kernel_rfl | (rw [vfn_size]; kernel_rfl))))
    | (go_at_call 42; with_reducible refine (AT.out _ _ _ o).mono ?_; rintro e w4 ⟨rfl, hb⟩; replace hB := hB.trans (hb.mono hB.size); replace o := o.below hb o.lt; replace c := c.below hb c.lt; clear hb)
    | (go_at_call 43; with_reducible refine (FA.out _ _ _ o).mono ?_; rintro e w5 ⟨rfl, hb⟩; replace hB := hB.trans (hb.mono hB.size); replace o := o.below hb o.lt; replace c := c.below hb c.lt; clear hb))
  go_ret
  exact ⟨rfl, hB⟩
end Go.Proofs.YtjnocbjngojigaaGreat
