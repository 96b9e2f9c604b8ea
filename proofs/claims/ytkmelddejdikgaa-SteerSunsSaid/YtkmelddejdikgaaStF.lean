/-
  What the statements on controls ask for first.
-/
import Derived.Test.YtkmelddejdikgaaStE
import Derived.Test.YtkmelddejdikgaaLawVec
import Derived.Test.YtkmelddejdikgaaQEq
set_option linter.unusedSimpArgs false
set_option linter.unusedVariables false
namespace Go.Proofs.Ytkmelddejdikgaa
open Go.RowKit PM Dt
theorem ssc_congr {X Y : SSt} (h1 : ∀ i, i < 3 → X.D i = Y.D i) (h2 : ∀ i, i < 3 → X.A i = Y.A i) (h3 : ∀ i, i < 4 → X.P i = Y.P i) (h4 : X.g = Y.g) : ssc X = ssc Y := by
  unfold ssc
  rw [h1 0 (by omega), h1 1 (by omega), h1 2 (by omega), h2 0 (by omega), h2 1 (by omega), h2 2 (by omega), h3 0 (by omega), h3 1 (by omega), h3 2 (by omega), h3 3 (by omega), h4]
def aw26_0 : SSt := ⟨(of3 0 0 0), (of3 0 0 0), (of4 0 0 0 0), false⟩
def aw26_1 : SSt := ⟨(of3 0 0 0), (of3 0 0 0), (of4 51 (-49) (-51) 49), true⟩
def aw26_2 : SSt := ⟨(of3 262144 0 0), (of3 1073741824 0 0), (of4 (-131022) 131022 131020 (-131022)), true⟩
theorem aw26_z : ssc SSt.zero = ssc aw26_0 := rfl
theorem aw26_r_c : qfn (stC aw26_0 (⟨(of3 400 0 (-8)), (of4 0 0 0 0), (-1), (of3 0 0 0), (of4 0 0 0 0)⟩ : SeT) (fun _ => 0)) = qfn (of4 51 (-49) (-51) 49) := qfn_congr (by decide +kernel)
theorem aw26_r_x : ssc (stX aw26_0 (⟨(of3 400 0 (-8)), (of4 0 0 0 0), (-1), (of3 0 0 0), (of4 0 0 0 0)⟩ : SeT) (fun _ => 0) (fun _ => 0)) = ssc aw26_1 := ssc_congr (by decide +kernel) (by decide +kernel) (by decide +kernel) (by decide +kernel)
theorem aw26_r_k (b : Nat) (w : World) (g : blk w b (ssc aw26_0) 205) : Calls Try.prog 85 #[.pointer (some ⟨b, 0, none⟩), .agg #[.int .i64 400, .int .i64 0, .int .i64 (-8), .int .i64 0, .int .i64 0, .int .i64 0, .int .i64 0, .int .i64 (-1), .int .i64 0, .int .i64 0, .int .i64 0, .int .i64 0, .int .i64 0, .int .i64 0, .int .i64 0]] w fun e w' => e = .returned (.tuple #[.agg (qfn (of4 51 (-49) (-51) 49)), .int .i64 0]) ∧ blk w' b (ssc aw26_1) 205 ∧ Save b b w w' := by
  rw [show #[.int .i64 400, .int .i64 0, .int .i64 (-8), .int .i64 0, .int .i64 0, .int .i64 0, .int .i64 0, .int .i64 (-1), .int .i64 0, .int .i64 0, .int .i64 0, .int .i64 0, .int .i64 0, .int .i64 0, .int .i64 0] = sec (⟨(of3 400 0 (-8)), (of4 0 0 0 0), (-1), (of3 0 0 0), (of4 0 0 0 0)⟩ : SeT) from rfl]
  refine (trest_ok aw26_0 (⟨(of3 400 0 (-8)), (of4 0 0 0 0), (-1), (of3 0 0 0), (of4 0 0 0 0)⟩ : SeT) b w g (by decide +kernel) (by decide +kernel)).mono ?_
  rintro e w' ⟨rfl, g2, hs⟩
  rw [aw26_r_c]
  rw [aw26_r_x] at g2
  exact ⟨rfl, g2, hs⟩
theorem aw26_s_c : qfn (stC aw26_1 (⟨(of3 0 0 0), (of4 51 (-49) (-51) 49), (-1), (of3 0 (-1073741824) 0), (of4 0 0 0 0)⟩ : SeT) (sunT aw26_1 (⟨(of3 0 0 0), (of4 51 (-49) (-51) 49), (-1), (of3 0 (-1073741824) 0), (of4 0 0 0 0)⟩ : SeT))) = qfn (of4 (-131073) 131071 131071 (-131071)) := qfn_congr (by decide +kernel)
theorem aw26_s_x : ssc (stX aw26_1 (⟨(of3 0 0 0), (of4 51 (-49) (-51) 49), (-1), (of3 0 (-1073741824) 0), (of4 0 0 0 0)⟩ : SeT) (sunAx aw26_1 (⟨(of3 0 0 0), (of4 51 (-49) (-51) 49), (-1), (of3 0 (-1073741824) 0), (of4 0 0 0 0)⟩ : SeT)) (sunT aw26_1 (⟨(of3 0 0 0), (of4 51 (-49) (-51) 49), (-1), (of3 0 (-1073741824) 0), (of4 0 0 0 0)⟩ : SeT))) = ssc aw26_2 := ssc_congr (by decide +kernel) (by decide +kernel) (by decide +kernel) (by decide +kernel)
theorem aw26_s_k (b : Nat) (w : World) (g : blk w b (ssc aw26_1) 205) : Calls Try.prog 86 #[.pointer (some ⟨b, 0, none⟩), .agg #[.int .i64 0, .int .i64 0, .int .i64 0, .int .i64 51, .int .i64 (-49), .int .i64 (-51), .int .i64 49, .int .i64 (-1), .int .i64 0, .int .i64 (-1073741824), .int .i64 0, .int .i64 0, .int .i64 0, .int .i64 0, .int .i64 0]] w fun e w' => e = .returned (.tuple #[.agg (qfn (of4 (-131073) 131071 131071 (-131071))), .int .i64 0]) ∧ blk w' b (ssc aw26_2) 205 ∧ Save b b w w' := by
  rw [show #[.int .i64 0, .int .i64 0, .int .i64 0, .int .i64 51, .int .i64 (-49), .int .i64 (-51), .int .i64 49, .int .i64 (-1), .int .i64 0, .int .i64 (-1073741824), .int .i64 0, .int .i64 0, .int .i64 0, .int .i64 0, .int .i64 0] = sec (⟨(of3 0 0 0), (of4 51 (-49) (-51) 49), (-1), (of3 0 (-1073741824) 0), (of4 0 0 0 0)⟩ : SeT) from rfl]
  refine (tsun_ok aw26_1 (⟨(of3 0 0 0), (of4 51 (-49) (-51) 49), (-1), (of3 0 (-1073741824) 0), (of4 0 0 0 0)⟩ : SeT) b w g (by decide +kernel) (by decide +kernel) (by decide +kernel)).mono ?_
  rintro e w' ⟨rfl, g2, hs⟩
  rw [aw26_s_c]
  rw [aw26_s_x] at g2
  exact ⟨rfl, g2, hs⟩
set_option maxRecDepth 100000 in
set_option maxHeartbeats 8000000 in
theorem awake26_any  (w : World) : Calls Try.prog 30 #[] w fun e w' => e = .returned (.bool true) ∧ Below w.heap.size w w' := by
  have hB : Below w.heap.size w w := Below.refl _ _
  have NW := Lib.hid (fun w => tnew_any w)
  rw [aw26_z] at NW
  have RE := Lib.hid aw26_r_k
  have SU := Lib.hid aw26_s_k
  have CO := Lib.hid (fun b w (g : blk w b (ssc aw26_2) 205) => tcmd_any aw26_2 b w g)
  rw [show aw26_2.D = of3 262144 0 0 from rfl] at CO
  have E1 : ∀ w, (Op.equalIn 10000 22 (.agg (qfn (of4 51 (-49) (-51) 49))) (.agg #[.int .i64 51, .int .i64 (-49), .int .i64 (-51), .int .i64 49])).run Try.prog w = .ok true w := fun w => by rw [of4_cells, spdq_eq]; first | (congr 1; done) | (congr 1; simp)
  have E2 : ∀ w, (Op.equalIn 10000 22 (.agg (qfn (of4 (-131073) 131071 131071 (-131071)))) (.agg #[.int .i64 (-131073), .int .i64 131071, .int .i64 131071, .int .i64 (-131071)])).run Try.prog w = .ok true w := fun w => by rw [of4_cells, spdq_eq]; first | (congr 1; done) | (congr 1; simp)
  have E3 : ∀ w, (Op.equalIn 10000 31 (.agg (vfn (of3 262144 0 0))) (.agg #[.int .i64 262144, .int .i64 0, .int .i64 0])).run Try.prog w = .ok true w := fun w => by rw [of3_cells]; exact vec_eq_self _ w
  go_enter Try.func30, Try.ntmps30
  go_upto_region 4 with ((go_at_call 84; with_reducible refine (NW.out _).mono ?_; rintro e w1 ⟨gb, rfl, g, hle, hb⟩; replace hB := hB.trans (hb.mono hB.size); clear hb))
  clear NW
  go_upto_region 5 with (first | (go_at_call 85; with_reducible refine (RE.out _ _ g).mono ?_; rintro e w2 ⟨rfl, g2, hS⟩; replace hB := hB.trans (hS.below hB.size hle); replace g := g2; clear g2 hS) | (rw [zero_spd]; refine wpList_store_row rfl _ _ _ rfl _ rfl _ rfl _ _ (blk.new _ _ _) (by first | kernel_rfl | (rw [qfn_size]; kernel_rfl)) (by first | rfl | simp only [qfn_size]) (by first | exact qfn_one _ | rfl) ?_))
  have gl := g.lt
  have a := (blk.new w2 (qfn fun _ => 0) 22).row (qfn (of4 51 (-49) (-51) 49))
  replace hB := Below.setRow (hB.alloc hB.size (.cells (qfn fun _ => 0) 22)) (g := w2.heap.size) hB.size (qfn (of4 51 (-49) (-51) 49))
  have hne : ∀ x, x < w2.heap.size → x ≠ w2.heap.size := fun x hx => Nat.ne_of_lt hx
  replace g := (g.alloc (.cells (qfn fun _ => 0) 22)).rowOther (hne _ g.lt) (qfn (of4 51 (-49) (-51) 49))
  clear hne
  generalize (w2.alloc (.cells (qfn fun _ => 0) 22)).setRow w2.heap.size (qfn (of4 51 (-49) (-51) 49)) = w2x at *
  generalize w2.heap.size = a_b at *
  have out_a : gb < a_b := gl
  clear RE gl
  rw [← of4_cells] at a
  go_upto_region 6 with (first | (refine wpList_load_rowG ?hw _ _ rfl _ rfl _ _ _ _ a Try.underlying22 rfl ?hi ?_; (case hw => (first | rfl | (simp [Region.wanted, yielded]; done))); (case hi => kernel_rfl)) | (go_at_call 86; with_reducible refine (SU.out _ _ g).mono ?_; rintro e w3 ⟨rfl, g2, hS⟩; replace hB := hB.trans (hS.below hB.size hle); replace a := a.save hS (.inr out_a); replace g := g2; clear g2 hS) | (rw [zero_spd]; refine wpList_store_row rfl _ _ _ rfl _ rfl _ rfl _ _ (blk.new _ _ _) (by first | kernel_rfl | (rw [qfn_size]; kernel_rfl)) (by first | rfl | simp only [qfn_size]) (by first | exact qfn_one _ | rfl) ?_))
  rw [of4_cells] at a
  have gl := g.lt
  have c := (blk.new w3 (qfn fun _ => 0) 22).row (qfn (of4 (-131073) 131071 131071 (-131071)))
  replace hB := Below.setRow (hB.alloc hB.size (.cells (qfn fun _ => 0) 22)) (g := w3.heap.size) hB.size (qfn (of4 (-131073) 131071 131071 (-131071)))
  have hne : ∀ x, x < w3.heap.size → x ≠ w3.heap.size := fun x hx => Nat.ne_of_lt hx
  replace g := (g.alloc (.cells (qfn fun _ => 0) 22)).rowOther (hne _ g.lt) (qfn (of4 (-131073) 131071 131071 (-131071)))
  replace a := (a.alloc (.cells (qfn fun _ => 0) 22)).rowOther (hne _ a.lt) (qfn (of4 (-131073) 131071 131071 (-131071)))
  clear hne
  generalize (w3.alloc (.cells (qfn fun _ => 0) 22)).setRow w3.heap.size (qfn (of4 (-131073) 131071 131071 (-131071))) = w3x at *
  generalize w3.heap.size = c_b at *
  have out_c : gb < c_b := gl
  clear SU gl
  go_wp2_with (first
    | (refine wpList_load_rowG ?hw _ _ rfl _ rfl _ _ _ _ a Try.underlying22 rfl ?hi ?_; (case hw => (first | rfl | (simp [Region.wanted, yielded]; done))); (case hi => (first | kernel_rfl | (rw [qfn_size]; kernel_rfl))))
    | (refine wpList_load_rowG ?hw _ _ rfl _ rfl _ _ _ _ c Try.underlying22 rfl ?hi ?_; (case hw => (first | rfl | (simp [Region.wanted, yielded]; done))); (case hi => (first | kernel_rfl | (rw [qfn_size]; kernel_rfl))))
    | (go_at_call 87; with_reducible refine (CO.out _ _ g).mono ?_; rintro e w4 ⟨rfl, hb⟩; replace hB := hB.trans (hb.mono hB.size); replace g := g.below hb g.lt; replace a := a.below hb a.lt; replace c := c.below hb c.lt; clear hb))
  go_ret
  exact ⟨rfl, hB⟩
end Go.Proofs.Ytkmelddejdikgaa
