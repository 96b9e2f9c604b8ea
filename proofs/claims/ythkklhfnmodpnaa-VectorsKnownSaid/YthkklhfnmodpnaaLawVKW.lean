/-
  The examples of the document on vectors (closed): what the functions answer. The examples of the document on vectors (closed): the walk.
-/
import Derived.Test.YthkklhfnmodpnaaLawVec
import Derived.Test.YthkklhfnmodpnaaVUnitP
import Derived.Test.YthkklhfnmodpnaaVLimP
import Derived.Test.YthkklhfnmodpnaaVecI
import Derived.Test.YthkklhfnmodpnaaVecN
import Derived.Test.YthkklhfnmodpnaaVecO
set_option linter.unusedSimpArgs false
set_option linter.unusedVariables false
namespace Go.Proofs.Ythkklhfnmodpnaa
open Go.RowKit PM Dt
theorem unit_val {f F : Nat → Int} (N : Nat) (hk : okV f = true) (hz : zV f = false) (hF : ∀ i, i < 3 → shft 3 45 f i = F i) (h4 : sqs [F 0, F 1, F 2] < 4 ^ 200) (h1 : N * N ≤ sqs [F 0, F 1, F 2]) (h2 : sqs [F 0, F 1, F 2] < (N + 1) * (N + 1)) :
    vfn (vunF f) = vfn (fun i => ratioV (F i) 1073741824 (fitV (N : Int))) ∧ vunE f = 0 := by
  have hn : n3 (shft 3 45 f) = (N : Int) := by
    unfold n3 hypQ
    rw [hF 0 (by omega), hF 1 (by omega), hF 2 (by omega), isqrt_eq h4 h1 h2]
  unfold vunF vunE
  rw [hk, hz]
  refine ⟨vfn_congr fun i hi => ?_, rfl⟩
  show vuX f i = _
  unfold vuX
  rw [hF i hi, hn]
theorem limit_val {f : Nat → Int} {m : Int} (S N : Nat) (h : okL f m) (hS : sqs [f 0, f 1, f 2] = S) (h4 : S < 4 ^ 200) (h1 : N * N ≤ S) (h2 : S < (N + 1) * (N + 1)) :
    limF f m = (if ((N + (if S = N * N then 0 else 1) : Nat) : Int) ≤ m then f else fun i => towV (f i) m.toNat (N + (if S = N * N then 0 else 1))) ∧ limE f m = 0 := by
  have hl : lst f = N + (if S = N * N then 0 else 1) := by
    unfold lst lstN sq3
    rw [hS, isqrt_eq h4 h1 h2]
  unfold limF limE
  rw [if_pos h, if_pos h]
  unfold limX
  rw [hl]
  exact ⟨rfl, rfl⟩
def km : Nat → Int := fun i => if i = 1 then 1073741824 else if i = 3 then -1073741824 else if i = 8 then 1073741824 else 0
theorem km_cells : #[.int .i64 0, .int .i64 1073741824, .int .i64 0, .int .i64 (-1073741824), .int .i64 0, .int .i64 0, .int .i64 0, .int .i64 0, .int .i64 1073741824] = mfn km := by unfold mfn; rfl
theorem dec3 {f g : Nat → Int} (h0 : f 0 = g 0) (h1 : f 1 = g 1) (h2 : f 2 = g 2) : vfn f = vfn g := by
  apply vfn_congr
  intro i hi
  have : i = 0 ∨ i = 1 ∨ i = 2 := by omega
  rcases this with rfl | rfl | rfl <;> assumption
theorem vk0 : vfn (vunF (of3 0 0 (-7))) = vfn (of3 0 0 (-1073741824)) ∧ vunE (of3 0 0 (-7)) = 0 := by
  have h := unit_val (f := (of3 0 0 (-7))) (F := (of3 0 0 (-61572651155456))) 61572651155456 (by decide +kernel) (by decide +kernel) (fun i hi => by
    have : i = 0 ∨ i = 1 ∨ i = 2 := by omega
    rcases this with rfl | rfl | rfl <;> decide +kernel) (by decide +kernel) (by decide +kernel) (by decide +kernel)
  exact ⟨h.1.trans (dec3 (by decide +kernel) (by decide +kernel) (by decide +kernel)), h.2⟩
theorem vk1 : vfn (vunF (of3 1 1 0)) = vfn (of3 759250125 759250125 0) ∧ vunE (of3 1 1 0) = 0 := by
  have h := unit_val (f := (of3 1 1 0)) (F := (of3 35184372088832 35184372088832 0)) 49758216191607 (by decide +kernel) (by decide +kernel) (fun i hi => by
    have : i = 0 ∨ i = 1 ∨ i = 2 := by omega
    rcases this with rfl | rfl | rfl <;> decide +kernel) (by decide +kernel) (by decide +kernel) (by decide +kernel)
  exact ⟨h.1.trans (dec3 (by decide +kernel) (by decide +kernel) (by decide +kernel)), h.2⟩
theorem vk2 : vfn (vunF (of3 0 0 0)) = vfn (of3 0 0 0) ∧ vunE (of3 0 0 0) = 4 := by
  have hk : okV (of3 0 0 0) = true := by decide +kernel
  have hz : zV (of3 0 0 0) = true := by decide +kernel
  unfold vunF vunE
  rw [hk, hz]
  exact ⟨dec3 (by decide +kernel) (by decide +kernel) (by decide +kernel), rfl⟩
theorem vk3 : vfn (limF (of3 30 (-40) 0) 10) = vfn (of3 6 (-8) 0) ∧ limE (of3 30 (-40) 0) 10 = 0 := by
  have h := limit_val (f := (of3 30 (-40) 0)) (m := 10) 2500 50 (by decide +kernel) (by decide +kernel) (by decide +kernel) (by decide +kernel) (by decide +kernel)
  rw [h.1, h.2]
  exact ⟨dec3 (by decide +kernel) (by decide +kernel) (by decide +kernel), rfl⟩
theorem vk4 : vfn (limF (of3 3 4 0) 5) = vfn (of3 3 4 0) ∧ limE (of3 3 4 0) 5 = 0 := by
  have h := limit_val (f := (of3 3 4 0)) (m := 5) 25 5 (by decide +kernel) (by decide +kernel) (by decide +kernel) (by decide +kernel) (by decide +kernel)
  rw [h.1, h.2]
  exact ⟨dec3 (by decide +kernel) (by decide +kernel) (by decide +kernel), rfl⟩
theorem vk5 : vfn (limF (of3 1 1 0) 1) = vfn (of3 0 0 0) ∧ limE (of3 1 1 0) 1 = 0 := by
  have h := limit_val (f := (of3 1 1 0)) (m := 1) 2 1 (by decide +kernel) (by decide +kernel) (by decide +kernel) (by decide +kernel) (by decide +kernel)
  rw [h.1, h.2]
  exact ⟨dec3 (by decide +kernel) (by decide +kernel) (by decide +kernel), rfl⟩
theorem vk6 : vfn (vapplyF km (of3 1 2 3)) = vfn (of3 2 (-1) 3) ∧ vapplyE km (of3 1 2 3) = 0 := by
  exact ⟨dec3 (by decide +kernel) (by decide +kernel) (by decide +kernel), by decide +kernel⟩
theorem vk7 : vfn (vbackF km (of3 1 2 3)) = vfn (of3 (-2) 1 3) ∧ vbackE km (of3 1 2 3) = 0 := by
  exact ⟨dec3 (by decide +kernel) (by decide +kernel) (by decide +kernel), by decide +kernel⟩
theorem vk8 : vfn (vaddF (of3 1099511627776 0 0) (of3 1 0 0)) = vfn (of3 0 0 0) ∧ vaddE (of3 1099511627776 0 0) (of3 1 0 0) = 7 := by
  exact ⟨dec3 (by decide +kernel) (by decide +kernel) (by decide +kernel), by decide +kernel⟩
theorem vk9 : vfn (vscaleF (of3 5 (-5) 0) 536870912) = vfn (of3 3 (-2) 0) ∧ vscaleE (of3 5 (-5) 0) 536870912 = 0 := by
  exact ⟨dec3 (by decide +kernel) (by decide +kernel) (by decide +kernel), by decide +kernel⟩
theorem vk10 : vdotV (of3 1099511627777 0 0) (of3 0 0 0) = 0 ∧ vdotE (of3 1099511627777 0 0) (of3 0 0 0) = 2 := ⟨by decide +kernel, by decide +kernel⟩
end Go.Proofs.Ythkklhfnmodpnaa
namespace Go.Proofs.Ythkklhfnmodpnaa
open Go.RowKit PM Dt
set_option maxRecDepth 100000 in
set_option maxHeartbeats 4000000 in
theorem vknown_any (w : World) : Calls Try.prog 15 #[] w fun e w' => e = .returned (.bool true) ∧ Below w.heap.size w w' := by
  have hI : ∀ a b c, I64 a → I64 b → I64 c → ∀ i, i < 3 → I64 (of3 a b c i) := fun a b c ha hb hc i hi => by
    have : i = 0 ∨ i = 1 ∨ i = 2 := by omega
    rcases this with rfl | rfl | rfl
    · exact ha
    · exact hb
    · exact hc
  have K0 := Lib.hid (fun w => vunit_any (of3 0 0 (-7)) w (hI _ _ _ ⟨by decide, by decide⟩ ⟨by decide, by decide⟩ ⟨by decide, by decide⟩))
  rw [vk0.1, vk0.2] at K0
  have K1 := Lib.hid (fun w => vunit_any (of3 1 1 0) w (hI _ _ _ ⟨by decide, by decide⟩ ⟨by decide, by decide⟩ ⟨by decide, by decide⟩))
  rw [vk1.1, vk1.2] at K1
  have K2 := Lib.hid (fun w => vunit_any (of3 0 0 0) w (hI _ _ _ ⟨by decide, by decide⟩ ⟨by decide, by decide⟩ ⟨by decide, by decide⟩))
  rw [vk2.1, vk2.2] at K2
  have K3 := Lib.hid (fun w => vlimit_any (of3 30 (-40) 0) 10 w (hI _ _ _ ⟨by decide, by decide⟩ ⟨by decide, by decide⟩ ⟨by decide, by decide⟩) ⟨by decide, by decide⟩)
  rw [vk3.1, vk3.2] at K3
  have K4 := Lib.hid (fun w => vlimit_any (of3 3 4 0) 5 w (hI _ _ _ ⟨by decide, by decide⟩ ⟨by decide, by decide⟩ ⟨by decide, by decide⟩) ⟨by decide, by decide⟩)
  rw [vk4.1, vk4.2] at K4
  have K5 := Lib.hid (fun w => vlimit_any (of3 1 1 0) 1 w (hI _ _ _ ⟨by decide, by decide⟩ ⟨by decide, by decide⟩ ⟨by decide, by decide⟩) ⟨by decide, by decide⟩)
  rw [vk5.1, vk5.2] at K5
  have K6 := Lib.hid (fun w => vapply_any km (of3 1 2 3) w)
  rw [vk6.1, vk6.2] at K6
  have K7 := Lib.hid (fun w => vback_any km (of3 1 2 3) w)
  rw [vk7.1, vk7.2] at K7
  have K8 := Lib.hid (fun w => vadd_any (of3 1099511627776 0 0) (of3 1 0 0) w)
  rw [vk8.1, vk8.2] at K8
  have K9 := Lib.hid (fun w => vscale_any (of3 5 (-5) 0) 536870912 w ⟨by decide, by decide⟩)
  rw [vk9.1, vk9.2] at K9
  have K10 := Lib.hid (fun w => vdot_any (of3 1099511627777 0 0) (of3 0 0 0) w)
  rw [vk10.1, vk10.2] at K10
  have hq0 := vec_eq_self (of3 0 0 (-1073741824))
  have hq1 := vec_eq_self (of3 759250125 759250125 0)
  have hq3 := vec_eq_self (of3 6 (-8) 0)
  have hq4 := vec_eq_self (of3 3 4 0)
  have hq5 := vec_eq_self (of3 0 0 0)
  have hq6 := vec_eq_self (of3 2 (-1) 3)
  have hq7 := vec_eq_self (of3 (-2) 1 3)
  have hq9 := vec_eq_self (of3 3 (-2) 0)
  simp only [← of3_cells, ← km_cells] at K0 K1 K2 K3 K4 K5 K6 K7 K8 K9 K10 hq0 hq1 hq3 hq4 hq5 hq6 hq7 hq9
  clear hI
  have hB := Below.refl w.heap.size w
  go_enter Try.func15, Try.ntmps15
  go_upto_region 2 with (first | (go_at_call 46; with_reducible refine (K0.out _).mono ?_; rintro e v0 ⟨rfl, hb⟩; replace hB := hB.trans (hb.mono hB.size); clear hb))
  have r0 := blk.new v0 #[.int .i64 0, .int .i64 0, .int .i64 (-1073741824)] 23
  replace hB := hB.alloc hB.size (.cells #[.int .i64 0, .int .i64 0, .int .i64 (-1073741824)] 23)
  generalize v0.alloc (.cells #[.int .i64 0, .int .i64 0, .int .i64 (-1073741824)] 23) = u0 at *
  generalize v0.heap.size = b0 at *
  go_upto_region 3 with (first | (go_at_call 46; with_reducible refine (K1.out _).mono ?_; rintro e v1 ⟨rfl, hb⟩; replace hB := hB.trans (hb.mono hB.size); replace r0 := r0.below hb r0.lt; clear hb))
  have r1 := blk.new v1 #[.int .i64 759250125, .int .i64 759250125, .int .i64 0] 23
  replace r0 := r0.alloc (.cells #[.int .i64 759250125, .int .i64 759250125, .int .i64 0] 23)
  replace hB := hB.alloc hB.size (.cells #[.int .i64 759250125, .int .i64 759250125, .int .i64 0] 23)
  generalize v1.alloc (.cells #[.int .i64 759250125, .int .i64 759250125, .int .i64 0] 23) = u1 at *
  generalize v1.heap.size = b1 at *
  go_upto_region 4 with (first | (go_at_call 46; with_reducible refine (K2.out _).mono ?_; rintro e v2 ⟨rfl, hb⟩; replace hB := hB.trans (hb.mono hB.size); replace r0 := r0.below hb r0.lt; replace r1 := r1.below hb r1.lt; clear hb))
  have r2 := blk.new v2 #[.int .i64 0, .int .i64 0, .int .i64 0] 23
  replace r0 := r0.alloc (.cells #[.int .i64 0, .int .i64 0, .int .i64 0] 23)
  replace r1 := r1.alloc (.cells #[.int .i64 0, .int .i64 0, .int .i64 0] 23)
  replace hB := hB.alloc hB.size (.cells #[.int .i64 0, .int .i64 0, .int .i64 0] 23)
  generalize v2.alloc (.cells #[.int .i64 0, .int .i64 0, .int .i64 0] 23) = u2 at *
  generalize v2.heap.size = b2 at *
  clear r2
  go_upto_region 5 with (first | (go_at_call 48; with_reducible refine (K3.out _).mono ?_; rintro e v3 ⟨rfl, hb⟩; replace hB := hB.trans (hb.mono hB.size); replace r0 := r0.below hb r0.lt; replace r1 := r1.below hb r1.lt; clear hb))
  have r3 := blk.new v3 #[.int .i64 6, .int .i64 (-8), .int .i64 0] 23
  replace r0 := r0.alloc (.cells #[.int .i64 6, .int .i64 (-8), .int .i64 0] 23)
  replace r1 := r1.alloc (.cells #[.int .i64 6, .int .i64 (-8), .int .i64 0] 23)
  replace hB := hB.alloc hB.size (.cells #[.int .i64 6, .int .i64 (-8), .int .i64 0] 23)
  generalize v3.alloc (.cells #[.int .i64 6, .int .i64 (-8), .int .i64 0] 23) = u3 at *
  generalize v3.heap.size = b3 at *
  go_upto_region 6 with (first | (go_at_call 48; with_reducible refine (K4.out _).mono ?_; rintro e v4 ⟨rfl, hb⟩; replace hB := hB.trans (hb.mono hB.size); replace r0 := r0.below hb r0.lt; replace r1 := r1.below hb r1.lt; replace r3 := r3.below hb r3.lt; clear hb))
  have r4 := blk.new v4 #[.int .i64 3, .int .i64 4, .int .i64 0] 23
  replace r0 := r0.alloc (.cells #[.int .i64 3, .int .i64 4, .int .i64 0] 23)
  replace r1 := r1.alloc (.cells #[.int .i64 3, .int .i64 4, .int .i64 0] 23)
  replace r3 := r3.alloc (.cells #[.int .i64 3, .int .i64 4, .int .i64 0] 23)
  replace hB := hB.alloc hB.size (.cells #[.int .i64 3, .int .i64 4, .int .i64 0] 23)
  generalize v4.alloc (.cells #[.int .i64 3, .int .i64 4, .int .i64 0] 23) = u4 at *
  generalize v4.heap.size = b4 at *
  go_upto_region 7 with (first | (go_at_call 48; with_reducible refine (K5.out _).mono ?_; rintro e v5 ⟨rfl, hb⟩; replace hB := hB.trans (hb.mono hB.size); replace r0 := r0.below hb r0.lt; replace r1 := r1.below hb r1.lt; replace r3 := r3.below hb r3.lt; replace r4 := r4.below hb r4.lt; clear hb))
  have r5 := blk.new v5 #[.int .i64 0, .int .i64 0, .int .i64 0] 23
  replace r0 := r0.alloc (.cells #[.int .i64 0, .int .i64 0, .int .i64 0] 23)
  replace r1 := r1.alloc (.cells #[.int .i64 0, .int .i64 0, .int .i64 0] 23)
  replace r3 := r3.alloc (.cells #[.int .i64 0, .int .i64 0, .int .i64 0] 23)
  replace r4 := r4.alloc (.cells #[.int .i64 0, .int .i64 0, .int .i64 0] 23)
  replace hB := hB.alloc hB.size (.cells #[.int .i64 0, .int .i64 0, .int .i64 0] 23)
  generalize v5.alloc (.cells #[.int .i64 0, .int .i64 0, .int .i64 0] 23) = u5 at *
  generalize v5.heap.size = b5 at *
  go_upto_region 8 with (fail)
  have rm := blk.new u5 #[.int .i64 0, .int .i64 1073741824, .int .i64 0, .int .i64 (-1073741824), .int .i64 0, .int .i64 0, .int .i64 0, .int .i64 0, .int .i64 1073741824] 25
  replace r0 := r0.alloc (.cells #[.int .i64 0, .int .i64 1073741824, .int .i64 0, .int .i64 (-1073741824), .int .i64 0, .int .i64 0, .int .i64 0, .int .i64 0, .int .i64 1073741824] 25)
  replace r1 := r1.alloc (.cells #[.int .i64 0, .int .i64 1073741824, .int .i64 0, .int .i64 (-1073741824), .int .i64 0, .int .i64 0, .int .i64 0, .int .i64 0, .int .i64 1073741824] 25)
  replace r3 := r3.alloc (.cells #[.int .i64 0, .int .i64 1073741824, .int .i64 0, .int .i64 (-1073741824), .int .i64 0, .int .i64 0, .int .i64 0, .int .i64 0, .int .i64 1073741824] 25)
  replace r4 := r4.alloc (.cells #[.int .i64 0, .int .i64 1073741824, .int .i64 0, .int .i64 (-1073741824), .int .i64 0, .int .i64 0, .int .i64 0, .int .i64 0, .int .i64 1073741824] 25)
  replace r5 := r5.alloc (.cells #[.int .i64 0, .int .i64 1073741824, .int .i64 0, .int .i64 (-1073741824), .int .i64 0, .int .i64 0, .int .i64 0, .int .i64 0, .int .i64 1073741824] 25)
  replace hB := hB.alloc hB.size (.cells #[.int .i64 0, .int .i64 1073741824, .int .i64 0, .int .i64 (-1073741824), .int .i64 0, .int .i64 0, .int .i64 0, .int .i64 0, .int .i64 1073741824] 25)
  generalize u5.alloc (.cells #[.int .i64 0, .int .i64 1073741824, .int .i64 0, .int .i64 (-1073741824), .int .i64 0, .int .i64 0, .int .i64 0, .int .i64 0, .int .i64 1073741824] 25) = um at *
  generalize u5.heap.size = bm at *
  go_upto_region 9 with (first | (refine wpList_load_rowG ?hw _ _ rfl _ rfl _ _ _ _ rm Try.underlying25 rfl ?hi ?_; (case hw => (first | rfl | (simp [Region.wanted, yielded]; done))); (case hi => kernel_rfl)) | (go_at_call 17; with_reducible refine (K6.out _).mono ?_; rintro e v6 ⟨rfl, hb⟩; replace hB := hB.trans (hb.mono hB.size); replace r0 := r0.below hb r0.lt; replace r1 := r1.below hb r1.lt; replace r3 := r3.below hb r3.lt; replace r4 := r4.below hb r4.lt; replace r5 := r5.below hb r5.lt; replace rm := rm.below hb rm.lt; clear hb))
  have r6 := blk.new v6 #[.int .i64 2, .int .i64 (-1), .int .i64 3] 23
  replace r0 := r0.alloc (.cells #[.int .i64 2, .int .i64 (-1), .int .i64 3] 23)
  replace r1 := r1.alloc (.cells #[.int .i64 2, .int .i64 (-1), .int .i64 3] 23)
  replace r3 := r3.alloc (.cells #[.int .i64 2, .int .i64 (-1), .int .i64 3] 23)
  replace r4 := r4.alloc (.cells #[.int .i64 2, .int .i64 (-1), .int .i64 3] 23)
  replace r5 := r5.alloc (.cells #[.int .i64 2, .int .i64 (-1), .int .i64 3] 23)
  replace rm := rm.alloc (.cells #[.int .i64 2, .int .i64 (-1), .int .i64 3] 23)
  replace hB := hB.alloc hB.size (.cells #[.int .i64 2, .int .i64 (-1), .int .i64 3] 23)
  generalize v6.alloc (.cells #[.int .i64 2, .int .i64 (-1), .int .i64 3] 23) = u6 at *
  generalize v6.heap.size = b6 at *
  go_upto_region 10 with (first | (refine wpList_load_rowG ?hw _ _ rfl _ rfl _ _ _ _ rm Try.underlying25 rfl ?hi ?_; (case hw => (first | rfl | (simp [Region.wanted, yielded]; done))); (case hi => kernel_rfl)) | (go_at_call 19; with_reducible refine (K7.out _).mono ?_; rintro e v7 ⟨rfl, hb⟩; replace hB := hB.trans (hb.mono hB.size); replace r0 := r0.below hb r0.lt; replace r1 := r1.below hb r1.lt; replace r3 := r3.below hb r3.lt; replace r4 := r4.below hb r4.lt; replace r5 := r5.below hb r5.lt; replace rm := rm.below hb rm.lt; replace r6 := r6.below hb r6.lt; clear hb))
  have r7 := blk.new v7 #[.int .i64 (-2), .int .i64 1, .int .i64 3] 23
  replace r0 := r0.alloc (.cells #[.int .i64 (-2), .int .i64 1, .int .i64 3] 23)
  replace r1 := r1.alloc (.cells #[.int .i64 (-2), .int .i64 1, .int .i64 3] 23)
  replace r3 := r3.alloc (.cells #[.int .i64 (-2), .int .i64 1, .int .i64 3] 23)
  replace r4 := r4.alloc (.cells #[.int .i64 (-2), .int .i64 1, .int .i64 3] 23)
  replace r5 := r5.alloc (.cells #[.int .i64 (-2), .int .i64 1, .int .i64 3] 23)
  replace rm := rm.alloc (.cells #[.int .i64 (-2), .int .i64 1, .int .i64 3] 23)
  replace r6 := r6.alloc (.cells #[.int .i64 (-2), .int .i64 1, .int .i64 3] 23)
  replace hB := hB.alloc hB.size (.cells #[.int .i64 (-2), .int .i64 1, .int .i64 3] 23)
  generalize v7.alloc (.cells #[.int .i64 (-2), .int .i64 1, .int .i64 3] 23) = u7 at *
  generalize v7.heap.size = b7 at *
  clear rm
  go_upto_region 11 with (first | (go_at_call 53; with_reducible refine (K8.out _).mono ?_; rintro e v8 ⟨rfl, hb⟩; replace hB := hB.trans (hb.mono hB.size); replace r0 := r0.below hb r0.lt; replace r1 := r1.below hb r1.lt; replace r3 := r3.below hb r3.lt; replace r4 := r4.below hb r4.lt; replace r5 := r5.below hb r5.lt; replace r6 := r6.below hb r6.lt; replace r7 := r7.below hb r7.lt; clear hb))
  have r8 := blk.new v8 #[.int .i64 0, .int .i64 0, .int .i64 0] 23
  replace r0 := r0.alloc (.cells #[.int .i64 0, .int .i64 0, .int .i64 0] 23)
  replace r1 := r1.alloc (.cells #[.int .i64 0, .int .i64 0, .int .i64 0] 23)
  replace r3 := r3.alloc (.cells #[.int .i64 0, .int .i64 0, .int .i64 0] 23)
  replace r4 := r4.alloc (.cells #[.int .i64 0, .int .i64 0, .int .i64 0] 23)
  replace r5 := r5.alloc (.cells #[.int .i64 0, .int .i64 0, .int .i64 0] 23)
  replace r6 := r6.alloc (.cells #[.int .i64 0, .int .i64 0, .int .i64 0] 23)
  replace r7 := r7.alloc (.cells #[.int .i64 0, .int .i64 0, .int .i64 0] 23)
  replace hB := hB.alloc hB.size (.cells #[.int .i64 0, .int .i64 0, .int .i64 0] 23)
  generalize v8.alloc (.cells #[.int .i64 0, .int .i64 0, .int .i64 0] 23) = u8 at *
  generalize v8.heap.size = b8 at *
  clear r8
  go_upto_region 12 with (first | (go_at_call 54; with_reducible refine (K9.out _).mono ?_; rintro e v9 ⟨rfl, hb⟩; replace hB := hB.trans (hb.mono hB.size); replace r0 := r0.below hb r0.lt; replace r1 := r1.below hb r1.lt; replace r3 := r3.below hb r3.lt; replace r4 := r4.below hb r4.lt; replace r5 := r5.below hb r5.lt; replace r6 := r6.below hb r6.lt; replace r7 := r7.below hb r7.lt; clear hb))
  have r9 := blk.new v9 #[.int .i64 3, .int .i64 (-2), .int .i64 0] 23
  replace r0 := r0.alloc (.cells #[.int .i64 3, .int .i64 (-2), .int .i64 0] 23)
  replace r1 := r1.alloc (.cells #[.int .i64 3, .int .i64 (-2), .int .i64 0] 23)
  replace r3 := r3.alloc (.cells #[.int .i64 3, .int .i64 (-2), .int .i64 0] 23)
  replace r4 := r4.alloc (.cells #[.int .i64 3, .int .i64 (-2), .int .i64 0] 23)
  replace r5 := r5.alloc (.cells #[.int .i64 3, .int .i64 (-2), .int .i64 0] 23)
  replace r6 := r6.alloc (.cells #[.int .i64 3, .int .i64 (-2), .int .i64 0] 23)
  replace r7 := r7.alloc (.cells #[.int .i64 3, .int .i64 (-2), .int .i64 0] 23)
  replace hB := hB.alloc hB.size (.cells #[.int .i64 3, .int .i64 (-2), .int .i64 0] 23)
  generalize v9.alloc (.cells #[.int .i64 3, .int .i64 (-2), .int .i64 0] 23) = u9 at *
  generalize v9.heap.size = b9 at *
  go_upto_region 13 with (first | (go_at_call 44; with_reducible refine (K10.out _).mono ?_; rintro e v10 ⟨rfl, hb⟩; replace hB := hB.trans (hb.mono hB.size); replace r0 := r0.below hb r0.lt; replace r1 := r1.below hb r1.lt; replace r3 := r3.below hb r3.lt; replace r4 := r4.below hb r4.lt; replace r5 := r5.below hb r5.lt; replace r6 := r6.below hb r6.lt; replace r7 := r7.below hb r7.lt; replace r9 := r9.below hb r9.lt; clear hb))
  go_wp2_with (first | (refine wpList_load_rowG ?hw _ _ rfl _ rfl _ _ _ _ r0 Try.underlying23 rfl ?hi ?_; (case hw => (first | rfl | (simp [Region.wanted, yielded]; done))); (case hi => kernel_rfl)) | (refine wpList_load_rowG ?hw _ _ rfl _ rfl _ _ _ _ r1 Try.underlying23 rfl ?hi ?_; (case hw => (first | rfl | (simp [Region.wanted, yielded]; done))); (case hi => kernel_rfl)) | (refine wpList_load_rowG ?hw _ _ rfl _ rfl _ _ _ _ r3 Try.underlying23 rfl ?hi ?_; (case hw => (first | rfl | (simp [Region.wanted, yielded]; done))); (case hi => kernel_rfl)) | (refine wpList_load_rowG ?hw _ _ rfl _ rfl _ _ _ _ r4 Try.underlying23 rfl ?hi ?_; (case hw => (first | rfl | (simp [Region.wanted, yielded]; done))); (case hi => kernel_rfl)) | (refine wpList_load_rowG ?hw _ _ rfl _ rfl _ _ _ _ r5 Try.underlying23 rfl ?hi ?_; (case hw => (first | rfl | (simp [Region.wanted, yielded]; done))); (case hi => kernel_rfl)) | (refine wpList_load_rowG ?hw _ _ rfl _ rfl _ _ _ _ r6 Try.underlying23 rfl ?hi ?_; (case hw => (first | rfl | (simp [Region.wanted, yielded]; done))); (case hi => kernel_rfl)) | (refine wpList_load_rowG ?hw _ _ rfl _ rfl _ _ _ _ r7 Try.underlying23 rfl ?hi ?_; (case hw => (first | rfl | (simp [Region.wanted, yielded]; done))); (case hi => kernel_rfl)) | (refine wpList_load_rowG ?hw _ _ rfl _ rfl _ _ _ _ r9 Try.underlying23 rfl ?hi ?_; (case hw => (first | rfl | (simp [Region.wanted, yielded]; done))); (case hi => kernel_rfl)) | (go_at_call 23; refine (awakeV_any _).mono ?_; rintro e wx ⟨rfl, hb⟩; replace hB := hB.trans (hb.mono hB.size); clear hb))
  go_ret
  exact ⟨rfl, hB⟩
end Go.Proofs.Ythkklhfnmodpnaa
