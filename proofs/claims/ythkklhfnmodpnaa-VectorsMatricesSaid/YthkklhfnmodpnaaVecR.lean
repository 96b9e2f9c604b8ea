/-
  The product of two matrices: Product of the package.
-/
import Derived.Test.YthkklhfnmodpnaaVecQ
set_option linter.unusedSimpArgs false
set_option linter.unusedVariables false
namespace Go.Proofs.Ythkklhfnmodpnaa
open Go.RowKit PM Dt
def prodX (g h : Nat → Int) (i k : Nat) : Int := rnd (d3 (mrow g i) (mcol h k))
/-- The product. -/
def prodF (g h : Nat → Int) : Nat → Int := fun j => prodX g h (j / 3) (j % 3)
theorem dotrc_any (g x : Nat → Int) (r : Nat) (hr : r < 3) (b c : Nat) (t : TypeId) (w : World) (hg : okM g = true) (hx : okV x = true) (p : blk w b (mfn g) 25) (q : blk w c (vfn x) t) :
    Calls Try.prog 61 #[.slice (some ⟨b, 3 * r, none⟩) 3 3, .slice (some ⟨c, 0, none⟩) 3 3] w fun e w' => e = .returned (.tuple #[.int .i64 (rnd (d3 (mrow g r) x)), .int .i64 0]) ∧ Below w.heap.size w w' := by
  have hr' := (okM_iff g).1 hg r hr
  refine (dot_any [mrow g r 0, mrow g r 1, mrow g r 2] [x 0, x 1, x 2] _ _ w (intsRow p hr) (ints3 q) (list_I3 (okV_I hr')) (list_I3 (okV_I hx))).mono fun e w' h => ⟨h.1.trans ?_, h.2⟩
  rw [(d3_fit hr' hx).1, (d3_fit hr' hx).2]
set_option maxRecDepth 100000 in
set_option maxHeartbeats 1000000 in
theorem prodC0 (g h : Nat → Int) (b c d : Nat) (w : World) (hg : okM g = true) (hh : okM h = true) (p : blk w b (mfn g) 25) (r : blk w d #[.int .i64 0] 3) (q : blk w c (mfn h) 25) (k : Nat) (hk : k < 3) :
    Calls Try.prog 69 #[.int .i64 k, .pointer (some ⟨b, 0, none⟩), .pointer (some ⟨d, 0, none⟩), .pointer (some ⟨c, 0, none⟩)] w fun e w' => e = .returned (.tuple #[.int .i64 (prodX g h 0 k), .int .i64 0]) ∧ Below w.heap.size w w' := by
  have D := Lib.hid (fun c t w p q => dotrc_any g (mcol h k) 0 (by omega) b c t w hg (okV_col hh hk) p q)
  have CL := Lib.hid (fun w => col_any h k w hk)
  unfold prodX
  generalize rnd (d3 (mrow g 0) (mcol h k)) = X at *
  clear hg hh hk
  go_enter Try.func69, Try.ntmps69
  go_upto_region 1 with (fail)
  have hB : More w w := Below.refl _ _
  refine wp_region_Y 99 11 rfl (by kernel_rfl) ?_
  replace p := p.drew
  replace q := q.drew
  replace r := r.drew
  replace hB : More w w.drew := hB.drew
  generalize w.drew = wo at *
  refine wpY_takeA 0 (.int .i64 0) rfl rfl (by kernel_rfl) (by kernel_rfl) (fun w1 h1 => by have hc : w1.cell? ⟨d, 0, none⟩ = some (.int .i64 0) := (r.below h1 r.lt).cellIs rfl; go_simp; exact ⟨rfl, Below.refl _ _⟩) ?_
  simp only [Act.put, List.setIfInBounds_toArray, List.set_cons_zero, List.set_cons_succ]
  refine wpY_takeB 1 (.pointer (some ⟨b, 0, none⟩)) rfl rfl (by kernel_rfl) (fun w1 => by go_simp; exact ⟨rfl, Below.refl _ _⟩) ?_
  simp only [Act.put, List.setIfInBounds_toArray, List.set_cons_zero, List.set_cons_succ]
  refine wpY_takeB 2 (.slice (some ⟨b, 0, none⟩) 3 3) rfl rfl (by kernel_rfl) (fun w1 => by go_simp; exact ⟨rfl, Below.refl _ _⟩) ?_
  simp only [Act.put, List.setIfInBounds_toArray, List.set_cons_zero, List.set_cons_succ]
  refine wpY_takeA 3 (.agg (mfn h)) rfl rfl (by kernel_rfl) (by kernel_rfl) (fun w1 h1 => detR_row _ _ rfl _ rfl _ _ _ (q.below h1 q.lt) Try.underlying25 rfl (by rw [mfn_size]; kernel_rfl) rfl) ?_
  simp only [Act.put, List.setIfInBounds_toArray, List.set_cons_zero, List.set_cons_succ]
  refine wpY_takeB 4 (.int .i64 k) rfl rfl (by kernel_rfl) (fun w1 => by go_simp; exact ⟨rfl, Below.refl _ _⟩) ?_
  simp only [Act.put, List.setIfInBounds_toArray, List.set_cons_zero, List.set_cons_succ]
  refine wpY_more1 5 rfl rfl (by kernel_rfl) (fun w1 h1 K hK => ?_)
  go_simp
  refine (CL.out _).mono ?_
  rintro e w2 ⟨nb, rfl, pc, hm⟩
  refine hK _ _ hm ?_
  replace hB := More.trans hB (More.trans h1 hm)
  replace p := (p.below h1 p.lt).below hm (by have := p.lt; have := h1.size; omega)
  clear hK K h1 hm q r
  try simp only [Act.put, List.setIfInBounds_toArray, List.set_cons_zero, List.set_cons_succ]
  refine wpY_takeA 6 (.tuple #[.int .i64 X, .int .i64 0]) rfl rfl (by kernel_rfl) (by kernel_rfl) (fun w1 h1 => ?_) ?_
  · go_simp
    refine (D.out _ _ _ (p.below h1 p.lt) (pc.below h1 pc.lt)).mono ?_
    rintro e w3 ⟨rfl, h2⟩
    exact ⟨rfl, h2⟩
  simp only [Act.put, List.setIfInBounds_toArray, List.set_cons_zero, List.set_cons_succ]
  refine wpY_takeB 7 (.int .i64 X) rfl rfl (by kernel_rfl) (fun w1 => by go_simp; exact ⟨rfl, Below.refl _ _⟩) ?_
  simp only [Act.put, List.setIfInBounds_toArray, List.set_cons_zero, List.set_cons_succ]
  refine wpY_takeB 8 (.int .i64 0) rfl rfl (by kernel_rfl) (fun w1 => by go_simp; exact ⟨rfl, Below.refl _ _⟩) ?_
  simp only [Act.put, List.setIfInBounds_toArray, List.set_cons_zero, List.set_cons_succ]
  refine wpY_takeB 9 (.int .i64 X) rfl rfl (by kernel_rfl) (fun w1 => by go_simp; exact ⟨rfl, Below.refl _ _⟩) ?_
  simp only [Act.put, List.setIfInBounds_toArray, List.set_cons_zero, List.set_cons_succ]
  refine wpY_takeB 10 (.int .i64 0) rfl rfl (by kernel_rfl) (fun w1 => by go_simp; exact ⟨rfl, Below.refl _ _⟩) ?_
  simp only [Act.put, List.setIfInBounds_toArray, List.set_cons_zero, List.set_cons_succ]
  refine wpY_end (by kernel_rfl) (fun w3 h3 => ?_)
  replace hB := More.trans hB h3
  go_wp2_with (fail)
  go_ret2
  exact ⟨rfl, hB⟩
set_option maxRecDepth 100000 in
set_option maxHeartbeats 1000000 in
theorem prodC1 (g h : Nat → Int) (b c d : Nat) (w : World) (hg : okM g = true) (hh : okM h = true) (p : blk w b (mfn g) 25) (r : blk w d #[.int .i64 1] 3) (q : blk w c (mfn h) 25) (k : Nat) (hk : k < 3) :
    Calls Try.prog 69 #[.int .i64 k, .pointer (some ⟨b, 0, none⟩), .pointer (some ⟨d, 0, none⟩), .pointer (some ⟨c, 0, none⟩)] w fun e w' => e = .returned (.tuple #[.int .i64 (prodX g h 1 k), .int .i64 0]) ∧ Below w.heap.size w w' := by
  have D := Lib.hid (fun c t w p q => dotrc_any g (mcol h k) 1 (by omega) b c t w hg (okV_col hh hk) p q)
  have CL := Lib.hid (fun w => col_any h k w hk)
  unfold prodX
  generalize rnd (d3 (mrow g 1) (mcol h k)) = X at *
  clear hg hh hk
  go_enter Try.func69, Try.ntmps69
  go_upto_region 1 with (fail)
  have hB : More w w := Below.refl _ _
  refine wp_region_Y 99 11 rfl (by kernel_rfl) ?_
  replace p := p.drew
  replace q := q.drew
  replace r := r.drew
  replace hB : More w w.drew := hB.drew
  generalize w.drew = wo at *
  refine wpY_takeA 0 (.int .i64 1) rfl rfl (by kernel_rfl) (by kernel_rfl) (fun w1 h1 => by have hc : w1.cell? ⟨d, 0, none⟩ = some (.int .i64 1) := (r.below h1 r.lt).cellIs rfl; go_simp; exact ⟨rfl, Below.refl _ _⟩) ?_
  simp only [Act.put, List.setIfInBounds_toArray, List.set_cons_zero, List.set_cons_succ]
  refine wpY_takeB 1 (.pointer (some ⟨b, 3, none⟩)) rfl rfl (by kernel_rfl) (fun w1 => by go_simp; exact ⟨rfl, Below.refl _ _⟩) ?_
  simp only [Act.put, List.setIfInBounds_toArray, List.set_cons_zero, List.set_cons_succ]
  refine wpY_takeB 2 (.slice (some ⟨b, 3, none⟩) 3 3) rfl rfl (by kernel_rfl) (fun w1 => by go_simp; exact ⟨rfl, Below.refl _ _⟩) ?_
  simp only [Act.put, List.setIfInBounds_toArray, List.set_cons_zero, List.set_cons_succ]
  refine wpY_takeA 3 (.agg (mfn h)) rfl rfl (by kernel_rfl) (by kernel_rfl) (fun w1 h1 => detR_row _ _ rfl _ rfl _ _ _ (q.below h1 q.lt) Try.underlying25 rfl (by rw [mfn_size]; kernel_rfl) rfl) ?_
  simp only [Act.put, List.setIfInBounds_toArray, List.set_cons_zero, List.set_cons_succ]
  refine wpY_takeB 4 (.int .i64 k) rfl rfl (by kernel_rfl) (fun w1 => by go_simp; exact ⟨rfl, Below.refl _ _⟩) ?_
  simp only [Act.put, List.setIfInBounds_toArray, List.set_cons_zero, List.set_cons_succ]
  refine wpY_more1 5 rfl rfl (by kernel_rfl) (fun w1 h1 K hK => ?_)
  go_simp
  refine (CL.out _).mono ?_
  rintro e w2 ⟨nb, rfl, pc, hm⟩
  refine hK _ _ hm ?_
  replace hB := More.trans hB (More.trans h1 hm)
  replace p := (p.below h1 p.lt).below hm (by have := p.lt; have := h1.size; omega)
  clear hK K h1 hm q r
  try simp only [Act.put, List.setIfInBounds_toArray, List.set_cons_zero, List.set_cons_succ]
  refine wpY_takeA 6 (.tuple #[.int .i64 X, .int .i64 0]) rfl rfl (by kernel_rfl) (by kernel_rfl) (fun w1 h1 => ?_) ?_
  · go_simp
    refine (D.out _ _ _ (p.below h1 p.lt) (pc.below h1 pc.lt)).mono ?_
    rintro e w3 ⟨rfl, h2⟩
    exact ⟨rfl, h2⟩
  simp only [Act.put, List.setIfInBounds_toArray, List.set_cons_zero, List.set_cons_succ]
  refine wpY_takeB 7 (.int .i64 X) rfl rfl (by kernel_rfl) (fun w1 => by go_simp; exact ⟨rfl, Below.refl _ _⟩) ?_
  simp only [Act.put, List.setIfInBounds_toArray, List.set_cons_zero, List.set_cons_succ]
  refine wpY_takeB 8 (.int .i64 0) rfl rfl (by kernel_rfl) (fun w1 => by go_simp; exact ⟨rfl, Below.refl _ _⟩) ?_
  simp only [Act.put, List.setIfInBounds_toArray, List.set_cons_zero, List.set_cons_succ]
  refine wpY_takeB 9 (.int .i64 X) rfl rfl (by kernel_rfl) (fun w1 => by go_simp; exact ⟨rfl, Below.refl _ _⟩) ?_
  simp only [Act.put, List.setIfInBounds_toArray, List.set_cons_zero, List.set_cons_succ]
  refine wpY_takeB 10 (.int .i64 0) rfl rfl (by kernel_rfl) (fun w1 => by go_simp; exact ⟨rfl, Below.refl _ _⟩) ?_
  simp only [Act.put, List.setIfInBounds_toArray, List.set_cons_zero, List.set_cons_succ]
  refine wpY_end (by kernel_rfl) (fun w3 h3 => ?_)
  replace hB := More.trans hB h3
  go_wp2_with (fail)
  go_ret2
  exact ⟨rfl, hB⟩
set_option maxRecDepth 100000 in
set_option maxHeartbeats 1000000 in
theorem prodC2 (g h : Nat → Int) (b c d : Nat) (w : World) (hg : okM g = true) (hh : okM h = true) (p : blk w b (mfn g) 25) (r : blk w d #[.int .i64 2] 3) (q : blk w c (mfn h) 25) (k : Nat) (hk : k < 3) :
    Calls Try.prog 69 #[.int .i64 k, .pointer (some ⟨b, 0, none⟩), .pointer (some ⟨d, 0, none⟩), .pointer (some ⟨c, 0, none⟩)] w fun e w' => e = .returned (.tuple #[.int .i64 (prodX g h 2 k), .int .i64 0]) ∧ Below w.heap.size w w' := by
  have D := Lib.hid (fun c t w p q => dotrc_any g (mcol h k) 2 (by omega) b c t w hg (okV_col hh hk) p q)
  have CL := Lib.hid (fun w => col_any h k w hk)
  unfold prodX
  generalize rnd (d3 (mrow g 2) (mcol h k)) = X at *
  clear hg hh hk
  go_enter Try.func69, Try.ntmps69
  go_upto_region 1 with (fail)
  have hB : More w w := Below.refl _ _
  refine wp_region_Y 99 11 rfl (by kernel_rfl) ?_
  replace p := p.drew
  replace q := q.drew
  replace r := r.drew
  replace hB : More w w.drew := hB.drew
  generalize w.drew = wo at *
  refine wpY_takeA 0 (.int .i64 2) rfl rfl (by kernel_rfl) (by kernel_rfl) (fun w1 h1 => by have hc : w1.cell? ⟨d, 0, none⟩ = some (.int .i64 2) := (r.below h1 r.lt).cellIs rfl; go_simp; exact ⟨rfl, Below.refl _ _⟩) ?_
  simp only [Act.put, List.setIfInBounds_toArray, List.set_cons_zero, List.set_cons_succ]
  refine wpY_takeB 1 (.pointer (some ⟨b, 6, none⟩)) rfl rfl (by kernel_rfl) (fun w1 => by go_simp; exact ⟨rfl, Below.refl _ _⟩) ?_
  simp only [Act.put, List.setIfInBounds_toArray, List.set_cons_zero, List.set_cons_succ]
  refine wpY_takeB 2 (.slice (some ⟨b, 6, none⟩) 3 3) rfl rfl (by kernel_rfl) (fun w1 => by go_simp; exact ⟨rfl, Below.refl _ _⟩) ?_
  simp only [Act.put, List.setIfInBounds_toArray, List.set_cons_zero, List.set_cons_succ]
  refine wpY_takeA 3 (.agg (mfn h)) rfl rfl (by kernel_rfl) (by kernel_rfl) (fun w1 h1 => detR_row _ _ rfl _ rfl _ _ _ (q.below h1 q.lt) Try.underlying25 rfl (by rw [mfn_size]; kernel_rfl) rfl) ?_
  simp only [Act.put, List.setIfInBounds_toArray, List.set_cons_zero, List.set_cons_succ]
  refine wpY_takeB 4 (.int .i64 k) rfl rfl (by kernel_rfl) (fun w1 => by go_simp; exact ⟨rfl, Below.refl _ _⟩) ?_
  simp only [Act.put, List.setIfInBounds_toArray, List.set_cons_zero, List.set_cons_succ]
  refine wpY_more1 5 rfl rfl (by kernel_rfl) (fun w1 h1 K hK => ?_)
  go_simp
  refine (CL.out _).mono ?_
  rintro e w2 ⟨nb, rfl, pc, hm⟩
  refine hK _ _ hm ?_
  replace hB := More.trans hB (More.trans h1 hm)
  replace p := (p.below h1 p.lt).below hm (by have := p.lt; have := h1.size; omega)
  clear hK K h1 hm q r
  try simp only [Act.put, List.setIfInBounds_toArray, List.set_cons_zero, List.set_cons_succ]
  refine wpY_takeA 6 (.tuple #[.int .i64 X, .int .i64 0]) rfl rfl (by kernel_rfl) (by kernel_rfl) (fun w1 h1 => ?_) ?_
  · go_simp
    refine (D.out _ _ _ (p.below h1 p.lt) (pc.below h1 pc.lt)).mono ?_
    rintro e w3 ⟨rfl, h2⟩
    exact ⟨rfl, h2⟩
  simp only [Act.put, List.setIfInBounds_toArray, List.set_cons_zero, List.set_cons_succ]
  refine wpY_takeB 7 (.int .i64 X) rfl rfl (by kernel_rfl) (fun w1 => by go_simp; exact ⟨rfl, Below.refl _ _⟩) ?_
  simp only [Act.put, List.setIfInBounds_toArray, List.set_cons_zero, List.set_cons_succ]
  refine wpY_takeB 8 (.int .i64 0) rfl rfl (by kernel_rfl) (fun w1 => by go_simp; exact ⟨rfl, Below.refl _ _⟩) ?_
  simp only [Act.put, List.setIfInBounds_toArray, List.set_cons_zero, List.set_cons_succ]
  refine wpY_takeB 9 (.int .i64 X) rfl rfl (by kernel_rfl) (fun w1 => by go_simp; exact ⟨rfl, Below.refl _ _⟩) ?_
  simp only [Act.put, List.setIfInBounds_toArray, List.set_cons_zero, List.set_cons_succ]
  refine wpY_takeB 10 (.int .i64 0) rfl rfl (by kernel_rfl) (fun w1 => by go_simp; exact ⟨rfl, Below.refl _ _⟩) ?_
  simp only [Act.put, List.setIfInBounds_toArray, List.set_cons_zero, List.set_cons_succ]
  refine wpY_end (by kernel_rfl) (fun w3 h3 => ?_)
  replace hB := More.trans hB h3
  go_wp2_with (fail)
  go_ret2
  exact ⟨rfl, hB⟩
set_option maxRecDepth 100000 in
set_option maxHeartbeats 2000000 in
theorem eachProd_any (x er : Nat → Int) (c1 c2 c3 : Value) (w : World)
    (hf : Hid (∀ i : Nat, i < 3 → ∀ w1, Below w.heap.size w w1 → Calls Try.prog 69 #[.int .i64 i, c1, c2, c3] w1 fun e w' => e = .returned (.tuple #[.int .i64 (x i), .int .i64 (er i)]) ∧ Below w1.heap.size w1 w')) :
    Calls Try.prog 57 #[.bool true, .func (.func 69) #[] #[c1, c2, c3]] w fun e w' => e = .returned (.tuple #[.agg (vfn (eachF x er)), .int .i64 (eachE x er)]) ∧ Below w.heap.size w w' := by
  go_enter Try.func57, Try.ntmps57
  go_upto_region 2 with (fail)
  rw [zero_vec]
  have p : blk ((w.alloc (.cells (vfn fun _ => 0) 23)).alloc (.cells (vfn fun _ => 0) 23)) w.heap.size (vfn fun _ => 0) 23 := (blk.new _ _ _).alloc _
  have q : blk ((w.alloc (.cells (vfn fun _ => 0) 23)).alloc (.cells (vfn fun _ => 0) 23)) (w.heap.size + 1) (vfn fun _ => 0) 23 := blk.new' (by simp)
  have hB : Below w.heap.size w ((w.alloc (.cells (vfn fun _ => 0) 23)).alloc (.cells (vfn fun _ => 0) 23)) := by go_grown
  generalize (w.alloc (.cells (vfn fun _ => 0) 23)).alloc (.cells (vfn fun _ => 0) 23) = w0 at *
  go_wp2_with (fail)
  go_loopg [13] 3 (fun g iv wr => ∃ k : Nat, g + k = 3 ∧ iv = .int .i64 k ∧ Hid (∀ j, j < k → er j = 0 ∧ vb (x j) = true) ∧ blk wr w.heap.size (vfn fun _ => 0) 23 ∧ blk wr (w.heap.size + 1) (vfn (pre3 x k)) 23 ∧ Below w.heap.size w wr)
  case atStart => exact ⟨0, rfl, rfl, fun j hj => by omega, p, by rw [show vfn (pre3 x 0) = vfn (fun _ => 0) from vfn_congr fun i _ => by simp [pre3]]; exact q, hB⟩
  case round =>
    clear p q hB
    obtain ⟨k, hk, rfl, hall, p, q, hB⟩ := hrel
    by_cases hkn : k < 3
    · have hdk : decide ((k : Int) < 3) = true := decide_eq_true (by omega)
      have hdk' : decide (k < 3) = true := decide_eq_true (by omega)
      have hw3 : IntKind.i64.wrap ((k : Int) + 1) = ((k + 1 : Nat) : Int) := by rw [IntKind.wrap_i64]; omega
      have W0 := Lib.hid (fun w => within_any (x k) w)
      have HC := Lib.hid (hf.out k hkn)
      by_cases he : er k = 0
      · have de : (er k != 0) = false := by simp [he]
        have HE := Lib.hid he
        obtain ⟨b, hb⟩ : ∃ b, vb (x k) = b := ⟨_, rfl⟩
        rw [hb] at W0
        have HVB := Lib.hid hb
        clear hb he
        cases b
        · have HG := Lib.hid (show goodE x er = false from goodE_no hkn (by rintro ⟨_, h⟩; rw [HVB.out] at h; cases h))
          go_wp2_with (first
            | (go_at_call 69; refine (HC.out _ hB).mono ?_; rintro e w1 ⟨rfl, hb⟩; replace hB := hB.trans (hb.mono hB.size); replace p := p.below hb p.lt; replace q := q.below hb q.lt; clear hb)
            | (go_at_call 103; refine (W0.out _).mono ?_; rintro e w1 ⟨rfl, rfl⟩)
            | (rw [zero_vec]; refine wpList_store_row rfl _ _ _ rfl _ rfl _ rfl _ _ p (by rw [vfn_size]; kernel_rfl) (by simp only [vfn_size]) (vfn_one _) ?_))
          refine bodyPost_ret (results_vec rfl _ _ _ _ _ _ _ rfl (p.row (vfn (fun _ => 0))) Try.underlying23 rfl (by rw [vfn_size]; kernel_rfl)) rfl ?_; refine ⟨?_, Below.setRow hB (Nat.le_refl _) _⟩
          unfold eachF eachE; rw [HG.out]; rfl
        · go_upto_region 8 with (go_at_call 69; refine (HC.out _ hB).mono ?_; rintro e w1 ⟨rfl, hb⟩; replace hB := hB.trans (hb.mono hB.size); replace p := p.below hb p.lt; replace q := q.below hb q.lt; clear hb)
          have fz : w1.frozen? ⟨w.heap.size + 1, k, none⟩ = false := q.free _
          have cz : w1.cell? ⟨w.heap.size + 1, k, none⟩ = some (.int .i64 (pre3 x k k)) := q.cellIs (vfn_get _ hkn)
          go_wp2_with (go_at_call 103; refine (W0.out _).mono ?_; rintro e w1 ⟨rfl, rfl⟩)
          go_roundg (3 - (k + 1))
          case rel =>
            refine ⟨k + 1, by omega, rfl, fun j hj => ?_, p.setOther (by simp) _, q.set' (vfn_set hkn ?_ ?_), hB.setCell (by simp) _⟩
            · by_cases e : j = k
              · subst e; exact ⟨HE.out, HVB.out⟩
              · exact hall.out j (by omega)
            · simp [pre3]
            · intro j hj hne; simp only [pre3]; split <;> split <;> first | rfl | omega
          case measure => omega
      · have de : (er k != 0) = true := by simpa using he
        have HG := Lib.hid (show goodE x er = false from goodE_no hkn (by rintro ⟨h, _⟩; exact he h))
        clear he
        go_wp2_with (first
          | (go_at_call 69; refine (HC.out _ hB).mono ?_; rintro e w1 ⟨rfl, hb⟩; replace hB := hB.trans (hb.mono hB.size); replace p := p.below hb p.lt; replace q := q.below hb q.lt; clear hb)
          | (rw [zero_vec]; refine wpList_store_row rfl _ _ _ rfl _ rfl _ rfl _ _ p (by rw [vfn_size]; kernel_rfl) (by simp only [vfn_size]) (vfn_one _) ?_))
        refine bodyPost_ret (results_vec rfl _ _ _ _ _ _ _ rfl (p.row (vfn (fun _ => 0))) Try.underlying23 rfl (by rw [vfn_size]; kernel_rfl)) rfl ?_; refine ⟨?_, Below.setRow hB (Nat.le_refl _) _⟩
        unfold eachF eachE; rw [HG.out]; rfl
    · obtain rfl : k = 3 := by omega
      have HG := Lib.hid ((goodE_iff x er).2 hall.out)
      have e3 : vfn (pre3 x 3) = vfn x := vfn_congr fun i hi => by simp [pre3, hi]
      rw [e3] at q
      go_wp2_with (first | (refine wpList_load_rowG ?hw _ _ rfl _ rfl _ _ _ _ q Try.underlying23 rfl ?hi ?_; (case hw => (first | rfl | (simp [Region.wanted, yielded]; done))); (case hi => (rw [vfn_size]; kernel_rfl))) | (refine wpList_store_row rfl _ _ _ rfl _ rfl _ rfl _ _ p (by rw [vfn_size]; kernel_rfl) (by simp only [vfn_size]) (vfn_one _) ?_))
      refine bodyPost_ret (results_vec rfl _ _ _ _ _ _ _ rfl (p.row (vfn x)) Try.underlying23 rfl (by rw [vfn_size]; kernel_rfl)) rfl ?_; refine ⟨?_, Below.setRow hB (Nat.le_refl _) _⟩
      unfold eachF eachE; rw [HG.out]; rfl
theorem blk.cells3 {w : World} {b : Nat} {c c' : Array Value} {t : TypeId} (h : blk w b c t) {o : Nat} {v0 v1 v2 : Value} (hc : ((c.setIfInBounds o v0).setIfInBounds (o + 1) v1).setIfInBounds (o + 1 + 1) v2 = c') : blk (w.setCells b o [v0, v1, v2]) b c' t := by
  subst hc
  exact ((h.set o v0).set (o + 1) v1).set (o + 1 + 1) v2
end Go.Proofs.Ythkklhfnmodpnaa
