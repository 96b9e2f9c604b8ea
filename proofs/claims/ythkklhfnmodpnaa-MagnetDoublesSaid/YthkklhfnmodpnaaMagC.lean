/-
  The dipole that unloads a momentum, in the package and in its specification.
-/
import Derived.Test.YthkklhfnmodpnaaMagA
import Derived.WalkMore
import Derived.Test.YthkklhfnmodpnaaDet4
set_option linter.unusedSimpArgs false
set_option linter.unusedVariables false
namespace Go.Proofs.Ythkklhfnmodpnaa
open Go.RowKit PM Dt
/-- The floor of the half. -/
def hv (f : Nat → Int) : Nat → Int := fun i => f i / 2
/-- Halved until it is small. -/
def halved : Nat → (Nat → Int) → (Nat → Int)
  | 0, f => f
  | k + 1, f => if smallB f 65536 then f else halved k (hv f)
def bnd (k : Nat) (f : Nat → Int) : Prop := ∀ i, i < 3 → -(2 ^ (16 + k) : Int) ≤ f i ∧ f i ≤ 2 ^ (16 + k)
theorem bnd_small {f : Nat → Int} (h : bnd 0 f) : smallB f 65536 = true := (smallB_iff f 65536).2 fun i hi => (sb_iff _ _).2 ⟨by have := (h i hi).1; simpa using this, by have := (h i hi).2; simpa using this⟩
theorem bnd_step {f : Nat → Int} {k : Nat} (h : bnd (k + 1) f) : bnd k (hv f) := by
  intro i hi
  have h1 := (h i hi).1
  have h2 := (h i hi).2
  have e : (2 : Int) ^ (16 + (k + 1)) = 2 * 2 ^ (16 + k) := by rw [show 16 + (k + 1) = (16 + k) + 1 by omega, Int.pow_succ]; omega
  rw [e] at h1 h2
  unfold hv
  generalize (2 : Int) ^ (16 + k) = P at *
  omega
theorem bnd_ok {f : Nat → Int} (h : okV f = true) : bnd 24 f := by
  intro i hi
  have := (vb_iff _).1 ((okV_iff f).1 h i hi)
  exact ⟨by simpa using this.1, by simpa using this.2⟩
theorem halved_small {f : Nat → Int} {k : Nat} (h : smallB f 65536 = true) : halved k f = f := by
  cases k with
  | zero => rfl
  | succ k => unfold halved; rw [if_pos h]
theorem halved_step {f : Nat → Int} {k : Nat} (h : smallB f 65536 = false) : halved (k + 1) f = halved k (hv f) := by
  rw [halved, if_neg (by rw [h]; simp)]
theorem cross_ok (f g : Nat → Int) : okV (vcrossF f g) = true := by
  unfold vcrossF
  split
  · split
    · assumption
    · rfl
  · rfl
def unlOk (f g : Nat → Int) : Bool := smallB f 2097152 && smallB g 4294967296
def unlF (f g : Nat → Int) : Nat → Int := if unlOk f g then halved 24 (vcrossF f g) else fun _ => 0
def unlE (f g : Nat → Int) : Int := if unlOk f g then 0 else 2
theorem hv_I {f : Nat → Int} {k : Nat} (hk : k ≤ 24) (h : bnd k f) : ∀ i, i < 3 → I64 (f i) := by
  intro i hi
  have h1 := (h i hi).1
  have h2 := (h i hi).2
  have : (2 : Int) ^ (16 + k) ≤ 2 ^ 40 := by
    have := Nat.pow_le_pow_right (n := 2) (by omega) (show 16 + k ≤ 40 by omega)
    exact_mod_cast this
  have e : (2 : Int) ^ 40 = 1099511627776 := by decide
  rw [e] at this
  generalize (2 : Int) ^ (16 + k) = P at *
  exact ⟨by omega, by omega⟩
theorem shr_cells {f : Nat → Int} {k : Nat} (hk : k ≤ 24) (h : bnd k f) : #[Value.int .i64 (f 0 / 2), .int .i64 (f 1 / 2), .int .i64 (f 2 / 2)] = vfn (hv f) := by unfold vfn; rfl
set_option maxRecDepth 100000 in
set_option maxHeartbeats 4000000 in
theorem unl_any (f g : Nat → Int) (w : World) : Calls Try.prog 40 #[.agg (vfn f), .agg (vfn g)] w fun e w' => e = .returned (.tuple #[.agg (vfn (unlF f g)), .int .i64 (unlE f g)]) ∧ Below w.heap.size w w' := by
  have V1 := Lib.hid (fun w => mwithin_any f 2097152 w (by omega) (by omega))
  have V2 := Lib.hid (fun w => isField_any g w)
  have C := Lib.hid (fun w => vcross_any f g w)
  have HC := Lib.hid (bnd_ok (cross_ok f g))
  unfold unlF unlE unlOk
  generalize smallB f 2097152 = bf at *
  generalize smallB g 4294967296 = bg at *
  generalize vcrossF f g = X at *
  generalize vcrossE f g = E at *
  obtain ⟨F, hF⟩ : ∃ F, F = halved 24 X := ⟨_, rfl⟩
  rw [← hF]
  have HF := Lib.hid hF.symm
  clear hF
  go_enter Try.func40, Try.ntmps40
  go_upto_region 1 with (fail)
  rw [zero_vec]
  have p : blk (((w.alloc (.cells (vfn f) 23)).alloc (.cells (vfn g) 23)).alloc (.cells (vfn fun _ => 0) 23)) w.heap.size (vfn f) 23 := ((blk.new _ _ _).alloc _).alloc _
  have q : blk (((w.alloc (.cells (vfn f) 23)).alloc (.cells (vfn g) 23)).alloc (.cells (vfn fun _ => 0) 23)) (w.heap.size + 1) (vfn g) 23 := (blk.new' (by simp)).alloc _
  have r : blk (((w.alloc (.cells (vfn f) 23)).alloc (.cells (vfn g) 23)).alloc (.cells (vfn fun _ => 0) 23)) (w.heap.size + 1 + 1) (vfn fun _ => 0) 23 := blk.new' (by simp)
  have hB : Below w.heap.size w (((w.alloc (.cells (vfn f) 23)).alloc (.cells (vfn g) 23)).alloc (.cells (vfn fun _ => 0) 23)) := by go_grown
  generalize ((w.alloc (.cells (vfn f) 23)).alloc (.cells (vfn g) 23)).alloc (.cells (vfn fun _ => 0) 23) = w0 at *
  go_step3
  cases bf
  · go_wp2_with (first | (refine wpList_load_rowG ?hw _ _ rfl _ rfl _ _ _ _ p Try.underlying23 rfl ?hi ?_; (case hw => (first | rfl | (simp [Region.wanted, yielded]; done))); (case hi => (rw [vfn_size]; kernel_rfl))) | (refine wpList_load_rowG ?hw _ _ rfl _ rfl _ _ _ _ q Try.underlying23 rfl ?hi ?_; (case hw => (first | rfl | (simp [Region.wanted, yielded]; done))); (case hi => (rw [vfn_size]; kernel_rfl))) | (go_at_call 77; with_reducible refine (V1.out _).mono ?_; rintro e w1 ⟨rfl, hb⟩; replace hB := hB.trans (hb.mono hB.size); replace p := p.below hb p.lt; replace q := q.below hb q.lt; replace r := r.below hb r.lt; clear hb) | (go_at_call 78; with_reducible refine (V2.out _).mono ?_; rintro e w1 ⟨rfl, hb⟩; replace hB := hB.trans (hb.mono hB.size); replace p := p.below hb p.lt; replace q := q.below hb q.lt; replace r := r.below hb r.lt; clear hb) | (rw [zero_vec]; refine wpList_store_row rfl _ _ _ rfl _ rfl _ rfl _ _ r (by rw [vfn_size]; kernel_rfl) (by simp only [vfn_size]) (vfn_one _) ?_))
    rw [Exit.noGoto_ret]
    refine bodyPost_ret (results_vec rfl _ _ _ _ _ _ _ rfl (r.row (vfn (fun _ => 0))) Try.underlying23 rfl (by rw [vfn_size]; kernel_rfl)) rfl ?_; refine ⟨?_, Below.setRow hB (by omega) _⟩
    rfl
  cases bg
  · go_wp2_with (first | (refine wpList_load_rowG ?hw _ _ rfl _ rfl _ _ _ _ p Try.underlying23 rfl ?hi ?_; (case hw => (first | rfl | (simp [Region.wanted, yielded]; done))); (case hi => (rw [vfn_size]; kernel_rfl))) | (refine wpList_load_rowG ?hw _ _ rfl _ rfl _ _ _ _ q Try.underlying23 rfl ?hi ?_; (case hw => (first | rfl | (simp [Region.wanted, yielded]; done))); (case hi => (rw [vfn_size]; kernel_rfl))) | (go_at_call 77; with_reducible refine (V1.out _).mono ?_; rintro e w1 ⟨rfl, hb⟩; replace hB := hB.trans (hb.mono hB.size); replace p := p.below hb p.lt; replace q := q.below hb q.lt; replace r := r.below hb r.lt; clear hb) | (go_at_call 78; with_reducible refine (V2.out _).mono ?_; rintro e w1 ⟨rfl, hb⟩; replace hB := hB.trans (hb.mono hB.size); replace p := p.below hb p.lt; replace q := q.below hb q.lt; replace r := r.below hb r.lt; clear hb) | (rw [zero_vec]; refine wpList_store_row rfl _ _ _ rfl _ rfl _ rfl _ _ r (by rw [vfn_size]; kernel_rfl) (by simp only [vfn_size]) (vfn_one _) ?_))
    rw [Exit.noGoto_ret]
    refine bodyPost_ret (results_vec rfl _ _ _ _ _ _ _ rfl (r.row (vfn (fun _ => 0))) Try.underlying23 rfl (by rw [vfn_size]; kernel_rfl)) rfl ?_; refine ⟨?_, Below.setRow hB (by omega) _⟩
    rfl
  go_wp2_with (first | (refine wpList_load_rowG ?hw _ _ rfl _ rfl _ _ _ _ p Try.underlying23 rfl ?hi ?_; (case hw => (first | rfl | (simp [Region.wanted, yielded]; done))); (case hi => (rw [vfn_size]; kernel_rfl))) | (refine wpList_load_rowG ?hw _ _ rfl _ rfl _ _ _ _ q Try.underlying23 rfl ?hi ?_; (case hw => (first | rfl | (simp [Region.wanted, yielded]; done))); (case hi => (rw [vfn_size]; kernel_rfl))) | (go_at_call 77; with_reducible refine (V1.out _).mono ?_; rintro e w1 ⟨rfl, hb⟩; replace hB := hB.trans (hb.mono hB.size); replace p := p.below hb p.lt; replace q := q.below hb q.lt; replace r := r.below hb r.lt; clear hb) | (go_at_call 78; with_reducible refine (V2.out _).mono ?_; rintro e w1 ⟨rfl, hb⟩; replace hB := hB.trans (hb.mono hB.size); replace p := p.below hb p.lt; replace q := q.below hb q.lt; replace r := r.below hb r.lt; clear hb) | (go_at_call 52; with_reducible refine (C.out _).mono ?_; rintro e w2 ⟨rfl, hb⟩; replace hB := hB.trans (hb.mono hB.size); replace p := p.below hb p.lt; replace q := q.below hb q.lt; replace r := r.below hb r.lt; clear hb) | (rw [zero_vec]; refine wpList_store_row rfl _ _ _ rfl _ rfl _ rfl _ _ (blk.new _ _ _) (by rw [vfn_size]; kernel_rfl) (by simp only [vfn_size]) (vfn_one _) ?_))
  have c := (blk.new w2 (vfn fun _ => 0) 23).row (vfn X)
  have mb1 : w.heap.size + 1 + 1 < w2.heap.size := r.lt
  replace r := (r.alloc (.cells (vfn fun _ => 0) 23)).rowOther (Nat.ne_of_lt r.lt) (vfn X)
  replace hB := Below.setRow (hB.alloc hB.size (.cells (vfn fun _ => 0) 23)) (g := w2.heap.size) hB.size (vfn X)
  clear p q
  generalize (w2.alloc (.cells (vfn fun _ => 0) 23)).setRow w2.heap.size (vfn X) = w3 at *
  generalize w2.heap.size = cb at *
  go_step3
  go_wp2_with (fail)
  go_loopg [] 24 (fun n_ wr => ∃ (n : Nat) (h : Nat → Int), n = n_ ∧ Hid (n ≤ 24) ∧ Hid (bnd n h) ∧ Hid (halved n h = F) ∧ blk wr cb (vfn h) 23 ∧ blk wr (w.heap.size + 1 + 1) (vfn fun _ => 0) 23 ∧ Below w.heap.size w wr)
  case atStart => exact ⟨24, X, rfl, Nat.le_refl _, HC, HF, c, r, hB⟩
  case round =>
    clear c r hB HF HC
    obtain ⟨n, h, hn_, hn, hbd, hF, c, r, hB⟩ := hrel
    go_wp2_with ((refine wpList_load_rowG ?hw _ _ rfl _ rfl _ _ _ _ c Try.underlying23 rfl ?hi ?_; (case hw => (first | rfl | (simp [Region.wanted, yielded]; done))); (case hi => (rw [vfn_size]; kernel_rfl))))
    go_loopg [26] 3 (fun n2 iv wi => ∃ k : Nat, n2 + k = 3 ∧ iv = .int .i64 k ∧ Hid (∀ j, j < k → sb 65536 (h j) = true) ∧ wr = wi)
    case atStart => exact ⟨0, rfl, rfl, fun j hj => by omega, rfl⟩
    case round =>
      obtain ⟨k, hk, rfl, hall, rfl⟩ := hrel
      by_cases hkn : k < 3
      · have hdk : decide ((k : Int) < 3) = true := decide_eq_true (by omega)
        have hdk' : decide (k < 3) = true := decide_eq_true (by omega)
        have hw3 : IntKind.i64.wrap ((k : Int) + 1) = ((k + 1 : Nat) : Int) := by rw [IntKind.wrap_i64]; omega
        have hix : Hid (∀ w, (Instr.index 23 (.agg (vfn h)) (.int .i64 k)).run Try.prog w = .ok (.int .i64 (h k)) w) := fun w => vidx h hkn w
        by_cases hin : sb 65536 (h k) = true
        · have h1 := ((sb_iff _ _).1 hin).1
          have h2 := ((sb_iff _ _).1 hin).2
          have d1 : decide (h k < -65536) = false := decide_eq_false (by omega)
          have d2 : decide (65536 < h k) = false := decide_eq_false (by omega)
          have HV := Lib.hid hin
          clear h1 h2 hin
          go_wp2_with ((refine wpList_index ?hw _ _ _ rfl _ rfl k _ rfl rfl _ hix.out ?_; (case hw => (first | rfl | (simp [Region.wanted, yielded]; done)))))
          go_roundg (3 - (k + 1))
          case rel =>
            refine ⟨k + 1, by omega, rfl, fun j hj => ?_, rfl⟩
            by_cases e : j = k
            · subst e; exact HV.out
            · exact hall.out j (by omega)
          case measure => omega
        · have HS := Lib.hid (show smallB h 65536 = false from smallB_no hkn (fun hc => hin ((sb_iff _ _).2 hc)))
          obtain ⟨m, rfl⟩ : ∃ m, n = m + 1 := by
            cases n with
            | zero => have := bnd_small hbd.out; rw [HS.out] at this; cases this
            | succ m => exact ⟨m, rfl⟩
          have a0 : wr.cell? ⟨cb, 0, none⟩ = some (.int .i64 (h 0)) := c.cellIs (vfn_get _ (by omega))
          have a1 : wr.cell? ⟨cb, 1, none⟩ = some (.int .i64 (h 1)) := c.cellIs (vfn_get _ (by omega))
          have a2 : wr.cell? ⟨cb, 2, none⟩ = some (.int .i64 (h 2)) := c.cellIs (vfn_get _ (by omega))
          have SH := Lib.hid (shr_cells hn.out hbd.out)
          by_cases h1 : h k < -65536
          · have d1 : decide (h k < -65536) = true := decide_eq_true h1
            clear h1 hin
            go_wp2_with (first | (refine wpList_index ?hw _ _ _ rfl _ rfl k _ rfl rfl _ hix.out ?_; (case hw => (first | rfl | (simp [Region.wanted, yielded]; done)))) | (refine wpList_store_row rfl _ _ _ rfl _ rfl (vfn (hv h)) (by first | exact congrArg Value.agg SH.out | rfl) _ _ c (by rw [vfn_size]; kernel_rfl) (by simp only [vfn_size]) (vfn_one _) ?_))
            go_roundg m
            case rel => exact ⟨m, hv h, rfl, Nat.le_of_succ_le hn.out, bnd_step hbd.out, (halved_step HS.out).symm.trans hF.out, c.row _, r.rowOther (by omega) _, Below.setRow hB (by omega) _⟩
            case measure => omega
          · have d1 : decide (h k < -65536) = false := decide_eq_false h1
            have d2 : decide (65536 < h k) = true := decide_eq_true (by apply Classical.byContradiction; intro hc; exact hin ((sb_iff _ _).2 ⟨by omega, by omega⟩))
            clear h1 hin
            go_wp2_with (first | (refine wpList_index ?hw _ _ _ rfl _ rfl k _ rfl rfl _ hix.out ?_; (case hw => (first | rfl | (simp [Region.wanted, yielded]; done)))) | (refine wpList_store_row rfl _ _ _ rfl _ rfl (vfn (hv h)) (by first | exact congrArg Value.agg SH.out | rfl) _ _ c (by rw [vfn_size]; kernel_rfl) (by simp only [vfn_size]) (vfn_one _) ?_))
            go_roundg m
            case rel => exact ⟨m, hv h, rfl, Nat.le_of_succ_le hn.out, bnd_step hbd.out, (halved_step HS.out).symm.trans hF.out, c.row _, r.rowOther (by omega) _, Below.setRow hB (by omega) _⟩
            case measure => omega
      · obtain rfl : k = 3 := by omega
        obtain rfl : h = F := (halved_small ((smallB_iff h 65536).2 hall.out)).symm.trans hF.out
        go_wp2_with (first | (refine wpList_load_rowG ?hw _ _ rfl _ rfl _ _ _ _ c Try.underlying23 rfl ?hi ?_; (case hw => (first | rfl | (simp [Region.wanted, yielded]; done))); (case hi => (rw [vfn_size]; kernel_rfl))) | (refine wpList_store_row rfl _ _ _ rfl _ rfl _ rfl _ _ r (by rw [vfn_size]; kernel_rfl) (by simp only [vfn_size]) (vfn_one _) ?_))
        rw [Exit.noGoto_ret]
        refine bodyPost_ret (results_vec rfl _ _ _ _ _ _ _ rfl (r.row (vfn h)) Try.underlying23 rfl (by rw [vfn_size]; kernel_rfl)) rfl ?_; refine ⟨?_, Below.setRow hB (by omega) _⟩
        rfl
set_option maxRecDepth 100000 in
set_option maxHeartbeats 1000000 in
theorem hhalf_any (a : Int) (w : World) (h : I64 a) : Calls Try.prog 81 #[.int .i64 a] w fun e w' => e = .returned (.int .i64 (a / 2)) ∧ w = w' := by
  obtain ⟨h1, h2⟩ := h
  have hm := Int.mul_tdiv_add_tmod a 2
  have tneg : ∀ b : Int, b ≤ 0 → b.tdiv 2 = -((-b) / 2) := fun b hb => by
    have e1 : (-(-b)).tdiv 2 = -((-b).tdiv 2) := Int.neg_tdiv (-b) 2
    rw [Int.neg_neg] at e1
    rw [e1, Int.tdiv_eq_ediv_of_nonneg (by omega)]
  by_cases hn : a < 0
  · have e := tneg a (by omega)
    have d1 : decide (a < 0) = true := decide_eq_true hn
    by_cases ho : a.tmod 2 = 0
    · have d2 : (a.tmod 2 != 0) = false := by simp [ho]
      have hq : a.tdiv 2 = a / 2 := by omega
      have hwq : wrap64 (a / 2) = a / 2 := by unfold wrap64; omega
      clear hm e tneg hn ho h1 h2
      go_enter Try.func81, Try.ntmps81
      go_wp2_with (fail)
      go_ret
      exact ⟨by first | rfl | (show Ending.returned (Value.int .i64 (wrap64 (a / 2))) = _; rw [hwq]), rfl⟩
    · have d2 : (a.tmod 2 != 0) = true := by simpa using ho
      have e3 := tneg (a - 1) (by omega)
      have hq : (a - 1).tdiv 2 = a / 2 := by omega
      have hwq : wrap64 (a / 2) = a / 2 := by unfold wrap64; omega
      have hs : wrap64 (a - 1) = a - 1 := by unfold wrap64; omega
      clear hm e e3 tneg hn ho h1 h2
      go_enter Try.func81, Try.ntmps81
      go_wp2_with (fail)
      go_ret
      exact ⟨by first | rfl | (show Ending.returned (Value.int .i64 (wrap64 (a / 2))) = _; rw [hwq]), rfl⟩
  · have d1 : decide (a < 0) = false := decide_eq_false hn
    have hq : a.tdiv 2 = a / 2 := Int.tdiv_eq_ediv_of_nonneg (by omega)
    have hwq : wrap64 (a / 2) = a / 2 := by unfold wrap64; omega
    clear hm tneg hn h1 h2
    go_enter Try.func81, Try.ntmps81
    go_wp2_with (fail)
    go_ret
    exact ⟨by first | rfl | (show Ending.returned (Value.int .i64 (wrap64 (a / 2))) = _; rw [hwq]), rfl⟩
set_option maxRecDepth 100000 in
set_option maxHeartbeats 4000000 in
theorem runl_any (f g : Nat → Int) (w : World) : Calls Try.prog 41 #[.agg (vfn f), .agg (vfn g)] w fun e w' => e = .returned (.tuple #[.agg (vfn (unlF f g)), .int .i64 (unlE f g)]) ∧ Below w.heap.size w w' := by
  have V1 := Lib.hid (fun w => rmwithin_any f 2097152 w (by omega) (by omega))
  have V2 := Lib.hid (fun w => rmwithin_any g 4294967296 w (by omega) (by omega))
  have C := Lib.hid (fun w => rvcross_any f g w)
  have HC := Lib.hid (bnd_ok (cross_ok f g))
  unfold unlF unlE unlOk
  generalize smallB f 2097152 = bf at *
  generalize smallB g 4294967296 = bg at *
  generalize vcrossF f g = X at *
  generalize vcrossE f g = E at *
  obtain ⟨F, hF⟩ : ∃ F, F = halved 24 X := ⟨_, rfl⟩
  rw [← hF]
  have HF := Lib.hid hF.symm
  clear hF
  go_enter Try.func41, Try.ntmps41
  go_upto_region 1 with (fail)
  rw [zero_vec]
  have p : blk (((w.alloc (.cells (vfn f) 23)).alloc (.cells (vfn g) 23)).alloc (.cells (vfn fun _ => 0) 23)) w.heap.size (vfn f) 23 := ((blk.new _ _ _).alloc _).alloc _
  have q : blk (((w.alloc (.cells (vfn f) 23)).alloc (.cells (vfn g) 23)).alloc (.cells (vfn fun _ => 0) 23)) (w.heap.size + 1) (vfn g) 23 := (blk.new' (by simp)).alloc _
  have r : blk (((w.alloc (.cells (vfn f) 23)).alloc (.cells (vfn g) 23)).alloc (.cells (vfn fun _ => 0) 23)) (w.heap.size + 1 + 1) (vfn fun _ => 0) 23 := blk.new' (by simp)
  have hB : Below w.heap.size w (((w.alloc (.cells (vfn f) 23)).alloc (.cells (vfn g) 23)).alloc (.cells (vfn fun _ => 0) 23)) := by go_grown
  generalize ((w.alloc (.cells (vfn f) 23)).alloc (.cells (vfn g) 23)).alloc (.cells (vfn fun _ => 0) 23) = w0 at *
  cases bf
  · go_wp2_with (first | (refine wpList_load_rowG ?hw _ _ rfl _ rfl _ _ _ _ p Try.underlying23 rfl ?hi ?_; (case hw => (first | rfl | (simp [Region.wanted, yielded]; done))); (case hi => (rw [vfn_size]; kernel_rfl))) | (refine wpList_load_rowG ?hw _ _ rfl _ rfl _ _ _ _ q Try.underlying23 rfl ?hi ?_; (case hw => (first | rfl | (simp [Region.wanted, yielded]; done))); (case hi => (rw [vfn_size]; kernel_rfl))) | (go_at_call 79; with_reducible refine (V1.out _).mono ?_; rintro e w1 ⟨rfl, hb⟩; replace hB := hB.trans (hb.mono hB.size); replace p := p.below hb p.lt; replace q := q.below hb q.lt; replace r := r.below hb r.lt; clear hb) | (go_at_call 79; with_reducible refine (V2.out _).mono ?_; rintro e w1 ⟨rfl, hb⟩; replace hB := hB.trans (hb.mono hB.size); replace p := p.below hb p.lt; replace q := q.below hb q.lt; replace r := r.below hb r.lt; clear hb) | (rw [zero_vec]; refine wpList_store_row rfl _ _ _ rfl _ rfl _ rfl _ _ r (by rw [vfn_size]; kernel_rfl) (by simp only [vfn_size]) (vfn_one _) ?_))
    refine bodyPost_ret (results_vec rfl _ _ _ _ _ _ _ rfl (r.row (vfn (fun _ => 0))) Try.underlying23 rfl (by rw [vfn_size]; kernel_rfl)) rfl ?_; refine ⟨?_, Below.setRow hB (by omega) _⟩
    rfl
  cases bg
  · go_wp2_with (first | (refine wpList_load_rowG ?hw _ _ rfl _ rfl _ _ _ _ p Try.underlying23 rfl ?hi ?_; (case hw => (first | rfl | (simp [Region.wanted, yielded]; done))); (case hi => (rw [vfn_size]; kernel_rfl))) | (refine wpList_load_rowG ?hw _ _ rfl _ rfl _ _ _ _ q Try.underlying23 rfl ?hi ?_; (case hw => (first | rfl | (simp [Region.wanted, yielded]; done))); (case hi => (rw [vfn_size]; kernel_rfl))) | (go_at_call 79; with_reducible refine (V1.out _).mono ?_; rintro e w1 ⟨rfl, hb⟩; replace hB := hB.trans (hb.mono hB.size); replace p := p.below hb p.lt; replace q := q.below hb q.lt; replace r := r.below hb r.lt; clear hb) | (go_at_call 79; with_reducible refine (V2.out _).mono ?_; rintro e w1 ⟨rfl, hb⟩; replace hB := hB.trans (hb.mono hB.size); replace p := p.below hb p.lt; replace q := q.below hb q.lt; replace r := r.below hb r.lt; clear hb) | (rw [zero_vec]; refine wpList_store_row rfl _ _ _ rfl _ rfl _ rfl _ _ r (by rw [vfn_size]; kernel_rfl) (by simp only [vfn_size]) (vfn_one _) ?_))
    refine bodyPost_ret (results_vec rfl _ _ _ _ _ _ _ rfl (r.row (vfn (fun _ => 0))) Try.underlying23 rfl (by rw [vfn_size]; kernel_rfl)) rfl ?_; refine ⟨?_, Below.setRow hB (by omega) _⟩
    rfl
  go_upto_region 4 with (first | (refine wpList_load_rowG ?hw _ _ rfl _ rfl _ _ _ _ p Try.underlying23 rfl ?hi ?_; (case hw => (first | rfl | (simp [Region.wanted, yielded]; done))); (case hi => (rw [vfn_size]; kernel_rfl))) | (refine wpList_load_rowG ?hw _ _ rfl _ rfl _ _ _ _ q Try.underlying23 rfl ?hi ?_; (case hw => (first | rfl | (simp [Region.wanted, yielded]; done))); (case hi => (rw [vfn_size]; kernel_rfl))) | (go_at_call 79; with_reducible refine (V1.out _).mono ?_; rintro e w1 ⟨rfl, hb⟩; replace hB := hB.trans (hb.mono hB.size); replace p := p.below hb p.lt; replace q := q.below hb q.lt; replace r := r.below hb r.lt; clear hb) | (go_at_call 79; with_reducible refine (V2.out _).mono ?_; rintro e w1 ⟨rfl, hb⟩; replace hB := hB.trans (hb.mono hB.size); replace p := p.below hb p.lt; replace q := q.below hb q.lt; replace r := r.below hb r.lt; clear hb) | (go_at_call 80; with_reducible refine (C.out _).mono ?_; rintro e w2 ⟨rfl, hb⟩; replace hB := hB.trans (hb.mono hB.size); replace p := p.below hb p.lt; replace q := q.below hb q.lt; replace r := r.below hb r.lt; clear hb) | (rw [zero_vec]; refine wpList_store_row rfl _ _ _ rfl _ rfl _ rfl _ _ (blk.new _ _ _) (by rw [vfn_size]; kernel_rfl) (by simp only [vfn_size]) (vfn_one _) ?_))
  have c := (blk.new w2 (vfn fun _ => 0) 23).row (vfn X)
  have mb1 : w.heap.size + 1 + 1 < w2.heap.size := r.lt
  replace r := (r.alloc (.cells (vfn fun _ => 0) 23)).rowOther (Nat.ne_of_lt r.lt) (vfn X)
  replace hB := Below.setRow (hB.alloc hB.size (.cells (vfn fun _ => 0) 23)) (g := w2.heap.size) hB.size (vfn X)
  clear p q
  generalize (w2.alloc (.cells (vfn fun _ => 0) 23)).setRow w2.heap.size (vfn X) = w3 at *
  generalize w2.heap.size = cb at *
  go_loopg [] 24 (fun n_ wr => ∃ (n : Nat) (hx : Nat → Int), n = n_ ∧ Hid (n ≤ 24) ∧ Hid (bnd n hx) ∧ Hid (halved n hx = F) ∧ blk wr cb (vfn hx) 23 ∧ blk wr (w.heap.size + 1 + 1) (vfn fun _ => 0) 23 ∧ Below w.heap.size w wr)
  case atStart => exact ⟨24, X, rfl, Nat.le_refl _, HC, HF, c, r, hB⟩
  case round =>
    clear c r hB HF HC
    obtain ⟨n, hx, hn_, hn, hbd, hF, c, r, hB⟩ := hrel
    have WB := Lib.hid (fun w => rmwithin_any hx 65536 w (by omega) (by omega))
    obtain ⟨bs, hs⟩ : ∃ b, smallB hx 65536 = b := ⟨_, rfl⟩
    rw [hs] at WB
    cases bs
    · obtain ⟨m, rfl⟩ : ∃ m, n = m + 1 := by
        cases n with
        | zero => have := bnd_small hbd.out; rw [hs] at this; cases this
        | succ m => exact ⟨m, rfl⟩
      have HS := Lib.hid hs
      have hI := hv_I hn.out hbd.out
      have H0 := Lib.hid (fun w => hhalf_any (hx 0) w (hI 0 (by omega)))
      have H1 := Lib.hid (fun w => hhalf_any (hx 1) w (hI 1 (by omega)))
      have H2 := Lib.hid (fun w => hhalf_any (hx 2) w (hI 2 (by omega)))
      have SH := Lib.hid (shr_cells hn.out hbd.out)
      clear hI hs
      go_upto_region 5 with (first | (refine wpList_load_rowG ?hw _ _ rfl _ rfl _ _ _ _ c Try.underlying23 rfl ?hi ?_; (case hw => (first | rfl | (simp [Region.wanted, yielded]; done))); (case hi => (rw [vfn_size]; kernel_rfl))) | (go_at_call 79; with_reducible refine (WB.out _).mono ?_; rintro e w4 ⟨rfl, hb⟩; replace hB := hB.trans (hb.mono hB.size); replace c := c.below hb c.lt; replace r := r.below hb r.lt; clear hb))
      refine wp_region_X 10 (by kernel_rfl) (by kernel_rfl) ?_
      replace c := c.drew
      replace r := r.drew
      replace hB : Below w.heap.size w w4.drew := hB.drew
      generalize w4.drew = wo at *
      refine wpX_take 0 (.pointer (some ⟨cb, 0, none⟩)) rfl rfl (by kernel_rfl) (fun w1 h1 => by go_simp; exact ⟨rfl, Below.refl _ _⟩) ?_
      simp only [Act.put, List.setIfInBounds_toArray, List.set_cons_zero, List.set_cons_succ]
      refine wpX_take 1 (.int .i64 (hx 0)) rfl rfl (by kernel_rfl) (fun w1 h1 => by have hc : w1.cell? ⟨cb, 0, none⟩ = some (.int .i64 (hx 0)) := (c.below h1 c.lt).cellIs (vfn_get _ (by omega)); go_simp; exact ⟨rfl, Below.refl _ _⟩) ?_
      simp only [Act.put, List.setIfInBounds_toArray, List.set_cons_zero, List.set_cons_succ]
      refine wpX_take 2 (.int .i64 (hx 0 / 2)) rfl rfl (by kernel_rfl) (fun w1 h1 => ?_) ?_
      · go_simp
        refine (H0.out _).mono ?_
        rintro e w5 ⟨rfl, rfl⟩
        exact ⟨rfl, Below.refl _ _⟩
      simp only [Act.put, List.setIfInBounds_toArray, List.set_cons_zero, List.set_cons_succ]
      refine wpX_take 3 (.pointer (some ⟨cb, 1, none⟩)) rfl rfl (by kernel_rfl) (fun w1 h1 => by go_simp; exact ⟨rfl, Below.refl _ _⟩) ?_
      simp only [Act.put, List.setIfInBounds_toArray, List.set_cons_zero, List.set_cons_succ]
      refine wpX_take 4 (.int .i64 (hx 1)) rfl rfl (by kernel_rfl) (fun w1 h1 => by have hc : w1.cell? ⟨cb, 1, none⟩ = some (.int .i64 (hx 1)) := (c.below h1 c.lt).cellIs (vfn_get _ (by omega)); go_simp; exact ⟨rfl, Below.refl _ _⟩) ?_
      simp only [Act.put, List.setIfInBounds_toArray, List.set_cons_zero, List.set_cons_succ]
      refine wpX_take 5 (.int .i64 (hx 1 / 2)) rfl rfl (by kernel_rfl) (fun w1 h1 => ?_) ?_
      · go_simp
        refine (H1.out _).mono ?_
        rintro e w5 ⟨rfl, rfl⟩
        exact ⟨rfl, Below.refl _ _⟩
      simp only [Act.put, List.setIfInBounds_toArray, List.set_cons_zero, List.set_cons_succ]
      refine wpX_take 6 (.pointer (some ⟨cb, 2, none⟩)) rfl rfl (by kernel_rfl) (fun w1 h1 => by go_simp; exact ⟨rfl, Below.refl _ _⟩) ?_
      simp only [Act.put, List.setIfInBounds_toArray, List.set_cons_zero, List.set_cons_succ]
      refine wpX_take 7 (.int .i64 (hx 2)) rfl rfl (by kernel_rfl) (fun w1 h1 => by have hc : w1.cell? ⟨cb, 2, none⟩ = some (.int .i64 (hx 2)) := (c.below h1 c.lt).cellIs (vfn_get _ (by omega)); go_simp; exact ⟨rfl, Below.refl _ _⟩) ?_
      simp only [Act.put, List.setIfInBounds_toArray, List.set_cons_zero, List.set_cons_succ]
      refine wpX_take 8 (.int .i64 (hx 2 / 2)) rfl rfl (by kernel_rfl) (fun w1 h1 => ?_) ?_
      · go_simp
        refine (H2.out _).mono ?_
        rintro e w5 ⟨rfl, rfl⟩
        exact ⟨rfl, Below.refl _ _⟩
      simp only [Act.put, List.setIfInBounds_toArray, List.set_cons_zero, List.set_cons_succ]
      refine wpX_take 9 (.agg #[.int .i64 (hx 0 / 2), .int .i64 (hx 1 / 2), .int .i64 (hx 2 / 2)]) rfl rfl (by kernel_rfl) (fun w1 h1 => by go_simp; exact ⟨rfl, Below.refl _ _⟩) ?_
      simp only [Act.put, List.setIfInBounds_toArray, List.set_cons_zero, List.set_cons_succ]
      refine wpX_tail (by kernel_rfl) (fun wt ht => ?_)
      simp only [List.drop_succ_cons, List.drop_zero]
      replace hB := hB.trans (ht.mono hB.size)
      replace c := c.below ht c.lt
      replace r := r.below ht r.lt
      go_wp2_with ((refine wpList_store_row rfl _ _ _ rfl _ rfl (vfn (hv hx)) (by first | exact congrArg Value.agg SH.out | rfl) _ _ c (by rw [vfn_size]; kernel_rfl) (by simp only [vfn_size]) (vfn_one _) ?_))
      go_roundg m
      case rel => exact ⟨m, hv hx, rfl, Nat.le_of_succ_le hn.out, bnd_step hbd.out, (halved_step HS.out).symm.trans hF.out, c.row _, r.rowOther (by omega) _, Below.setRow hB (by omega) _⟩
      case measure => omega
    · obtain rfl : hx = F := (halved_small hs).symm.trans hF.out
      clear hs
      go_wp2_with (first | (refine wpList_load_rowG ?hw _ _ rfl _ rfl _ _ _ _ c Try.underlying23 rfl ?hi ?_; (case hw => (first | rfl | (simp [Region.wanted, yielded]; done))); (case hi => (rw [vfn_size]; kernel_rfl))) | (go_at_call 79; with_reducible refine (WB.out _).mono ?_; rintro e w4 ⟨rfl, hb⟩; replace hB := hB.trans (hb.mono hB.size); replace c := c.below hb c.lt; replace r := r.below hb r.lt; clear hb) | (refine wpList_store_row rfl _ _ _ rfl _ rfl _ rfl _ _ r (by rw [vfn_size]; kernel_rfl) (by simp only [vfn_size]) (vfn_one _) ?_))
      refine bodyPost_ret (results_vec rfl _ _ _ _ _ _ _ rfl (r.row (vfn hx)) Try.underlying23 rfl (by rw [vfn_size]; kernel_rfl)) rfl ?_; refine ⟨?_, Below.setRow hB (by omega) _⟩
      rfl
end Go.Proofs.Ythkklhfnmodpnaa
