/-
  Shortened vectors: Limit of the package.
-/
import Derived.Test.YtjnocbjngojigaaVTow
set_option linter.unusedSimpArgs false
set_option linter.unusedVariables false
namespace Go.Proofs.Ytjnocbjngojigaa
open Go.RowKit PM Dt
def okL (f : Nat → Int) (m : Int) : Prop := okV f = true ∧ 0 ≤ m ∧ m ≤ 1099511627776
instance (f : Nat → Int) (m : Int) : Decidable (okL f m) := by unfold okL; infer_instance
def limX (f : Nat → Int) (m : Int) (i : Nat) : Int := towV (f i) m.toNat (lst f)
/-- A vector, shortened to a limit. -/
def limF (f : Nat → Int) (m : Int) : Nat → Int := if okL f m then (if (lst f : Int) ≤ m then f else limX f m) else fun _ => 0
def limE (f : Nat → Int) (m : Int) : Int := if okL f m then 0 else 2
theorem tow_vb {a : Int} {m n : Nat} (hn : 0 < n) (h : a.natAbs ≤ n) (hm : m ≤ 1099511627776) : vb (towV a m n) = true := by
  have := tow_le (m := m) hn h
  unfold towV
  generalize a.natAbs * m / n = q at *
  exact (vb_iff _).2 (by split <;> omega)
set_option maxRecDepth 100000 in
theorem limC_any (f : Nat → Int) (m n : Nat) (b c d : Nat) (t1 t2 : TypeId) (w : World) (hk : okV f = true) (hn : n = lst f) (hm : m < n) (hm2 : m ≤ 1099511627776) (p : blk w b (vfn f) 25) (q : blk w c #[.int .i64 (m : Int)] t1) (r : blk w d #[.int .i64 (n : Int)] t2) (i : Nat) (hi : i < 3) :
    Calls Try.prog 102 #[.int .i64 i, .pointer (some ⟨b, 0, none⟩), .pointer (some ⟨c, 0, none⟩), .pointer (some ⟨d, 0, none⟩)] w fun e w' => e = .returned (.tuple #[.int .i64 (towV (f i) m n), .int .i64 0]) ∧ Below w.heap.size w w' := by
  have R := Lib.hid (fun w => toward_any (f i) m n w (by omega) (by rw [hn]; exact lst_small hk) (by rw [hn]; exact lst_part hk i hi) hm2)
  generalize towV (f i) m n = V at *
  have hdk : decide ((i : Int) < 3) = true := decide_eq_true (by omega)
  have hdk' : decide (i < 3) = true := decide_eq_true hi
  have hi3 : (i : Int) < 3 := by omega
  clear hk hn hm hm2
  go_enter Try.func102, Try.ntmps102
  go_upto_region 1 with (fail)
  have hB : More w w := Below.refl _ _
  refine wp_region_Y 99 8 rfl (by kernel_rfl) ?_
  replace p := p.drew
  replace q := q.drew
  replace r := r.drew
  replace hB : More w w.drew := hB.drew
  generalize w.drew = wo at *
  refine wpY_takeB 0 (.int .i64 i) rfl rfl (by kernel_rfl) (fun w1 => by go_simp; exact ⟨rfl, Below.refl _ _⟩) ?_
  simp only [Act.put, List.setIfInBounds_toArray, List.set_cons_zero, List.set_cons_succ]
  refine wpY_takeB 1 (.pointer (some ⟨b, i, none⟩)) rfl rfl (by kernel_rfl) (fun w1 => by go_simp; first | exact ⟨rfl, Below.refl _ _⟩ | (rw [if_pos hi3]; exact ⟨rfl, Below.refl _ _⟩)) ?_
  simp only [Act.put, List.setIfInBounds_toArray, List.set_cons_zero, List.set_cons_succ]
  refine wpY_takeA 2 (.int .i64 (f i)) rfl rfl (by kernel_rfl) (by kernel_rfl) (fun w1 h1 => by have hc : w1.cell? ⟨b, i, none⟩ = some (.int .i64 (f i)) := (p.below h1 p.lt).cellIs (vfn_get _ hi); go_simp; exact ⟨rfl, Below.refl _ _⟩) ?_
  simp only [Act.put, List.setIfInBounds_toArray, List.set_cons_zero, List.set_cons_succ]
  refine wpY_takeA 3 (.int .i64 (m : Int)) rfl rfl (by kernel_rfl) (by kernel_rfl) (fun w1 h1 => by have hc : w1.cell? ⟨c, 0, none⟩ = some (.int .i64 (m : Int)) := (q.below h1 q.lt).cellIs rfl; go_simp; exact ⟨rfl, Below.refl _ _⟩) ?_
  simp only [Act.put, List.setIfInBounds_toArray, List.set_cons_zero, List.set_cons_succ]
  refine wpY_takeA 4 (.int .i64 (n : Int)) rfl rfl (by kernel_rfl) (by kernel_rfl) (fun w1 h1 => by have hc : w1.cell? ⟨d, 0, none⟩ = some (.int .i64 (n : Int)) := (r.below h1 r.lt).cellIs rfl; go_simp; exact ⟨rfl, Below.refl _ _⟩) ?_
  simp only [Act.put, List.setIfInBounds_toArray, List.set_cons_zero, List.set_cons_succ]
  refine wpY_takeA 5 (.int .i64 V) rfl rfl (by kernel_rfl) (by kernel_rfl) (fun w1 h1 => ?_) ?_
  · go_simp
    refine (R.out _).mono ?_
    rintro e w2 ⟨rfl, h2⟩
    exact ⟨rfl, h2⟩
  simp only [Act.put, List.setIfInBounds_toArray, List.set_cons_zero, List.set_cons_succ]
  refine wpY_takeB 6 (.int .i64 V) rfl rfl (by kernel_rfl) (fun w1 => by go_simp; exact ⟨rfl, Below.refl _ _⟩) ?_
  simp only [Act.put, List.setIfInBounds_toArray, List.set_cons_zero, List.set_cons_succ]
  refine wpY_takeB 7 (.int .i64 0) rfl rfl (by kernel_rfl) (fun w1 => by go_simp; exact ⟨rfl, Below.refl _ _⟩) ?_
  simp only [Act.put, List.setIfInBounds_toArray, List.set_cons_zero, List.set_cons_succ]
  refine wpY_end (by kernel_rfl) (fun w3 h3 => ?_)
  replace hB := More.trans hB h3
  go_wp2_with (fail)
  go_ret2
  exact ⟨rfl, hB⟩
set_option maxRecDepth 100000 in
set_option maxHeartbeats 2000000 in
theorem eachLim_any (x er : Nat → Int) (c1 c2 c3 : Value) (w : World)
    (hf : Hid (∀ i : Nat, i < 3 → ∀ w1, Below w.heap.size w w1 → Calls Try.prog 102 #[.int .i64 i, c1, c2, c3] w1 fun e w' => e = .returned (.tuple #[.int .i64 (x i), .int .i64 (er i)]) ∧ Below w1.heap.size w1 w')) :
    Calls Try.prog 73 #[.bool true, .func (.func 102) #[] #[c1, c2, c3]] w fun e w' => e = .returned (.tuple #[.agg (vfn (eachF x er)), .int .i64 (eachE x er)]) ∧ Below w.heap.size w w' := by
  go_enter Try.func73, Try.ntmps73
  go_upto_region 2 with (fail)
  rw [zero_vec]
  have p : blk ((w.alloc (.cells (vfn fun _ => 0) 25)).alloc (.cells (vfn fun _ => 0) 25)) w.heap.size (vfn fun _ => 0) 25 := (blk.new _ _ _).alloc _
  have q : blk ((w.alloc (.cells (vfn fun _ => 0) 25)).alloc (.cells (vfn fun _ => 0) 25)) (w.heap.size + 1) (vfn fun _ => 0) 25 := blk.new' (by simp)
  have hB : Below w.heap.size w ((w.alloc (.cells (vfn fun _ => 0) 25)).alloc (.cells (vfn fun _ => 0) 25)) := by go_grown
  generalize (w.alloc (.cells (vfn fun _ => 0) 25)).alloc (.cells (vfn fun _ => 0) 25) = w0 at *
  go_wp2_with (fail)
  go_loopg [13] 3 (fun g iv wr => ∃ k : Nat, g + k = 3 ∧ iv = .int .i64 k ∧ Hid (∀ j, j < k → er j = 0 ∧ vb (x j) = true) ∧ blk wr w.heap.size (vfn fun _ => 0) 25 ∧ blk wr (w.heap.size + 1) (vfn (pre3 x k)) 25 ∧ Below w.heap.size w wr)
  case atStart => exact ⟨0, rfl, rfl, fun j hj => by omega, p, by rw [show vfn (pre3 x 0) = vfn (fun _ => 0) from vfn_congr fun i _ => by simp [pre3]]; exact q, hB⟩
  case round =>
    clear p q hB
    obtain ⟨k, hk, rfl, hall, p, q, hB⟩ := hrel
    by_cases hkn : k < 3
    · have hdk : decide ((k : Int) < 3) = true := decide_eq_true (by omega)
      have hdk' : decide (k < 3) = true := decide_eq_true (by omega)
      have hw3 : IntKind.i64.wrap ((k : Int) + 1) = ((k + 1 : Nat) : Int) := by rw [IntKind.wrap_i64]; omega
      have W0 := Lib.hid (fun w => within_any (x k) w)
      have HC := Lib.hid (hf.out k hkn)
      by_cases he : er k = 0
      · have de : (er k != 0) = false := by simp [he]
        have HE := Lib.hid he
        obtain ⟨b, hb⟩ : ∃ b, vb (x k) = b := ⟨_, rfl⟩
        rw [hb] at W0
        have HVB := Lib.hid hb
        clear hb he
        cases b
        · have HG := Lib.hid (show goodE x er = false from goodE_no hkn (by rintro ⟨_, h⟩; rw [HVB.out] at h; cases h))
          go_wp2_with (first
            | (go_at_call 102; refine (HC.out _ hB).mono ?_; rintro e w1 ⟨rfl, hb⟩; replace hB := hB.trans (hb.mono hB.size); replace p := p.below hb p.lt; replace q := q.below hb q.lt; clear hb)
            | (go_at_call 111; refine (W0.out _).mono ?_; rintro e w1 ⟨rfl, rfl⟩)
            | (rw [zero_vec]; refine wpList_store_row rfl _ _ _ rfl _ rfl _ rfl _ _ p (by rw [vfn_size]; kernel_rfl) (by simp only [vfn_size]) (vfn_one _) ?_))
          refine bodyPost_ret (results_vec rfl _ _ _ _ _ _ _ rfl (p.row (vfn (fun _ => 0))) Try.underlying25 rfl (by rw [vfn_size]; kernel_rfl)) rfl ?_; refine ⟨?_, Below.setRow hB (Nat.le_refl _) _⟩
          unfold eachF eachE; rw [HG.out]; rfl
        · go_upto_region 8 with (go_at_call 102; refine (HC.out _ hB).mono ?_; rintro e w1 ⟨rfl, hb⟩; replace hB := hB.trans (hb.mono hB.size); replace p := p.below hb p.lt; replace q := q.below hb q.lt; clear hb)
          have fz : w1.frozen? ⟨w.heap.size + 1, k, none⟩ = false := q.free _
          have cz : w1.cell? ⟨w.heap.size + 1, k, none⟩ = some (.int .i64 (pre3 x k k)) := q.cellIs (vfn_get _ hkn)
          go_wp2_with (go_at_call 111; refine (W0.out _).mono ?_; rintro e w1 ⟨rfl, rfl⟩)
          go_roundg (3 - (k + 1))
          case rel =>
            refine ⟨k + 1, by omega, rfl, fun j hj => ?_, p.setOther (by simp) _, q.set' (vfn_set hkn ?_ ?_), hB.setCell (by simp) _⟩
            · by_cases e : j = k
              · subst e; exact ⟨HE.out, HVB.out⟩
              · exact hall.out j (by omega)
            · simp [pre3]
            · intro j hj hne; simp only [pre3]; split <;> split <;> first | rfl | omega
          case measure => omega
      · have de : (er k != 0) = true := by simpa using he
        have HG := Lib.hid (show goodE x er = false from goodE_no hkn (by rintro ⟨h, _⟩; exact he h))
        clear he
        go_wp2_with (first
          | (go_at_call 102; refine (HC.out _ hB).mono ?_; rintro e w1 ⟨rfl, hb⟩; replace hB := hB.trans (hb.mono hB.size); replace p := p.below hb p.lt; replace q := q.below hb q.lt; clear hb)
          | (rw [zero_vec]; refine wpList_store_row rfl _ _ _ rfl _ rfl _ rfl _ _ p (by rw [vfn_size]; kernel_rfl) (by simp only [vfn_size]) (vfn_one _) ?_))
        refine bodyPost_ret (results_vec rfl _ _ _ _ _ _ _ rfl (p.row (vfn (fun _ => 0))) Try.underlying25 rfl (by rw [vfn_size]; kernel_rfl)) rfl ?_; refine ⟨?_, Below.setRow hB (Nat.le_refl _) _⟩
        unfold eachF eachE; rw [HG.out]; rfl
    · obtain rfl : k = 3 := by omega
      have HG := Lib.hid ((goodE_iff x er).2 hall.out)
      have e3 : vfn (pre3 x 3) = vfn x := vfn_congr fun i hi => by simp [pre3, hi]
      rw [e3] at q
      go_wp2_with (first | (refine wpList_load_rowG ?hw _ _ rfl _ rfl _ _ _ _ q Try.underlying25 rfl ?hi ?_; (case hw => (first | rfl | (simp [Region.wanted, yielded]; done))); (case hi => (rw [vfn_size]; kernel_rfl))) | (refine wpList_store_row rfl _ _ _ rfl _ rfl _ rfl _ _ p (by rw [vfn_size]; kernel_rfl) (by simp only [vfn_size]) (vfn_one _) ?_))
      refine bodyPost_ret (results_vec rfl _ _ _ _ _ _ _ rfl (p.row (vfn x)) Try.underlying25 rfl (by rw [vfn_size]; kernel_rfl)) rfl ?_; refine ⟨?_, Below.setRow hB (Nat.le_refl _) _⟩
      unfold eachF eachE; rw [HG.out]; rfl
set_option maxRecDepth 100000 in
set_option maxHeartbeats 1500000 in
theorem vlimit_any (f : Nat → Int) (m : Int) (w : World) (hI : ∀ i, i < 3 → I64 (f i)) (hm : I64 m) : Calls Try.prog 60 #[.agg (vfn f), .int .i64 m] w fun e w' => e = .returned (.tuple #[.agg (vfn (limF f m)), .int .i64 (limE f m)]) ∧ Below w.heap.size w w' := by
  have V := Lib.hid (fun w => valid_any f w)
  obtain ⟨X, hX⟩ : ∃ X, limF f m = X := ⟨_, rfl⟩
  obtain ⟨E, hE⟩ : ∃ E, limE f m = E := ⟨_, rfl⟩
  rw [hX, hE]
  unfold limF at hX
  unfold limE at hE
  obtain ⟨bk, hk⟩ : ∃ b, okV f = b := ⟨_, rfl⟩
  rw [hk] at V
  have HK := Lib.hid hk
  have HX := Lib.hid hX
  have HE := Lib.hid hE
  have HM := Lib.hid hm
  clear hk hX hE hm hI
  go_enter Try.func60, Try.ntmps60
  go_upto_region 1 with (fail)
  rw [zero_vec]
  have p : blk (((w.alloc (.cells (vfn f) 25)).alloc (.cells #[.int .i64 m] 2)).alloc (.cells (vfn fun _ => 0) 25)) w.heap.size (vfn f) 25 := ((blk.new _ _ _).alloc _).alloc _
  have q : blk (((w.alloc (.cells (vfn f) 25)).alloc (.cells #[.int .i64 m] 2)).alloc (.cells (vfn fun _ => 0) 25)) (w.heap.size + 1) #[.int .i64 m] 2 := (blk.new' (by simp)).alloc _
  have r : blk (((w.alloc (.cells (vfn f) 25)).alloc (.cells #[.int .i64 m] 2)).alloc (.cells (vfn fun _ => 0) 25)) (w.heap.size + 2) (vfn fun _ => 0) 25 := blk.new' (by simp)
  have hB : Below w.heap.size w (((w.alloc (.cells (vfn f) 25)).alloc (.cells #[.int .i64 m] 2)).alloc (.cells (vfn fun _ => 0) 25)) := by go_grown
  generalize ((w.alloc (.cells (vfn f) 25)).alloc (.cells #[.int .i64 m] 2)).alloc (.cells (vfn fun _ => 0) 25) = w0 at *
  cases bk
  case false =>
    go_wp2_with (first | (refine wpList_load_rowG ?hw _ _ rfl _ rfl _ _ _ _ p Try.underlying25 rfl ?hi ?_; (case hw => (first | rfl | (simp [Region.wanted, yielded]; done))); (case hi => (rw [vfn_size]; kernel_rfl))) | (go_at_call 74; with_reducible refine (V.out _).mono ?_; rintro e w1 ⟨rfl, hb⟩; replace hB := hB.trans (hb.mono hB.size); replace p := p.below hb p.lt; replace q := q.below hb q.lt; replace r := r.below hb r.lt; clear hb; have cq : w1.cell? ⟨w.heap.size + 1, 0, none⟩ = some (.int .i64 m) := q.cellIs rfl) | (rw [zero_vec]; refine wpList_store_row rfl _ _ _ rfl _ rfl _ rfl _ _ r (by rw [vfn_size]; kernel_rfl) (by simp only [vfn_size]) (vfn_one _) ?_))
    refine bodyPost_ret (results_vec rfl _ _ _ _ _ _ _ rfl (r.row (vfn (fun _ => 0))) Try.underlying25 rfl (by rw [vfn_size]; kernel_rfl)) rfl ?_; refine ⟨?_, Below.setRow hB (by omega) _⟩
    rw [← HX.out, ← HE.out, if_neg (fun h => by have := h.1; rw [HK.out] at this; cases this), if_neg (fun h => by have := h.1; rw [HK.out] at this; cases this)]; rfl
  by_cases hm0 : m < 0
  · have d0 : decide (m < 0) = true := decide_eq_true hm0
    have H0 := Lib.hid hm0
    clear hm0
    go_wp2_with (first | (refine wpList_load_rowG ?hw _ _ rfl _ rfl _ _ _ _ p Try.underlying25 rfl ?hi ?_; (case hw => (first | rfl | (simp [Region.wanted, yielded]; done))); (case hi => (rw [vfn_size]; kernel_rfl))) | (go_at_call 74; with_reducible refine (V.out _).mono ?_; rintro e w1 ⟨rfl, hb⟩; replace hB := hB.trans (hb.mono hB.size); replace p := p.below hb p.lt; replace q := q.below hb q.lt; replace r := r.below hb r.lt; clear hb; have cq : w1.cell? ⟨w.heap.size + 1, 0, none⟩ = some (.int .i64 m) := q.cellIs rfl) | (rw [zero_vec]; refine wpList_store_row rfl _ _ _ rfl _ rfl _ rfl _ _ r (by rw [vfn_size]; kernel_rfl) (by simp only [vfn_size]) (vfn_one _) ?_))
    refine bodyPost_ret (results_vec rfl _ _ _ _ _ _ _ rfl (r.row (vfn (fun _ => 0))) Try.underlying25 rfl (by rw [vfn_size]; kernel_rfl)) rfl ?_; refine ⟨?_, Below.setRow hB (by omega) _⟩
    rw [← HX.out, ← HE.out, if_neg (fun h => by have := h.2.1; have := H0.out; omega), if_neg (fun h => by have := h.2.1; have := H0.out; omega)]; rfl
  have d0 : decide (m < 0) = false := decide_eq_false hm0
  have H0 := Lib.hid (Int.not_lt.1 hm0)
  clear hm0
  by_cases hm1 : 1099511627776 < m
  · have d1 : decide (1099511627776 < m) = true := decide_eq_true hm1
    have d2 : decide (m > 1099511627776) = true := decide_eq_true hm1
    have H1 := Lib.hid hm1
    clear hm1
    go_wp2_with (first | (refine wpList_load_rowG ?hw _ _ rfl _ rfl _ _ _ _ p Try.underlying25 rfl ?hi ?_; (case hw => (first | rfl | (simp [Region.wanted, yielded]; done))); (case hi => (rw [vfn_size]; kernel_rfl))) | (go_at_call 74; with_reducible refine (V.out _).mono ?_; rintro e w1 ⟨rfl, hb⟩; replace hB := hB.trans (hb.mono hB.size); replace p := p.below hb p.lt; replace q := q.below hb q.lt; replace r := r.below hb r.lt; clear hb; have cq : w1.cell? ⟨w.heap.size + 1, 0, none⟩ = some (.int .i64 m) := q.cellIs rfl) | (rw [zero_vec]; refine wpList_store_row rfl _ _ _ rfl _ rfl _ rfl _ _ r (by rw [vfn_size]; kernel_rfl) (by simp only [vfn_size]) (vfn_one _) ?_))
    refine bodyPost_ret (results_vec rfl _ _ _ _ _ _ _ rfl (r.row (vfn (fun _ => 0))) Try.underlying25 rfl (by rw [vfn_size]; kernel_rfl)) rfl ?_; refine ⟨?_, Below.setRow hB (by omega) _⟩
    rw [← HX.out, ← HE.out, if_neg (fun h => by have := h.2.2; have := H1.out; omega), if_neg (fun h => by have := h.2.2; have := H1.out; omega)]; rfl
  have d1 : decide (1099511627776 < m) = false := decide_eq_false hm1
  have d2 : decide (m > 1099511627776) = false := decide_eq_false hm1
  have H1 := Lib.hid (Int.not_lt.1 hm1)
  clear hm1
  have HL : Hid (okL f m) := ⟨HK.out, H0.out, H1.out⟩
  have LE := Lib.hid (fun w => vleast_any f w HK.out)
  obtain ⟨n, hn⟩ : ∃ n, n = lst f := ⟨_, rfl⟩
  rw [← hn] at LE
  rw [if_pos HL.out] at HX HE
  rw [← hn] at HX
  have HN := Lib.hid hn
  clear hn
  go_upto_region 4 with (first | (refine wpList_load_rowG ?hw _ _ rfl _ rfl _ _ _ _ p Try.underlying25 rfl ?hi ?_; (case hw => (first | rfl | (simp [Region.wanted, yielded]; done))); (case hi => (rw [vfn_size]; kernel_rfl))) | (go_at_call 74; with_reducible refine (V.out _).mono ?_; rintro e w1 ⟨rfl, hb⟩; replace hB := hB.trans (hb.mono hB.size); replace p := p.below hb p.lt; replace q := q.below hb q.lt; replace r := r.below hb r.lt; clear hb; have cq : w1.cell? ⟨w.heap.size + 1, 0, none⟩ = some (.int .i64 m) := q.cellIs rfl) | (go_at_call 101; with_reducible refine (LE.out _).mono ?_; clear cq; rintro e w3 ⟨rfl, hb⟩; replace hB := hB.trans (hb.mono hB.size); replace p := p.below hb p.lt; replace q := q.below hb q.lt; replace r := r.below hb r.lt; clear hb; have cq : w3.cell? ⟨w.heap.size + 1, 0, none⟩ = some (.int .i64 m) := q.cellIs rfl))
  have n1 := blk.new w3 #[.int .i64 (n : Int)] 2
  replace p := p.alloc (.cells #[.int .i64 (n : Int)] 2)
  replace q := q.alloc (.cells #[.int .i64 (n : Int)] 2)
  replace r := r.alloc (.cells #[.int .i64 (n : Int)] 2)
  replace hB := hB.alloc hB.size (.cells #[.int .i64 (n : Int)] 2)
  clear cq
  generalize w3.alloc (.cells #[.int .i64 (n : Int)] 2) = w4 at *
  generalize w3.heap.size = nb at *
  have cq : w4.cell? ⟨w.heap.size + 1, 0, none⟩ = some (.int .i64 m) := q.cellIs rfl
  have cn : w4.cell? ⟨nb, 0, none⟩ = some (.int .i64 (n : Int)) := n1.cellIs rfl
  by_cases hl : (n : Int) ≤ m
  · have d3 : decide ((n : Int) ≤ m) = true := decide_eq_true hl
    have H3 := Lib.hid hl
    clear hl
    go_wp2_with (first | (refine wpList_load_rowG ?hw _ _ rfl _ rfl _ _ _ _ p Try.underlying25 rfl ?hi ?_; (case hw => (first | rfl | (simp [Region.wanted, yielded]; done))); (case hi => (rw [vfn_size]; kernel_rfl))) | (refine wpList_store_row rfl _ _ _ rfl _ rfl _ rfl _ _ r (by rw [vfn_size]; kernel_rfl) (by simp only [vfn_size]) (vfn_one _) ?_))
    refine bodyPost_ret (results_vec rfl _ _ _ _ _ _ _ rfl (r.row (vfn f)) Try.underlying25 rfl (by rw [vfn_size]; kernel_rfl)) rfl ?_; refine ⟨?_, Below.setRow hB (by omega) _⟩
    rw [← HX.out, ← HE.out, if_pos H3.out]; rfl
  · have d3 : decide ((n : Int) ≤ m) = false := decide_eq_false hl
    have H3 := Lib.hid hl
    clear hl
    have hmn : (m.toNat : Int) = m := by have := H0.out; omega
    have HC : Hid (∀ i : Nat, i < 3 → ∀ w1, Below w4.heap.size w4 w1 → Calls Try.prog 102 #[.int .i64 i, .pointer (some ⟨w.heap.size, 0, none⟩), .pointer (some ⟨w.heap.size + 1, 0, none⟩), .pointer (some ⟨nb, 0, none⟩)] w1 fun e w' => e = .returned (.tuple #[.int .i64 (limX f m i), .int .i64 0]) ∧ Below w1.heap.size w1 w') := fun i hi w1 hb => by
      have q' := q.below hb q.lt
      rw [← hmn] at q'
      have := limC_any f m.toNat n w.heap.size (w.heap.size + 1) nb 2 2 w1 HK.out HN.out (by have := H3.out; omega) (by have := H1.out; omega) (p.below hb p.lt) q' (n1.below hb n1.lt) i hi
      rw [HN.out] at this
      exact this
    have HG : Hid (eachF (limX f m) (fun _ => 0) = limX f m ∧ eachE (limX f m) (fun _ => 0) = 0) := each_good (fun i hi => ⟨rfl, tow_vb (by have := H3.out; rw [← HN.out]; omega) (lst_part HK.out i hi) (by have := H1.out; omega)⟩)
    have HX2 : Hid (limX f m = X) := by show _ = _; rw [← HX.out, if_neg H3.out]
    clear hmn
    go_wp2_with (first | (go_at_call 73; refine (eachLim_any (limX f m) (fun _ => 0) _ _ _ _ HC).mono ?_; rintro e w5 ⟨rfl, hb⟩; rw [HG.out.1, HG.out.2, HX2.out]; replace hB := hB.trans (hb.mono hB.size); replace r := r.below hb r.lt; clear hb) | (refine wpList_store_row rfl _ _ _ rfl _ rfl _ rfl _ _ r (by rw [vfn_size]; kernel_rfl) (by simp only [vfn_size]) (vfn_one _) ?_))
    refine bodyPost_ret (results_vec rfl _ _ _ _ _ _ _ rfl (r.row (vfn X)) Try.underlying25 rfl (by rw [vfn_size]; kernel_rfl)) rfl ?_; refine ⟨?_, Below.setRow hB (by omega) _⟩
    rw [← HE.out]; rfl
end Go.Proofs.Ytjnocbjngojigaa
