/-
  The product of two matrices as a whole: Product of the package.
-/
import Derived.Test.YthkklhfnmodpnaaVecR
set_option linter.unusedSimpArgs false
set_option linter.unusedVariables false
namespace Go.Proofs.Ythkklhfnmodpnaa
open Go.RowKit PM Dt
theorem vfn_list (x : Nat → Int) : (vfn x).toList = [.int .i64 (x 0), .int .i64 (x 1), .int .i64 (x 2)] := by unfold vfn; rfl
/-- A row is stored into a matrix. -/
theorem wpList_store_sub {ops : Array Oper} {rest : List Oper} {o : Oper} {a : Act} {w : World} {Q : Exit → Act → World → Prop} (hgd : o.guard = none) (x y : Operand) (ho : o.op = .store 23 x y)
    (b r : Nat) {off : Nat} (hx : a.eval x = .pointer (some ⟨b, off, none⟩)) (hoff : off = 3 * r) (hr : r < 3) (v u u' : Nat → Int) (hy : a.eval y = .agg (vfn v)) {t : TypeId} (s : blk w b (mfn u) t)
    (h0 : u' (3 * r) = v 0) (h1 : u' (3 * r + 1) = v 1) (h2 : u' (3 * r + 1 + 1) = v 2) (hu : ∀ j, j < 9 → j ≠ 3 * r → j ≠ 3 * r + 1 → j ≠ 3 * r + 1 + 1 → u' j = u j)
    (h : ∀ w', blk w' b (mfn u') t → Oth b w w' → wpList Try.prog ops Q rest (a.put o.dst undef) w') : wpList Try.prog ops Q (o :: rest) a w := by
  subst hoff
  refine wpList_store_mid hgd 23 x y ho b (3 * r) (vfn v) hx hy (fun j hj => ?_) (by rw [vfn_size]; kernel_rfl) (vfn_one _) ?_
  · rw [vfn_size] at hj
    rw [s.cellIs (mfn_get u (show 3 * r + j < 9 by omega))]
    exact ⟨rfl, s.free _⟩
  · rw [vfn_list]
    refine h _ (s.cells3 (c' := mfn u') ?_) ((Oth.set _).trans ((Oth.set _).trans (Oth.set _)))
    let m1 : Nat → Int := fun j => if j = 3 * r then v 0 else u j
    let m2 : Nat → Int := fun j => if j = 3 * r + 1 then v 1 else m1 j
    rw [mfn_set (g := m1) (by omega) (by simp [m1]) (fun j hj hne => by simp [m1, hne]), mfn_set (g := m2) (by omega) (by simp [m2]) (fun j hj hne => by simp [m2, hne])]
    refine mfn_set (by omega) h2.symm (fun j hj hne => ?_)
    simp only [m1, m2]
    by_cases e1 : j = 3 * r + 1
    · subst e1; rw [if_pos rfl, h1]
    · rw [if_neg e1]
      by_cases e0 : j = 3 * r
      · subst e0; rw [if_pos rfl, h0]
      · rw [if_neg e0, hu j hj e0 e1 hne]
def vprodF (g h : Nat → Int) : Nat → Int := if okM g && okM h then (if okM (prodF g h) then prodF g h else fun _ => 0) else fun _ => 0
def vprodE (g h : Nat → Int) : Int := if okM g && okM h then (if okM (prodF g h) then 0 else 7) else 2
theorem prod_row (g h : Nat → Int) {i : Nat} (hi : i < 3) : okV (mrow (prodF g h) i) = okV (prodX g h i) := okV_same fun k hk => by
  unfold mrow prodF
  rw [show (3 * i + k) / 3 = i by omega, show (3 * i + k) % 3 = k by omega]
def ppre (u : Nat → Int) (i : Nat) : Nat → Int := fun j => if j < 3 * i then u j else 0
set_option maxRecDepth 100000 in
set_option maxHeartbeats 4000000 in
theorem vprod_no (g h : Nat → Int) (w : World) (hn : (okM g && okM h) = false) : Calls Try.prog 21 #[.agg (mfn g), .agg (mfn h)] w fun e w' => e = .returned (.tuple #[.agg (mfn (vprodF g h)), .int .i64 (vprodE g h)]) ∧ Below w.heap.size w w' := by
  have V1 := Lib.hid (fun w => mvalid_any g w)
  have V2 := Lib.hid (fun w => mvalid_any h w)
  have e1 : vprodF g h = fun _ => 0 := by unfold vprodF; rw [hn]; rfl
  have e2 : vprodE g h = 2 := by unfold vprodE; rw [hn]; rfl
  rw [e1, e2]
  clear e1 e2
  generalize okM g = bf at *
  generalize okM h = bg at *
  go_enter Try.func21, Try.ntmps21
  go_upto_region 2 with (fail)
  rw [zero_mat]
  have p : blk ((((w.alloc (.cells (mfn g) 25)).alloc (.cells (mfn h) 25)).alloc (.cells (mfn fun _ => 0) 25)).alloc (.cells (mfn fun _ => 0) 25)) w.heap.size (mfn g) 25 := (((blk.new _ _ _).alloc _).alloc _).alloc _
  have q : blk ((((w.alloc (.cells (mfn g) 25)).alloc (.cells (mfn h) 25)).alloc (.cells (mfn fun _ => 0) 25)).alloc (.cells (mfn fun _ => 0) 25)) (w.heap.size + 1) (mfn h) 25 := ((blk.new' (by simp)).alloc _).alloc _
  have r : blk ((((w.alloc (.cells (mfn g) 25)).alloc (.cells (mfn h) 25)).alloc (.cells (mfn fun _ => 0) 25)).alloc (.cells (mfn fun _ => 0) 25)) (w.heap.size + 1 + 1) (mfn fun _ => 0) 25 := (blk.new' (by simp)).alloc _
  have s : blk ((((w.alloc (.cells (mfn g) 25)).alloc (.cells (mfn h) 25)).alloc (.cells (mfn fun _ => 0) 25)).alloc (.cells (mfn fun _ => 0) 25)) (w.heap.size + 1 + 1 + 1) (mfn fun _ => 0) 25 := blk.new' (by simp)
  have hB : Below w.heap.size w ((((w.alloc (.cells (mfn g) 25)).alloc (.cells (mfn h) 25)).alloc (.cells (mfn fun _ => 0) 25)).alloc (.cells (mfn fun _ => 0) 25)) := by go_grown
  generalize (((w.alloc (.cells (mfn g) 25)).alloc (.cells (mfn h) 25)).alloc (.cells (mfn fun _ => 0) 25)).alloc (.cells (mfn fun _ => 0) 25) = w0 at *
  go_wp2_with (fail)
  go_loopw [10] (fun iv wr => iv = .int .i64 0 ∧ blk wr w.heap.size (mfn g) 25 ∧ blk wr (w.heap.size + 1) (mfn h) 25 ∧ blk wr (w.heap.size + 1 + 1) (mfn fun _ => 0) 25 ∧ blk wr (w.heap.size + 1 + 1 + 1) (mfn fun _ => 0) 25 ∧ Below w.heap.size w wr) (fun iv _ => 0)
  case atStart => exact ⟨rfl, p, q, r, s, hB⟩
  case round =>
    clear p q r s hB
    obtain ⟨rfl, p, q, r, s, hB⟩ := hrel
    have s0 := s
    cases bf <;> cases bg
    case true.true => cases hn
    all_goals
      clear hn
      go_upto_region 5 with (fail)
      have ri := blk.new wr #[.int .i64 0] 3
      replace p := p.alloc (.cells #[.int .i64 0] 3)
      replace q := q.alloc (.cells #[.int .i64 0] 3)
      replace r := r.alloc (.cells #[.int .i64 0] 3)
      replace s := s.alloc (.cells #[.int .i64 0] 3)
      have hbi : w.heap.size + 1 + 1 + 1 < wr.heap.size := by have := ri.lt; have := s0.lt; omega
      replace hB := hB.alloc hB.size (.cells #[.int .i64 0] 3)
      generalize wr.alloc (.cells #[.int .i64 0] 3) = wi at *
      generalize wr.heap.size = bi at *
      go_upto_region 6 with (first
        | (refine wpList_load_rowG ?hw _ _ rfl _ rfl _ _ _ _ p Try.underlying25 rfl ?hi ?_; (case hw => (first | rfl | (simp [Region.wanted, yielded]; done))); (case hi => (rw [mfn_size]; kernel_rfl)))
        | (refine wpList_load_rowG ?hw _ _ rfl _ rfl _ _ _ _ q Try.underlying25 rfl ?hi ?_; (case hw => (first | rfl | (simp [Region.wanted, yielded]; done))); (case hi => (rw [mfn_size]; kernel_rfl)))
        | (go_at_call 58; with_reducible refine (V1.out _).mono ?_; rintro e w2 ⟨rfl, hb⟩; replace hB := hB.trans (hb.mono hB.size); replace p := p.below hb p.lt; replace q := q.below hb q.lt; replace r := r.below hb r.lt; replace s := s.below hb s.lt; replace ri := ri.below hb ri.lt; clear hb)
        | (go_at_call 58; with_reducible refine (V2.out _).mono ?_; rintro e w2 ⟨rfl, hb⟩; replace hB := hB.trans (hb.mono hB.size); replace p := p.below hb p.lt; replace q := q.below hb q.lt; replace r := r.below hb r.lt; replace s := s.below hb s.lt; replace ri := ri.below hb ri.lt; clear hb)
        | (go_at_call 57; refine (each_no _ _).mono ?_; rintro e w3 ⟨rfl, hb⟩; replace hB := hB.trans (hb.mono hB.size); replace p := p.below hb p.lt; replace q := q.below hb q.lt; replace r := r.below hb r.lt; replace s := s.below hb s.lt; replace ri := ri.below hb ri.lt; clear hb)
        | (rw [zero_vec]; refine wpList_store_row rfl _ _ _ rfl _ rfl _ rfl _ _ (blk.new _ _ _) (by rw [vfn_size]; kernel_rfl) (by simp only [vfn_size]) (vfn_one _) ?_))
      have hl3 : bi < w3.heap.size := ri.lt
      replace r := (r.alloc (.cells (vfn fun _ => 0) 23)).rowOther (g := w3.heap.size) (by omega) (vfn fun _ => 0)
      replace hB := Below.setRow (hB.alloc hB.size (.cells (vfn fun _ => 0) 23)) (g := w3.heap.size) hB.size (vfn fun _ => 0)
      generalize (w3.alloc (.cells (vfn fun _ => 0) 23)).setRow w3.heap.size (vfn fun _ => 0) = w4 at *
      go_wp2_with (first | (rw [zero_mat]; refine wpList_store_row rfl _ _ _ rfl _ rfl _ rfl _ _ r (by rw [mfn_size]; kernel_rfl) (by simp only [mfn_size]) (mfn_one _) ?_))
      refine bodyPost_ret (results_vec rfl _ _ _ _ _ _ _ rfl (r.row (mfn (fun _ => 0))) Try.underlying25 rfl (by rw [mfn_size]; kernel_rfl)) rfl ?_; refine ⟨?_, Below.setRow hB (by omega) _⟩
      rfl
set_option maxRecDepth 100000 in
set_option maxHeartbeats 4000000 in
theorem vprod_yes (g h : Nat → Int) (w : World) (hf : okM g = true) (hg : okM h = true) : Calls Try.prog 21 #[.agg (mfn g), .agg (mfn h)] w fun e w' => e = .returned (.tuple #[.agg (mfn (vprodF g h)), .int .i64 (vprodE g h)]) ∧ Below w.heap.size w w' := by
  have V1 := Lib.hid (fun w => mvalid_any g w)
  have V2 := Lib.hid (fun w => mvalid_any h w)
  have HF := Lib.hid hf
  have HG := Lib.hid hg
  rw [hf] at V1
  rw [hg] at V2
  clear hf hg
  go_enter Try.func21, Try.ntmps21
  go_upto_region 2 with (fail)
  rw [zero_mat]
  have p : blk ((((w.alloc (.cells (mfn g) 25)).alloc (.cells (mfn h) 25)).alloc (.cells (mfn fun _ => 0) 25)).alloc (.cells (mfn fun _ => 0) 25)) w.heap.size (mfn g) 25 := (((blk.new _ _ _).alloc _).alloc _).alloc _
  have q : blk ((((w.alloc (.cells (mfn g) 25)).alloc (.cells (mfn h) 25)).alloc (.cells (mfn fun _ => 0) 25)).alloc (.cells (mfn fun _ => 0) 25)) (w.heap.size + 1) (mfn h) 25 := ((blk.new' (by simp)).alloc _).alloc _
  have r : blk ((((w.alloc (.cells (mfn g) 25)).alloc (.cells (mfn h) 25)).alloc (.cells (mfn fun _ => 0) 25)).alloc (.cells (mfn fun _ => 0) 25)) (w.heap.size + 1 + 1) (mfn fun _ => 0) 25 := (blk.new' (by simp)).alloc _
  have s : blk ((((w.alloc (.cells (mfn g) 25)).alloc (.cells (mfn h) 25)).alloc (.cells (mfn fun _ => 0) 25)).alloc (.cells (mfn fun _ => 0) 25)) (w.heap.size + 1 + 1 + 1) (mfn fun _ => 0) 25 := blk.new' (by simp)
  have hB : Below w.heap.size w ((((w.alloc (.cells (mfn g) 25)).alloc (.cells (mfn h) 25)).alloc (.cells (mfn fun _ => 0) 25)).alloc (.cells (mfn fun _ => 0) 25)) := by go_grown
  generalize (((w.alloc (.cells (mfn g) 25)).alloc (.cells (mfn h) 25)).alloc (.cells (mfn fun _ => 0) 25)).alloc (.cells (mfn fun _ => 0) 25) = w0 at *
  go_wp2_with (fail)
  go_loopw [10] (fun iv wr => ∃ i : Nat, i ≤ 3 ∧ iv = .int .i64 i ∧ Hid (∀ j, j < i → okV (prodX g h j) = true) ∧ blk wr w.heap.size (mfn g) 25 ∧ blk wr (w.heap.size + 1) (mfn h) 25 ∧ blk wr (w.heap.size + 1 + 1) (mfn fun _ => 0) 25 ∧ blk wr (w.heap.size + 1 + 1 + 1) (mfn (ppre (prodF g h) i)) 25 ∧ Below w.heap.size w wr) (fun iv _ => 3 - (intOf iv).toNat)
  case atStart => exact ⟨0, by omega, rfl, fun j hj => by omega, p, q, r, by rw [show mfn (ppre (prodF g h) 0) = mfn (fun _ => 0) from mfn_congr fun i _ => by simp [ppre]]; exact s, hB⟩
  case round =>
    clear p q r s hB
    obtain ⟨i, hi3, rfl, hall, p, q, r, s, hB⟩ := hrel
    have s0 := s
    have hcase : i = 0 ∨ i = 1 ∨ i = 2 ∨ i = 3 := by omega
    rcases hcase with rfl | rfl | rfl | rfl
    · -- row 0
      go_upto_region 5 with (fail)
      have ri := blk.new wr #[.int .i64 0] 3
      replace p := p.alloc (.cells #[.int .i64 0] 3)
      replace q := q.alloc (.cells #[.int .i64 0] 3)
      replace r := r.alloc (.cells #[.int .i64 0] 3)
      replace s := s.alloc (.cells #[.int .i64 0] 3)
      have hbi : w.heap.size + 1 + 1 + 1 < wr.heap.size := by have := ri.lt; have := s0.lt; omega
      replace hB := hB.alloc hB.size (.cells #[.int .i64 0] 3)
      generalize wr.alloc (.cells #[.int .i64 0] 3) = wi at *
      generalize wr.heap.size = bi at *
      obtain ⟨bo, hbo⟩ : ∃ bo, okV (prodX g h 0) = bo := ⟨_, rfl⟩
      have HBO := Lib.hid hbo
      clear hbo
      go_upto_region 6 with (first
        | (refine wpList_load_rowG ?hw _ _ rfl _ rfl _ _ _ _ p Try.underlying25 rfl ?hi ?_; (case hw => (first | rfl | (simp [Region.wanted, yielded]; done))); (case hi => (rw [mfn_size]; kernel_rfl)))
        | (refine wpList_load_rowG ?hw _ _ rfl _ rfl _ _ _ _ q Try.underlying25 rfl ?hi ?_; (case hw => (first | rfl | (simp [Region.wanted, yielded]; done))); (case hi => (rw [mfn_size]; kernel_rfl)))
        | (go_at_call 58; with_reducible refine (V1.out _).mono ?_; rintro e w2 ⟨rfl, hb⟩; replace hB := hB.trans (hb.mono hB.size); replace p := p.below hb p.lt; replace q := q.below hb q.lt; replace r := r.below hb r.lt; replace s := s.below hb s.lt; replace ri := ri.below hb ri.lt; clear hb)
        | (go_at_call 58; with_reducible refine (V2.out _).mono ?_; rintro e w2 ⟨rfl, hb⟩; replace hB := hB.trans (hb.mono hB.size); replace p := p.below hb p.lt; replace q := q.below hb q.lt; replace r := r.below hb r.lt; replace s := s.below hb s.lt; replace ri := ri.below hb ri.lt; clear hb)
        | (go_at_call 57; refine (eachProd_any (prodX g h 0) (fun _ => 0) _ _ _ _ (fun k hk wx hx => prodC0 g h _ _ _ wx HF.out HG.out (p.below hx p.lt) (ri.below hx ri.lt) (q.below hx q.lt) k hk)).mono ?_; rintro e w3 ⟨rfl, hb⟩; rw [(each_res _).1, (each_res _).2]; replace hB := hB.trans (hb.mono hB.size); replace p := p.below hb p.lt; replace q := q.below hb q.lt; replace r := r.below hb r.lt; replace s := s.below hb s.lt; replace ri := ri.below hb ri.lt; clear hb)
        | (rw [zero_vec]; refine wpList_store_row rfl _ _ _ rfl _ rfl _ rfl _ _ (blk.new _ _ _) (by rw [vfn_size]; kernel_rfl) (by simp only [vfn_size]) (vfn_one _) ?_))
      have r8 := (blk.new w3 (vfn fun _ => 0) 23).row (vfn (resF (prodX g h 0)))
      have hl3 : bi < w3.heap.size := ri.lt
      replace p := (p.alloc (.cells (vfn fun _ => 0) 23)).rowOther (g := w3.heap.size) (by omega) (vfn (resF (prodX g h 0)))
      replace q := (q.alloc (.cells (vfn fun _ => 0) 23)).rowOther (g := w3.heap.size) (by omega) (vfn (resF (prodX g h 0)))
      replace r := (r.alloc (.cells (vfn fun _ => 0) 23)).rowOther (g := w3.heap.size) (by omega) (vfn (resF (prodX g h 0)))
      replace s := (s.alloc (.cells (vfn fun _ => 0) 23)).rowOther (g := w3.heap.size) (by omega) (vfn (resF (prodX g h 0)))
      replace ri := (ri.alloc (.cells (vfn fun _ => 0) 23)).rowOther (g := w3.heap.size) (by omega) (vfn (resF (prodX g h 0)))
      replace hB := Below.setRow (hB.alloc hB.size (.cells (vfn fun _ => 0) 23)) (g := w3.heap.size) hB.size (vfn (resF (prodX g h 0)))
      generalize (w3.alloc (.cells (vfn fun _ => 0) 23)).setRow w3.heap.size (vfn (resF (prodX g h 0))) = w4 at *
      generalize w3.heap.size = b8 at *
      cases bo
      · have hE : resE (prodX g h 0) = 7 := by unfold resE; rw [HBO.out]; rfl
        rw [hE]
        clear hE
        have HN : Hid (okM (prodF g h) = false) := by
          show _ = _
          rw [Bool.eq_false_iff]; intro hh
          have := (okM_iff _).1 hh 0 (by omega)
          rw [prod_row g h (by omega), HBO.out] at this; cases this
        go_wp2_with (first | (rw [zero_mat]; refine wpList_store_row rfl _ _ _ rfl _ rfl _ rfl _ _ r (by rw [mfn_size]; kernel_rfl) (by simp only [mfn_size]) (mfn_one _) ?_))
        refine bodyPost_ret (results_vec rfl _ _ _ _ _ _ _ rfl (r.row (mfn (fun _ => 0))) Try.underlying25 rfl (by rw [mfn_size]; kernel_rfl)) rfl ?_; refine ⟨?_, Below.setRow hB (by omega) _⟩
        unfold vprodF vprodE; rw [HF.out, HG.out, HN.out]; rfl
      · have hE : resE (prodX g h 0) = 0 := by unfold resE; rw [HBO.out]; rfl
        have hR : vfn (resF (prodX g h 0)) = vfn (prodX g h 0) := by unfold resF; rw [HBO.out]; rfl
        rw [hE]
        rw [hR] at r8
        clear hE hR
        have ci : w4.cell? ⟨bi, 0, none⟩ = some (.int .i64 0) := ri.cellIs rfl
        go_wp2_with (first
          | (refine wpList_load_rowG ?hw _ _ rfl _ rfl _ _ _ _ r8 Try.underlying23 rfl ?hi ?_; (case hw => (first | rfl | (simp [Region.wanted, yielded]; done))); (case hi => (rw [vfn_size]; kernel_rfl)))
          | (refine wpList_store_sub rfl _ _ rfl (w.heap.size + 1 + 1 + 1) 0 rfl rfl (by omega) (prodX g h 0) (ppre (prodF g h) 0) (ppre (prodF g h) 1) rfl s (by first | rfl | simp [ppre, prodF]) (by first | rfl | simp [ppre, prodF]) (by first | rfl | simp [ppre, prodF]) (fun j hj a0 a1 a2 => by simp only [ppre]; split <;> split <;> first | rfl | omega) ?_; intro w5 s5 hO; replace p := hO.blk p (by omega); replace q := hO.blk q (by omega); replace r := hO.blk r (by omega); replace hB := Oth.into hO (by omega) hB hB.size; clear s hO ci))
        go_roundw
        case rel => exact ⟨1, by omega, rfl, fun j hj => by (have : j = 0 := by omega); (rcases this with rfl) <;> first | exact HBO.out | exact hall.out _ (by omega), p, q, r, s5, hB⟩
        case measure => simp [intOf]
    · -- row 1
      go_upto_region 5 with (fail)
      have ri := blk.new wr #[.int .i64 1] 3
      replace p := p.alloc (.cells #[.int .i64 1] 3)
      replace q := q.alloc (.cells #[.int .i64 1] 3)
      replace r := r.alloc (.cells #[.int .i64 1] 3)
      replace s := s.alloc (.cells #[.int .i64 1] 3)
      have hbi : w.heap.size + 1 + 1 + 1 < wr.heap.size := by have := ri.lt; have := s0.lt; omega
      replace hB := hB.alloc hB.size (.cells #[.int .i64 1] 3)
      generalize wr.alloc (.cells #[.int .i64 1] 3) = wi at *
      generalize wr.heap.size = bi at *
      obtain ⟨bo, hbo⟩ : ∃ bo, okV (prodX g h 1) = bo := ⟨_, rfl⟩
      have HBO := Lib.hid hbo
      clear hbo
      go_upto_region 6 with (first
        | (refine wpList_load_rowG ?hw _ _ rfl _ rfl _ _ _ _ p Try.underlying25 rfl ?hi ?_; (case hw => (first | rfl | (simp [Region.wanted, yielded]; done))); (case hi => (rw [mfn_size]; kernel_rfl)))
        | (refine wpList_load_rowG ?hw _ _ rfl _ rfl _ _ _ _ q Try.underlying25 rfl ?hi ?_; (case hw => (first | rfl | (simp [Region.wanted, yielded]; done))); (case hi => (rw [mfn_size]; kernel_rfl)))
        | (go_at_call 58; with_reducible refine (V1.out _).mono ?_; rintro e w2 ⟨rfl, hb⟩; replace hB := hB.trans (hb.mono hB.size); replace p := p.below hb p.lt; replace q := q.below hb q.lt; replace r := r.below hb r.lt; replace s := s.below hb s.lt; replace ri := ri.below hb ri.lt; clear hb)
        | (go_at_call 58; with_reducible refine (V2.out _).mono ?_; rintro e w2 ⟨rfl, hb⟩; replace hB := hB.trans (hb.mono hB.size); replace p := p.below hb p.lt; replace q := q.below hb q.lt; replace r := r.below hb r.lt; replace s := s.below hb s.lt; replace ri := ri.below hb ri.lt; clear hb)
        | (go_at_call 57; refine (eachProd_any (prodX g h 1) (fun _ => 0) _ _ _ _ (fun k hk wx hx => prodC1 g h _ _ _ wx HF.out HG.out (p.below hx p.lt) (ri.below hx ri.lt) (q.below hx q.lt) k hk)).mono ?_; rintro e w3 ⟨rfl, hb⟩; rw [(each_res _).1, (each_res _).2]; replace hB := hB.trans (hb.mono hB.size); replace p := p.below hb p.lt; replace q := q.below hb q.lt; replace r := r.below hb r.lt; replace s := s.below hb s.lt; replace ri := ri.below hb ri.lt; clear hb)
        | (rw [zero_vec]; refine wpList_store_row rfl _ _ _ rfl _ rfl _ rfl _ _ (blk.new _ _ _) (by rw [vfn_size]; kernel_rfl) (by simp only [vfn_size]) (vfn_one _) ?_))
      have r8 := (blk.new w3 (vfn fun _ => 0) 23).row (vfn (resF (prodX g h 1)))
      have hl3 : bi < w3.heap.size := ri.lt
      replace p := (p.alloc (.cells (vfn fun _ => 0) 23)).rowOther (g := w3.heap.size) (by omega) (vfn (resF (prodX g h 1)))
      replace q := (q.alloc (.cells (vfn fun _ => 0) 23)).rowOther (g := w3.heap.size) (by omega) (vfn (resF (prodX g h 1)))
      replace r := (r.alloc (.cells (vfn fun _ => 0) 23)).rowOther (g := w3.heap.size) (by omega) (vfn (resF (prodX g h 1)))
      replace s := (s.alloc (.cells (vfn fun _ => 0) 23)).rowOther (g := w3.heap.size) (by omega) (vfn (resF (prodX g h 1)))
      replace ri := (ri.alloc (.cells (vfn fun _ => 0) 23)).rowOther (g := w3.heap.size) (by omega) (vfn (resF (prodX g h 1)))
      replace hB := Below.setRow (hB.alloc hB.size (.cells (vfn fun _ => 0) 23)) (g := w3.heap.size) hB.size (vfn (resF (prodX g h 1)))
      generalize (w3.alloc (.cells (vfn fun _ => 0) 23)).setRow w3.heap.size (vfn (resF (prodX g h 1))) = w4 at *
      generalize w3.heap.size = b8 at *
      cases bo
      · have hE : resE (prodX g h 1) = 7 := by unfold resE; rw [HBO.out]; rfl
        rw [hE]
        clear hE
        have HN : Hid (okM (prodF g h) = false) := by
          show _ = _
          rw [Bool.eq_false_iff]; intro hh
          have := (okM_iff _).1 hh 1 (by omega)
          rw [prod_row g h (by omega), HBO.out] at this; cases this
        go_wp2_with (first | (rw [zero_mat]; refine wpList_store_row rfl _ _ _ rfl _ rfl _ rfl _ _ r (by rw [mfn_size]; kernel_rfl) (by simp only [mfn_size]) (mfn_one _) ?_))
        refine bodyPost_ret (results_vec rfl _ _ _ _ _ _ _ rfl (r.row (mfn (fun _ => 0))) Try.underlying25 rfl (by rw [mfn_size]; kernel_rfl)) rfl ?_; refine ⟨?_, Below.setRow hB (by omega) _⟩
        unfold vprodF vprodE; rw [HF.out, HG.out, HN.out]; rfl
      · have hE : resE (prodX g h 1) = 0 := by unfold resE; rw [HBO.out]; rfl
        have hR : vfn (resF (prodX g h 1)) = vfn (prodX g h 1) := by unfold resF; rw [HBO.out]; rfl
        rw [hE]
        rw [hR] at r8
        clear hE hR
        have ci : w4.cell? ⟨bi, 0, none⟩ = some (.int .i64 1) := ri.cellIs rfl
        go_wp2_with (first
          | (refine wpList_load_rowG ?hw _ _ rfl _ rfl _ _ _ _ r8 Try.underlying23 rfl ?hi ?_; (case hw => (first | rfl | (simp [Region.wanted, yielded]; done))); (case hi => (rw [vfn_size]; kernel_rfl)))
          | (refine wpList_store_sub rfl _ _ rfl (w.heap.size + 1 + 1 + 1) 1 rfl rfl (by omega) (prodX g h 1) (ppre (prodF g h) 1) (ppre (prodF g h) 2) rfl s (by first | rfl | simp [ppre, prodF]) (by first | rfl | simp [ppre, prodF]) (by first | rfl | simp [ppre, prodF]) (fun j hj a0 a1 a2 => by simp only [ppre]; split <;> split <;> first | rfl | omega) ?_; intro w5 s5 hO; replace p := hO.blk p (by omega); replace q := hO.blk q (by omega); replace r := hO.blk r (by omega); replace hB := Oth.into hO (by omega) hB hB.size; clear s hO ci))
        go_roundw
        case rel => exact ⟨2, by omega, rfl, fun j hj => by (have : j = 0 ∨ j = 1 := by omega); (rcases this with rfl | rfl) <;> first | exact HBO.out | exact hall.out _ (by omega), p, q, r, s5, hB⟩
        case measure => simp [intOf]
    · -- row 2
      go_upto_region 5 with (fail)
      have ri := blk.new wr #[.int .i64 2] 3
      replace p := p.alloc (.cells #[.int .i64 2] 3)
      replace q := q.alloc (.cells #[.int .i64 2] 3)
      replace r := r.alloc (.cells #[.int .i64 2] 3)
      replace s := s.alloc (.cells #[.int .i64 2] 3)
      have hbi : w.heap.size + 1 + 1 + 1 < wr.heap.size := by have := ri.lt; have := s0.lt; omega
      replace hB := hB.alloc hB.size (.cells #[.int .i64 2] 3)
      generalize wr.alloc (.cells #[.int .i64 2] 3) = wi at *
      generalize wr.heap.size = bi at *
      obtain ⟨bo, hbo⟩ : ∃ bo, okV (prodX g h 2) = bo := ⟨_, rfl⟩
      have HBO := Lib.hid hbo
      clear hbo
      go_upto_region 6 with (first
        | (refine wpList_load_rowG ?hw _ _ rfl _ rfl _ _ _ _ p Try.underlying25 rfl ?hi ?_; (case hw => (first | rfl | (simp [Region.wanted, yielded]; done))); (case hi => (rw [mfn_size]; kernel_rfl)))
        | (refine wpList_load_rowG ?hw _ _ rfl _ rfl _ _ _ _ q Try.underlying25 rfl ?hi ?_; (case hw => (first | rfl | (simp [Region.wanted, yielded]; done))); (case hi => (rw [mfn_size]; kernel_rfl)))
        | (go_at_call 58; with_reducible refine (V1.out _).mono ?_; rintro e w2 ⟨rfl, hb⟩; replace hB := hB.trans (hb.mono hB.size); replace p := p.below hb p.lt; replace q := q.below hb q.lt; replace r := r.below hb r.lt; replace s := s.below hb s.lt; replace ri := ri.below hb ri.lt; clear hb)
        | (go_at_call 58; with_reducible refine (V2.out _).mono ?_; rintro e w2 ⟨rfl, hb⟩; replace hB := hB.trans (hb.mono hB.size); replace p := p.below hb p.lt; replace q := q.below hb q.lt; replace r := r.below hb r.lt; replace s := s.below hb s.lt; replace ri := ri.below hb ri.lt; clear hb)
        | (go_at_call 57; refine (eachProd_any (prodX g h 2) (fun _ => 0) _ _ _ _ (fun k hk wx hx => prodC2 g h _ _ _ wx HF.out HG.out (p.below hx p.lt) (ri.below hx ri.lt) (q.below hx q.lt) k hk)).mono ?_; rintro e w3 ⟨rfl, hb⟩; rw [(each_res _).1, (each_res _).2]; replace hB := hB.trans (hb.mono hB.size); replace p := p.below hb p.lt; replace q := q.below hb q.lt; replace r := r.below hb r.lt; replace s := s.below hb s.lt; replace ri := ri.below hb ri.lt; clear hb)
        | (rw [zero_vec]; refine wpList_store_row rfl _ _ _ rfl _ rfl _ rfl _ _ (blk.new _ _ _) (by rw [vfn_size]; kernel_rfl) (by simp only [vfn_size]) (vfn_one _) ?_))
      have r8 := (blk.new w3 (vfn fun _ => 0) 23).row (vfn (resF (prodX g h 2)))
      have hl3 : bi < w3.heap.size := ri.lt
      replace p := (p.alloc (.cells (vfn fun _ => 0) 23)).rowOther (g := w3.heap.size) (by omega) (vfn (resF (prodX g h 2)))
      replace q := (q.alloc (.cells (vfn fun _ => 0) 23)).rowOther (g := w3.heap.size) (by omega) (vfn (resF (prodX g h 2)))
      replace r := (r.alloc (.cells (vfn fun _ => 0) 23)).rowOther (g := w3.heap.size) (by omega) (vfn (resF (prodX g h 2)))
      replace s := (s.alloc (.cells (vfn fun _ => 0) 23)).rowOther (g := w3.heap.size) (by omega) (vfn (resF (prodX g h 2)))
      replace ri := (ri.alloc (.cells (vfn fun _ => 0) 23)).rowOther (g := w3.heap.size) (by omega) (vfn (resF (prodX g h 2)))
      replace hB := Below.setRow (hB.alloc hB.size (.cells (vfn fun _ => 0) 23)) (g := w3.heap.size) hB.size (vfn (resF (prodX g h 2)))
      generalize (w3.alloc (.cells (vfn fun _ => 0) 23)).setRow w3.heap.size (vfn (resF (prodX g h 2))) = w4 at *
      generalize w3.heap.size = b8 at *
      cases bo
      · have hE : resE (prodX g h 2) = 7 := by unfold resE; rw [HBO.out]; rfl
        rw [hE]
        clear hE
        have HN : Hid (okM (prodF g h) = false) := by
          show _ = _
          rw [Bool.eq_false_iff]; intro hh
          have := (okM_iff _).1 hh 2 (by omega)
          rw [prod_row g h (by omega), HBO.out] at this; cases this
        go_wp2_with (first | (rw [zero_mat]; refine wpList_store_row rfl _ _ _ rfl _ rfl _ rfl _ _ r (by rw [mfn_size]; kernel_rfl) (by simp only [mfn_size]) (mfn_one _) ?_))
        refine bodyPost_ret (results_vec rfl _ _ _ _ _ _ _ rfl (r.row (mfn (fun _ => 0))) Try.underlying25 rfl (by rw [mfn_size]; kernel_rfl)) rfl ?_; refine ⟨?_, Below.setRow hB (by omega) _⟩
        unfold vprodF vprodE; rw [HF.out, HG.out, HN.out]; rfl
      · have hE : resE (prodX g h 2) = 0 := by unfold resE; rw [HBO.out]; rfl
        have hR : vfn (resF (prodX g h 2)) = vfn (prodX g h 2) := by unfold resF; rw [HBO.out]; rfl
        rw [hE]
        rw [hR] at r8
        clear hE hR
        have ci : w4.cell? ⟨bi, 0, none⟩ = some (.int .i64 2) := ri.cellIs rfl
        go_wp2_with (first
          | (refine wpList_load_rowG ?hw _ _ rfl _ rfl _ _ _ _ r8 Try.underlying23 rfl ?hi ?_; (case hw => (first | rfl | (simp [Region.wanted, yielded]; done))); (case hi => (rw [vfn_size]; kernel_rfl)))
          | (refine wpList_store_sub rfl _ _ rfl (w.heap.size + 1 + 1 + 1) 2 rfl rfl (by omega) (prodX g h 2) (ppre (prodF g h) 2) (ppre (prodF g h) 3) rfl s (by first | rfl | simp [ppre, prodF]) (by first | rfl | simp [ppre, prodF]) (by first | rfl | simp [ppre, prodF]) (fun j hj a0 a1 a2 => by simp only [ppre]; split <;> split <;> first | rfl | omega) ?_; intro w5 s5 hO; replace p := hO.blk p (by omega); replace q := hO.blk q (by omega); replace r := hO.blk r (by omega); replace hB := Oth.into hO (by omega) hB hB.size; clear s hO ci))
        go_roundw
        case rel => exact ⟨3, by omega, rfl, fun j hj => by (have : j = 0 ∨ j = 1 ∨ j = 2 := by omega); (rcases this with rfl | rfl | rfl) <;> first | exact HBO.out | exact hall.out _ (by omega), p, q, r, s5, hB⟩
        case measure => simp [intOf]
    · have e9 : mfn (ppre (prodF g h) 3) = mfn (prodF g h) := mfn_congr fun j hj => by simp [ppre, hj]
      rw [e9] at s
      have HY : Hid (okM (prodF g h) = true) := (okM_iff _).2 fun r hr => by rw [prod_row g h hr]; exact hall.out r hr
      go_wp2_with (first | (refine wpList_load_rowG ?hw _ _ rfl _ rfl _ _ _ _ s Try.underlying25 rfl ?hi ?_; (case hw => (first | rfl | (simp [Region.wanted, yielded]; done))); (case hi => (rw [mfn_size]; kernel_rfl))) | (refine wpList_store_row rfl _ _ _ rfl _ rfl _ rfl _ _ r (by rw [mfn_size]; kernel_rfl) (by simp only [mfn_size]) (mfn_one _) ?_))
      refine bodyPost_ret (results_vec rfl _ _ _ _ _ _ _ rfl (r.row (mfn (prodF g h))) Try.underlying25 rfl (by rw [mfn_size]; kernel_rfl)) rfl ?_; refine ⟨?_, Below.setRow hB (by omega) _⟩
      unfold vprodF vprodE; rw [HF.out, HG.out, HY.out]; rfl
theorem vprod_any (g h : Nat → Int) (w : World) : Calls Try.prog 21 #[.agg (mfn g), .agg (mfn h)] w fun e w' => e = .returned (.tuple #[.agg (mfn (vprodF g h)), .int .i64 (vprodE g h)]) ∧ Below w.heap.size w w' := by
  cases hn : (okM g && okM h) with
  | false => exact vprod_no g h w hn
  | true =>
    rw [Bool.and_eq_true] at hn
    exact vprod_yes g h w hn.1 hn.2
end Go.Proofs.Ythkklhfnmodpnaa
