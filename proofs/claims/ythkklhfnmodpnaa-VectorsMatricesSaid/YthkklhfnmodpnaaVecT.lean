/-
  The product of two matrices in the specification.
-/
import Derived.Test.YthkklhfnmodpnaaVecS
set_option linter.unusedSimpArgs false
set_option linter.unusedVariables false
namespace Go.Proofs.Ythkklhfnmodpnaa
open Go.RowKit PM Dt
def qpre (u : Nat → Int) (n : Nat) : Nat → Int := fun j => if j < n then u j else 0
theorem prod_tr (g h : Nat → Int) (i k : Nat) (hk : k < 3) : rnd (d3 (mrow g i) (mrow (mtr h) k)) = prodX g h i k := by
  unfold prodX d3
  have e : ∀ j, j < 3 → mrow (mtr h) k j = mcol h k j := fun j hj => mtr_cell h hk hj
  rw [e 0 (by omega), e 1 (by omega), e 2 (by omega)]
set_option maxRecDepth 100000 in
set_option maxHeartbeats 4000000 in
theorem rvprod_any (g h : Nat → Int) (w : World) : Calls Try.prog 22 #[.agg (mfn g), .agg (mfn h)] w fun e w' => e = .returned (.tuple #[.agg (mfn (vprodF g h)), .int .i64 (vprodE g h)]) ∧ Below w.heap.size w w' := by
  have V1 := Lib.hid (fun w => rmvalid_any g w)
  have V2 := Lib.hid (fun w => rmvalid_any h w)
  have V3 := Lib.hid (fun w => rmvalid_any (prodF g h) w)
  have TR := Lib.hid (fun w => turned_any h w)
  have HT : Hid (okM g = true → okM h = true → ∀ i k, i < 3 → k < 3 → ∀ w, Calls Try.prog 65 #[.agg (vfn (mrow g i)), .agg (vfn (mrow (mtr h) k))] w fun e w' => e = .returned (.int .i64 (prodX g h i k)) ∧ Below w.heap.size w w') := fun hg hh i k hi hk w => by
    have := rd_any (mrow g i) (mrow (mtr h) k) w ((okM_iff g).1 hg i hi) ((okM_iff _).1 (by rw [okM_mtr]; exact hh) k hk)
    rw [prod_tr g h i k hk] at this
    exact this
  have hk : ∃ F E, ((okM g && okM h) = false → F = (fun _ => 0) ∧ E = 2) ∧ (okM g = true → okM h = true → okM (prodF g h) = true → F = prodF g h ∧ E = 0) ∧ (okM g = true → okM h = true → okM (prodF g h) = false → F = (fun _ => 0) ∧ E = 7) ∧ vprodF g h = F ∧ vprodE g h = E :=
    ⟨_, _, fun e => by unfold vprodF vprodE; rw [e]; exact ⟨rfl, rfl⟩, fun e1 e2 e3 => by unfold vprodF vprodE; rw [e1, e2, e3]; exact ⟨rfl, rfl⟩, fun e1 e2 e3 => by unfold vprodF vprodE; rw [e1, e2, e3]; exact ⟨rfl, rfl⟩, rfl, rfl⟩
  obtain ⟨F, E, k1, k2, k3, e1, e2⟩ := hk
  rw [e1, e2]
  clear e1 e2
  have K1 := Lib.hid k1
  have K2 := Lib.hid k2
  have K3 := Lib.hid k3
  clear k1 k2 k3
  generalize okM g = bf at *
  generalize okM h = bg at *
  generalize okM (prodF g h) = bu at *
  generalize hT : mtr h = ht at *
  clear hT
  go_enter Try.func22, Try.ntmps22
  go_upto_region 1 with (fail)
  rw [zero_mat]
  have p : blk (((w.alloc (.cells (mfn g) 25)).alloc (.cells (mfn h) 25)).alloc (.cells (mfn fun _ => 0) 25)) w.heap.size (mfn g) 25 := ((blk.new _ _ _).alloc _).alloc _
  have q : blk (((w.alloc (.cells (mfn g) 25)).alloc (.cells (mfn h) 25)).alloc (.cells (mfn fun _ => 0) 25)) (w.heap.size + 1) (mfn h) 25 := (blk.new' (by simp)).alloc _
  have r : blk (((w.alloc (.cells (mfn g) 25)).alloc (.cells (mfn h) 25)).alloc (.cells (mfn fun _ => 0) 25)) (w.heap.size + 1 + 1) (mfn fun _ => 0) 25 := blk.new' (by simp)
  have hB : Below w.heap.size w (((w.alloc (.cells (mfn g) 25)).alloc (.cells (mfn h) 25)).alloc (.cells (mfn fun _ => 0) 25)) := by go_grown
  generalize ((w.alloc (.cells (mfn g) 25)).alloc (.cells (mfn h) 25)).alloc (.cells (mfn fun _ => 0) 25) = w0 at *
  cases bf
  · obtain ⟨rfl, rfl⟩ := K1.out rfl
    go_wp2_with (first
      | (refine wpList_load_rowG ?hw _ _ rfl _ rfl _ _ _ _ p Try.underlying25 rfl ?hi ?_; (case hw => (first | rfl | (simp [Region.wanted, yielded]; done))); (case hi => (rw [mfn_size]; kernel_rfl)))
      | (refine wpList_load_rowG ?hw _ _ rfl _ rfl _ _ _ _ q Try.underlying25 rfl ?hi ?_; (case hw => (first | rfl | (simp [Region.wanted, yielded]; done))); (case hi => (rw [mfn_size]; kernel_rfl)))
      | (go_at_call 62; with_reducible refine (V1.out _).mono ?_; rintro e w1 ⟨rfl, hb⟩; replace hB := hB.trans (hb.mono hB.size); replace p := p.below hb p.lt; replace q := q.below hb q.lt; replace r := r.below hb r.lt; clear hb)
      | (go_at_call 62; with_reducible refine (V2.out _).mono ?_; rintro e w1 ⟨rfl, hb⟩; replace hB := hB.trans (hb.mono hB.size); replace p := p.below hb p.lt; replace q := q.below hb q.lt; replace r := r.below hb r.lt; clear hb)
      | (rw [zero_mat]; refine wpList_store_row rfl _ _ _ rfl _ rfl _ rfl _ _ r (by rw [mfn_size]; kernel_rfl) (by simp only [mfn_size]) (mfn_one _) ?_))
    refine bodyPost_ret (results_vec rfl _ _ _ _ _ _ _ rfl (r.row (mfn (fun _ => 0))) Try.underlying25 rfl (by rw [mfn_size]; kernel_rfl)) rfl ?_; refine ⟨?_, Below.setRow hB (by omega) _⟩
    rfl
  cases bg
  · obtain ⟨rfl, rfl⟩ := K1.out rfl
    go_wp2_with (first
      | (refine wpList_load_rowG ?hw _ _ rfl _ rfl _ _ _ _ p Try.underlying25 rfl ?hi ?_; (case hw => (first | rfl | (simp [Region.wanted, yielded]; done))); (case hi => (rw [mfn_size]; kernel_rfl)))
      | (refine wpList_load_rowG ?hw _ _ rfl _ rfl _ _ _ _ q Try.underlying25 rfl ?hi ?_; (case hw => (first | rfl | (simp [Region.wanted, yielded]; done))); (case hi => (rw [mfn_size]; kernel_rfl)))
      | (go_at_call 62; with_reducible refine (V1.out _).mono ?_; rintro e w1 ⟨rfl, hb⟩; replace hB := hB.trans (hb.mono hB.size); replace p := p.below hb p.lt; replace q := q.below hb q.lt; replace r := r.below hb r.lt; clear hb)
      | (go_at_call 62; with_reducible refine (V2.out _).mono ?_; rintro e w1 ⟨rfl, hb⟩; replace hB := hB.trans (hb.mono hB.size); replace p := p.below hb p.lt; replace q := q.below hb q.lt; replace r := r.below hb r.lt; clear hb)
      | (rw [zero_mat]; refine wpList_store_row rfl _ _ _ rfl _ rfl _ rfl _ _ r (by rw [mfn_size]; kernel_rfl) (by simp only [mfn_size]) (mfn_one _) ?_))
    refine bodyPost_ret (results_vec rfl _ _ _ _ _ _ _ rfl (r.row (mfn (fun _ => 0))) Try.underlying25 rfl (by rw [mfn_size]; kernel_rfl)) rfl ?_; refine ⟨?_, Below.setRow hB (by omega) _⟩
    rfl
  replace HT := Lib.hid (HT.out rfl rfl)
  replace K2 := Lib.hid (K2.out rfl rfl)
  replace K3 := Lib.hid (K3.out rfl rfl)
  clear K1
  go_upto_region 4 with (first
      | (refine wpList_load_rowG ?hw _ _ rfl _ rfl _ _ _ _ p Try.underlying25 rfl ?hi ?_; (case hw => (first | rfl | (simp [Region.wanted, yielded]; done))); (case hi => (rw [mfn_size]; kernel_rfl)))
      | (refine wpList_load_rowG ?hw _ _ rfl _ rfl _ _ _ _ q Try.underlying25 rfl ?hi ?_; (case hw => (first | rfl | (simp [Region.wanted, yielded]; done))); (case hi => (rw [mfn_size]; kernel_rfl)))
      | (go_at_call 62; with_reducible refine (V1.out _).mono ?_; rintro e w1 ⟨rfl, hb⟩; replace hB := hB.trans (hb.mono hB.size); replace p := p.below hb p.lt; replace q := q.below hb q.lt; replace r := r.below hb r.lt; clear hb)
      | (go_at_call 62; with_reducible refine (V2.out _).mono ?_; rintro e w1 ⟨rfl, hb⟩; replace hB := hB.trans (hb.mono hB.size); replace p := p.below hb p.lt; replace q := q.below hb q.lt; replace r := r.below hb r.lt; clear hb))
  rw [zero_mat]
  have s := blk.new w1 (mfn fun _ => 0) 25
  have hb6 : w.heap.size + 1 + 1 < w1.heap.size := r.lt
  replace p := p.alloc (.cells (mfn fun _ => 0) 25)
  replace q := q.alloc (.cells (mfn fun _ => 0) 25)
  replace r := r.alloc (.cells (mfn fun _ => 0) 25)
  replace hB := hB.alloc hB.size (.cells (mfn fun _ => 0) 25)
  generalize w1.alloc (.cells (mfn fun _ => 0) 25) = w2 at *
  generalize w1.heap.size = b6 at *
  go_upto_region 5 with (first
      | (refine wpList_load_rowG ?hw _ _ rfl _ rfl _ _ _ _ q Try.underlying25 rfl ?hi ?_; (case hw => (first | rfl | (simp [Region.wanted, yielded]; done))); (case hi => (rw [mfn_size]; kernel_rfl)))
      | (go_at_call 68; refine (TR.out _).mono ?_; rintro e w3 ⟨rfl, hb⟩; replace hB := hB.trans (hb.mono hB.size); replace p := p.below hb p.lt; replace q := q.below hb q.lt; replace r := r.below hb r.lt; replace s := s.below hb s.lt; clear hb)
      | (rw [zero_mat]; refine wpList_store_row rfl _ _ _ rfl _ rfl _ rfl _ _ (blk.new _ _ _) (by rw [mfn_size]; kernel_rfl) (by simp only [mfn_size]) (mfn_one _) ?_))
  have u := (blk.new w3 (mfn fun _ => 0) 25).row (mfn ht)
  have hb7 : b6 < w3.heap.size := s.lt
  replace p := (p.alloc (.cells (mfn fun _ => 0) 25)).rowOther (g := w3.heap.size) (by omega) (mfn ht)
  replace r := (r.alloc (.cells (mfn fun _ => 0) 25)).rowOther (g := w3.heap.size) (by omega) (mfn ht)
  replace s := (s.alloc (.cells (mfn fun _ => 0) 25)).rowOther (g := w3.heap.size) (by omega) (mfn ht)
  replace hB := Below.setRow (hB.alloc hB.size (.cells (mfn fun _ => 0) 25)) (g := w3.heap.size) hB.size (mfn ht)
  generalize (w3.alloc (.cells (mfn fun _ => 0) 25)).setRow w3.heap.size (mfn ht) = w4 at *
  generalize w3.heap.size = b7 at *
  clear q
  go_wp2_with (fail)
  go_loopw [8] (fun iv wr => ∃ i : Nat, i ≤ 3 ∧ iv = .int .i64 i ∧ blk wr w.heap.size (mfn g) 25 ∧ blk wr (w.heap.size + 1 + 1) (mfn fun _ => 0) 25 ∧ blk wr b6 (mfn (qpre (prodF g h) (3 * i))) 25 ∧ blk wr b7 (mfn ht) 25 ∧ Below w.heap.size w wr) (fun iv _ => 3 - (intOf iv).toNat)
  case atStart => exact ⟨0, by omega, rfl, p, r, by rw [show mfn (qpre (prodF g h) (3 * 0)) = mfn (fun _ => 0) from mfn_congr fun i _ => by simp [qpre]]; exact s, u, hB⟩
  case round =>
    clear p r s u hB
    obtain ⟨i, hi3, rfl, p, r, s, u, hB⟩ := hrel
    have hcase : i = 0 ∨ i = 1 ∨ i = 2 ∨ i = 3 := by omega
    rcases hcase with rfl | rfl | rfl | rfl
    · go_wp2_with (fail)
      obtain ⟨wo, rfl⟩ : ∃ wo : World, wo = wr := ⟨_, rfl⟩
      go_loopw [9] (fun kv wi => ∃ k : Nat, k ≤ 3 ∧ kv = .int .i64 k ∧ blk wi w.heap.size (mfn g) 25 ∧ blk wi (w.heap.size + 1 + 1) (mfn fun _ => 0) 25 ∧ blk wi b6 (mfn (qpre (prodF g h) (0 + k))) 25 ∧ blk wi b7 (mfn ht) 25 ∧ Below w.heap.size w wi) (fun kv _ => 3 - (intOf kv).toNat)
      case atStart => exact ⟨0, by omega, rfl, p, r, s, u, hB⟩
      case round =>
        clear p r s u hB
        obtain ⟨k, hk3, rfl, p, r, s, u, hB⟩ := hrel
        have hcase : k = 0 ∨ k = 1 ∨ k = 2 ∨ k = 3 := by omega
        rcases hcase with rfl | rfl | rfl | rfl
        · go_upto_region 11 with (fail)
          have HIK := Lib.hid (HT.out 0 0 (by omega) (by omega))
          refine wp_region_X 11 (by kernel_rfl) (by kernel_rfl) ?_
          replace p := p.drew
          replace r := r.drew
          replace s := s.drew
          replace u := u.drew
          replace hB : Below w.heap.size w wr.drew := hB.drew
          generalize wr.drew = wd at *
          refine wpX_take 0 (.int .i64 0) rfl rfl (by kernel_rfl) (fun w1 h1 => by go_simp; exact ⟨rfl, Below.refl _ _⟩) ?_
          simp only [Act.put, List.setIfInBounds_toArray, List.set_cons_zero, List.set_cons_succ]
          refine wpX_take 1 (.int .i64 0) rfl rfl (by kernel_rfl) (fun w1 h1 => by go_simp; exact ⟨rfl, Below.refl _ _⟩) ?_
          simp only [Act.put, List.setIfInBounds_toArray, List.set_cons_zero, List.set_cons_succ]
          refine wpX_take 2 (.int .i64 0) rfl rfl (by kernel_rfl) (fun w1 h1 => by go_simp; exact ⟨rfl, Below.refl _ _⟩) ?_
          simp only [Act.put, List.setIfInBounds_toArray, List.set_cons_zero, List.set_cons_succ]
          refine wpX_take 3 (.pointer (some ⟨w.heap.size, 0, none⟩)) rfl rfl (by kernel_rfl) (fun w1 h1 => by go_simp; exact ⟨rfl, Below.refl _ _⟩) ?_
          simp only [Act.put, List.setIfInBounds_toArray, List.set_cons_zero, List.set_cons_succ]
          refine wpX_take 4 (.agg (vfn (mrow g 0))) rfl rfl (by kernel_rfl) (fun w1 h1 => detR_sub _ rfl w.heap.size 0 g rfl rfl (by omega) (p.below h1 p.lt) rfl) ?_
          simp only [Act.put, List.setIfInBounds_toArray, List.set_cons_zero, List.set_cons_succ]
          refine wpX_take 5 (.int .i64 0) rfl rfl (by kernel_rfl) (fun w1 h1 => by go_simp; exact ⟨rfl, Below.refl _ _⟩) ?_
          simp only [Act.put, List.setIfInBounds_toArray, List.set_cons_zero, List.set_cons_succ]
          refine wpX_take 6 (.pointer (some ⟨b7, 0, none⟩)) rfl rfl (by kernel_rfl) (fun w1 h1 => by go_simp; exact ⟨rfl, Below.refl _ _⟩) ?_
          simp only [Act.put, List.setIfInBounds_toArray, List.set_cons_zero, List.set_cons_succ]
          refine wpX_take 7 (.agg (vfn (mrow ht 0))) rfl rfl (by kernel_rfl) (fun w1 h1 => detR_sub _ rfl b7 0 ht rfl rfl (by omega) (u.below h1 u.lt) rfl) ?_
          simp only [Act.put, List.setIfInBounds_toArray, List.set_cons_zero, List.set_cons_succ]
          refine wpX_take 8 (.int .i64 (prodX g h 0 0)) rfl rfl (by kernel_rfl) (fun w1 h1 => ?_) ?_
          · go_simp
            refine (HIK.out _).mono ?_
            rintro e wz ⟨rfl, h2⟩
            exact ⟨rfl, h2⟩
          simp only [Act.put, List.setIfInBounds_toArray, List.set_cons_zero, List.set_cons_succ]
          refine wpX_take 9 (.pointer (some ⟨b6, 0, none⟩)) rfl rfl (by kernel_rfl) (fun w1 h1 => by go_simp; exact ⟨rfl, Below.refl _ _⟩) ?_
          simp only [Act.put, List.setIfInBounds_toArray, List.set_cons_zero, List.set_cons_succ]
          refine wpX_take 10 (.pointer (some ⟨b6, 0, none⟩)) rfl rfl (by kernel_rfl) (fun w1 h1 => by go_simp; exact ⟨rfl, Below.refl _ _⟩) ?_
          simp only [Act.put, List.setIfInBounds_toArray, List.set_cons_zero, List.set_cons_succ]
          refine wpX_tail (by kernel_rfl) (fun wt htt => ?_)
          simp only [List.drop_succ_cons, List.drop_zero]
          replace hB := hB.trans (htt.mono hB.size)
          replace p := p.below htt p.lt
          replace r := r.below htt r.lt
          replace s := s.below htt s.lt
          replace u := u.below htt u.lt
          clear htt HIK
          have fz : wt.frozen? ⟨b6, 0, none⟩ = false := s.free _
          have cz : wt.cell? ⟨b6, 0, none⟩ = some (.int .i64 (qpre (prodF g h) 0 0)) := s.cellIs (mfn_get _ (by omega))
          go_wp2_with (fail)
          go_roundw
          case rel =>
            refine ⟨1, by omega, rfl, p.setOther (by simp; omega) _, r.setOther (by simp; omega) _, s.set' (mfn_set (by omega) ?_ ?_), u.setOther (by simp; omega) _, hB.setCell (by simp; omega) _⟩
            · simp [qpre, prodF]
            · intro j hj hne; simp only [qpre]; (repeat' split) <;> first | rfl | omega
          case measure => simp [intOf]
        · go_upto_region 11 with (fail)
          have HIK := Lib.hid (HT.out 0 1 (by omega) (by omega))
          refine wp_region_X 11 (by kernel_rfl) (by kernel_rfl) ?_
          replace p := p.drew
          replace r := r.drew
          replace s := s.drew
          replace u := u.drew
          replace hB : Below w.heap.size w wr.drew := hB.drew
          generalize wr.drew = wd at *
          refine wpX_take 0 (.int .i64 0) rfl rfl (by kernel_rfl) (fun w1 h1 => by go_simp; exact ⟨rfl, Below.refl _ _⟩) ?_
          simp only [Act.put, List.setIfInBounds_toArray, List.set_cons_zero, List.set_cons_succ]
          refine wpX_take 1 (.int .i64 1) rfl rfl (by kernel_rfl) (fun w1 h1 => by go_simp; exact ⟨rfl, Below.refl _ _⟩) ?_
          simp only [Act.put, List.setIfInBounds_toArray, List.set_cons_zero, List.set_cons_succ]
          refine wpX_take 2 (.int .i64 0) rfl rfl (by kernel_rfl) (fun w1 h1 => by go_simp; exact ⟨rfl, Below.refl _ _⟩) ?_
          simp only [Act.put, List.setIfInBounds_toArray, List.set_cons_zero, List.set_cons_succ]
          refine wpX_take 3 (.pointer (some ⟨w.heap.size, 0, none⟩)) rfl rfl (by kernel_rfl) (fun w1 h1 => by go_simp; exact ⟨rfl, Below.refl _ _⟩) ?_
          simp only [Act.put, List.setIfInBounds_toArray, List.set_cons_zero, List.set_cons_succ]
          refine wpX_take 4 (.agg (vfn (mrow g 0))) rfl rfl (by kernel_rfl) (fun w1 h1 => detR_sub _ rfl w.heap.size 0 g rfl rfl (by omega) (p.below h1 p.lt) rfl) ?_
          simp only [Act.put, List.setIfInBounds_toArray, List.set_cons_zero, List.set_cons_succ]
          refine wpX_take 5 (.int .i64 1) rfl rfl (by kernel_rfl) (fun w1 h1 => by go_simp; exact ⟨rfl, Below.refl _ _⟩) ?_
          simp only [Act.put, List.setIfInBounds_toArray, List.set_cons_zero, List.set_cons_succ]
          refine wpX_take 6 (.pointer (some ⟨b7, 3, none⟩)) rfl rfl (by kernel_rfl) (fun w1 h1 => by go_simp; exact ⟨rfl, Below.refl _ _⟩) ?_
          simp only [Act.put, List.setIfInBounds_toArray, List.set_cons_zero, List.set_cons_succ]
          refine wpX_take 7 (.agg (vfn (mrow ht 1))) rfl rfl (by kernel_rfl) (fun w1 h1 => detR_sub _ rfl b7 1 ht rfl rfl (by omega) (u.below h1 u.lt) rfl) ?_
          simp only [Act.put, List.setIfInBounds_toArray, List.set_cons_zero, List.set_cons_succ]
          refine wpX_take 8 (.int .i64 (prodX g h 0 1)) rfl rfl (by kernel_rfl) (fun w1 h1 => ?_) ?_
          · go_simp
            refine (HIK.out _).mono ?_
            rintro e wz ⟨rfl, h2⟩
            exact ⟨rfl, h2⟩
          simp only [Act.put, List.setIfInBounds_toArray, List.set_cons_zero, List.set_cons_succ]
          refine wpX_take 9 (.pointer (some ⟨b6, 0, none⟩)) rfl rfl (by kernel_rfl) (fun w1 h1 => by go_simp; exact ⟨rfl, Below.refl _ _⟩) ?_
          simp only [Act.put, List.setIfInBounds_toArray, List.set_cons_zero, List.set_cons_succ]
          refine wpX_take 10 (.pointer (some ⟨b6, 1, none⟩)) rfl rfl (by kernel_rfl) (fun w1 h1 => by go_simp; exact ⟨rfl, Below.refl _ _⟩) ?_
          simp only [Act.put, List.setIfInBounds_toArray, List.set_cons_zero, List.set_cons_succ]
          refine wpX_tail (by kernel_rfl) (fun wt htt => ?_)
          simp only [List.drop_succ_cons, List.drop_zero]
          replace hB := hB.trans (htt.mono hB.size)
          replace p := p.below htt p.lt
          replace r := r.below htt r.lt
          replace s := s.below htt s.lt
          replace u := u.below htt u.lt
          clear htt HIK
          have fz : wt.frozen? ⟨b6, 1, none⟩ = false := s.free _
          have cz : wt.cell? ⟨b6, 1, none⟩ = some (.int .i64 (qpre (prodF g h) 1 1)) := s.cellIs (mfn_get _ (by omega))
          go_wp2_with (fail)
          go_roundw
          case rel =>
            refine ⟨2, by omega, rfl, p.setOther (by simp; omega) _, r.setOther (by simp; omega) _, s.set' (mfn_set (by omega) ?_ ?_), u.setOther (by simp; omega) _, hB.setCell (by simp; omega) _⟩
            · simp [qpre, prodF]
            · intro j hj hne; simp only [qpre]; (repeat' split) <;> first | rfl | omega
          case measure => simp [intOf]
        · go_upto_region 11 with (fail)
          have HIK := Lib.hid (HT.out 0 2 (by omega) (by omega))
          refine wp_region_X 11 (by kernel_rfl) (by kernel_rfl) ?_
          replace p := p.drew
          replace r := r.drew
          replace s := s.drew
          replace u := u.drew
          replace hB : Below w.heap.size w wr.drew := hB.drew
          generalize wr.drew = wd at *
          refine wpX_take 0 (.int .i64 0) rfl rfl (by kernel_rfl) (fun w1 h1 => by go_simp; exact ⟨rfl, Below.refl _ _⟩) ?_
          simp only [Act.put, List.setIfInBounds_toArray, List.set_cons_zero, List.set_cons_succ]
          refine wpX_take 1 (.int .i64 2) rfl rfl (by kernel_rfl) (fun w1 h1 => by go_simp; exact ⟨rfl, Below.refl _ _⟩) ?_
          simp only [Act.put, List.setIfInBounds_toArray, List.set_cons_zero, List.set_cons_succ]
          refine wpX_take 2 (.int .i64 0) rfl rfl (by kernel_rfl) (fun w1 h1 => by go_simp; exact ⟨rfl, Below.refl _ _⟩) ?_
          simp only [Act.put, List.setIfInBounds_toArray, List.set_cons_zero, List.set_cons_succ]
          refine wpX_take 3 (.pointer (some ⟨w.heap.size, 0, none⟩)) rfl rfl (by kernel_rfl) (fun w1 h1 => by go_simp; exact ⟨rfl, Below.refl _ _⟩) ?_
          simp only [Act.put, List.setIfInBounds_toArray, List.set_cons_zero, List.set_cons_succ]
          refine wpX_take 4 (.agg (vfn (mrow g 0))) rfl rfl (by kernel_rfl) (fun w1 h1 => detR_sub _ rfl w.heap.size 0 g rfl rfl (by omega) (p.below h1 p.lt) rfl) ?_
          simp only [Act.put, List.setIfInBounds_toArray, List.set_cons_zero, List.set_cons_succ]
          refine wpX_take 5 (.int .i64 2) rfl rfl (by kernel_rfl) (fun w1 h1 => by go_simp; exact ⟨rfl, Below.refl _ _⟩) ?_
          simp only [Act.put, List.setIfInBounds_toArray, List.set_cons_zero, List.set_cons_succ]
          refine wpX_take 6 (.pointer (some ⟨b7, 6, none⟩)) rfl rfl (by kernel_rfl) (fun w1 h1 => by go_simp; exact ⟨rfl, Below.refl _ _⟩) ?_
          simp only [Act.put, List.setIfInBounds_toArray, List.set_cons_zero, List.set_cons_succ]
          refine wpX_take 7 (.agg (vfn (mrow ht 2))) rfl rfl (by kernel_rfl) (fun w1 h1 => detR_sub _ rfl b7 2 ht rfl rfl (by omega) (u.below h1 u.lt) rfl) ?_
          simp only [Act.put, List.setIfInBounds_toArray, List.set_cons_zero, List.set_cons_succ]
          refine wpX_take 8 (.int .i64 (prodX g h 0 2)) rfl rfl (by kernel_rfl) (fun w1 h1 => ?_) ?_
          · go_simp
            refine (HIK.out _).mono ?_
            rintro e wz ⟨rfl, h2⟩
            exact ⟨rfl, h2⟩
          simp only [Act.put, List.setIfInBounds_toArray, List.set_cons_zero, List.set_cons_succ]
          refine wpX_take 9 (.pointer (some ⟨b6, 0, none⟩)) rfl rfl (by kernel_rfl) (fun w1 h1 => by go_simp; exact ⟨rfl, Below.refl _ _⟩) ?_
          simp only [Act.put, List.setIfInBounds_toArray, List.set_cons_zero, List.set_cons_succ]
          refine wpX_take 10 (.pointer (some ⟨b6, 2, none⟩)) rfl rfl (by kernel_rfl) (fun w1 h1 => by go_simp; exact ⟨rfl, Below.refl _ _⟩) ?_
          simp only [Act.put, List.setIfInBounds_toArray, List.set_cons_zero, List.set_cons_succ]
          refine wpX_tail (by kernel_rfl) (fun wt htt => ?_)
          simp only [List.drop_succ_cons, List.drop_zero]
          replace hB := hB.trans (htt.mono hB.size)
          replace p := p.below htt p.lt
          replace r := r.below htt r.lt
          replace s := s.below htt s.lt
          replace u := u.below htt u.lt
          clear htt HIK
          have fz : wt.frozen? ⟨b6, 2, none⟩ = false := s.free _
          have cz : wt.cell? ⟨b6, 2, none⟩ = some (.int .i64 (qpre (prodF g h) 2 2)) := s.cellIs (mfn_get _ (by omega))
          go_wp2_with (fail)
          go_roundw
          case rel =>
            refine ⟨3, by omega, rfl, p.setOther (by simp; omega) _, r.setOther (by simp; omega) _, s.set' (mfn_set (by omega) ?_ ?_), u.setOther (by simp; omega) _, hB.setCell (by simp; omega) _⟩
            · simp [qpre, prodF]
            · intro j hj hne; simp only [qpre]; (repeat' split) <;> first | rfl | omega
          case measure => simp [intOf]
        · go_wp2_with (fail)
          go_roundw
          case rel => exact ⟨1, by omega, rfl, p, r, s, u, hB⟩
          case measure => simp [intOf]
    · go_wp2_with (fail)
      obtain ⟨wo, rfl⟩ : ∃ wo : World, wo = wr := ⟨_, rfl⟩
      go_loopw [9] (fun kv wi => ∃ k : Nat, k ≤ 3 ∧ kv = .int .i64 k ∧ blk wi w.heap.size (mfn g) 25 ∧ blk wi (w.heap.size + 1 + 1) (mfn fun _ => 0) 25 ∧ blk wi b6 (mfn (qpre (prodF g h) (3 + k))) 25 ∧ blk wi b7 (mfn ht) 25 ∧ Below w.heap.size w wi) (fun kv _ => 3 - (intOf kv).toNat)
      case atStart => exact ⟨0, by omega, rfl, p, r, s, u, hB⟩
      case round =>
        clear p r s u hB
        obtain ⟨k, hk3, rfl, p, r, s, u, hB⟩ := hrel
        have hcase : k = 0 ∨ k = 1 ∨ k = 2 ∨ k = 3 := by omega
        rcases hcase with rfl | rfl | rfl | rfl
        · go_upto_region 11 with (fail)
          have HIK := Lib.hid (HT.out 1 0 (by omega) (by omega))
          refine wp_region_X 11 (by kernel_rfl) (by kernel_rfl) ?_
          replace p := p.drew
          replace r := r.drew
          replace s := s.drew
          replace u := u.drew
          replace hB : Below w.heap.size w wr.drew := hB.drew
          generalize wr.drew = wd at *
          refine wpX_take 0 (.int .i64 1) rfl rfl (by kernel_rfl) (fun w1 h1 => by go_simp; exact ⟨rfl, Below.refl _ _⟩) ?_
          simp only [Act.put, List.setIfInBounds_toArray, List.set_cons_zero, List.set_cons_succ]
          refine wpX_take 1 (.int .i64 0) rfl rfl (by kernel_rfl) (fun w1 h1 => by go_simp; exact ⟨rfl, Below.refl _ _⟩) ?_
          simp only [Act.put, List.setIfInBounds_toArray, List.set_cons_zero, List.set_cons_succ]
          refine wpX_take 2 (.int .i64 1) rfl rfl (by kernel_rfl) (fun w1 h1 => by go_simp; exact ⟨rfl, Below.refl _ _⟩) ?_
          simp only [Act.put, List.setIfInBounds_toArray, List.set_cons_zero, List.set_cons_succ]
          refine wpX_take 3 (.pointer (some ⟨w.heap.size, 3, none⟩)) rfl rfl (by kernel_rfl) (fun w1 h1 => by go_simp; exact ⟨rfl, Below.refl _ _⟩) ?_
          simp only [Act.put, List.setIfInBounds_toArray, List.set_cons_zero, List.set_cons_succ]
          refine wpX_take 4 (.agg (vfn (mrow g 1))) rfl rfl (by kernel_rfl) (fun w1 h1 => detR_sub _ rfl w.heap.size 1 g rfl rfl (by omega) (p.below h1 p.lt) rfl) ?_
          simp only [Act.put, List.setIfInBounds_toArray, List.set_cons_zero, List.set_cons_succ]
          refine wpX_take 5 (.int .i64 0) rfl rfl (by kernel_rfl) (fun w1 h1 => by go_simp; exact ⟨rfl, Below.refl _ _⟩) ?_
          simp only [Act.put, List.setIfInBounds_toArray, List.set_cons_zero, List.set_cons_succ]
          refine wpX_take 6 (.pointer (some ⟨b7, 0, none⟩)) rfl rfl (by kernel_rfl) (fun w1 h1 => by go_simp; exact ⟨rfl, Below.refl _ _⟩) ?_
          simp only [Act.put, List.setIfInBounds_toArray, List.set_cons_zero, List.set_cons_succ]
          refine wpX_take 7 (.agg (vfn (mrow ht 0))) rfl rfl (by kernel_rfl) (fun w1 h1 => detR_sub _ rfl b7 0 ht rfl rfl (by omega) (u.below h1 u.lt) rfl) ?_
          simp only [Act.put, List.setIfInBounds_toArray, List.set_cons_zero, List.set_cons_succ]
          refine wpX_take 8 (.int .i64 (prodX g h 1 0)) rfl rfl (by kernel_rfl) (fun w1 h1 => ?_) ?_
          · go_simp
            refine (HIK.out _).mono ?_
            rintro e wz ⟨rfl, h2⟩
            exact ⟨rfl, h2⟩
          simp only [Act.put, List.setIfInBounds_toArray, List.set_cons_zero, List.set_cons_succ]
          refine wpX_take 9 (.pointer (some ⟨b6, 3, none⟩)) rfl rfl (by kernel_rfl) (fun w1 h1 => by go_simp; exact ⟨rfl, Below.refl _ _⟩) ?_
          simp only [Act.put, List.setIfInBounds_toArray, List.set_cons_zero, List.set_cons_succ]
          refine wpX_take 10 (.pointer (some ⟨b6, 3, none⟩)) rfl rfl (by kernel_rfl) (fun w1 h1 => by go_simp; exact ⟨rfl, Below.refl _ _⟩) ?_
          simp only [Act.put, List.setIfInBounds_toArray, List.set_cons_zero, List.set_cons_succ]
          refine wpX_tail (by kernel_rfl) (fun wt htt => ?_)
          simp only [List.drop_succ_cons, List.drop_zero]
          replace hB := hB.trans (htt.mono hB.size)
          replace p := p.below htt p.lt
          replace r := r.below htt r.lt
          replace s := s.below htt s.lt
          replace u := u.below htt u.lt
          clear htt HIK
          have fz : wt.frozen? ⟨b6, 3, none⟩ = false := s.free _
          have cz : wt.cell? ⟨b6, 3, none⟩ = some (.int .i64 (qpre (prodF g h) 3 3)) := s.cellIs (mfn_get _ (by omega))
          go_wp2_with (fail)
          go_roundw
          case rel =>
            refine ⟨1, by omega, rfl, p.setOther (by simp; omega) _, r.setOther (by simp; omega) _, s.set' (mfn_set (by omega) ?_ ?_), u.setOther (by simp; omega) _, hB.setCell (by simp; omega) _⟩
            · simp [qpre, prodF]
            · intro j hj hne; simp only [qpre]; (repeat' split) <;> first | rfl | omega
          case measure => simp [intOf]
        · go_upto_region 11 with (fail)
          have HIK := Lib.hid (HT.out 1 1 (by omega) (by omega))
          refine wp_region_X 11 (by kernel_rfl) (by kernel_rfl) ?_
          replace p := p.drew
          replace r := r.drew
          replace s := s.drew
          replace u := u.drew
          replace hB : Below w.heap.size w wr.drew := hB.drew
          generalize wr.drew = wd at *
          refine wpX_take 0 (.int .i64 1) rfl rfl (by kernel_rfl) (fun w1 h1 => by go_simp; exact ⟨rfl, Below.refl _ _⟩) ?_
          simp only [Act.put, List.setIfInBounds_toArray, List.set_cons_zero, List.set_cons_succ]
          refine wpX_take 1 (.int .i64 1) rfl rfl (by kernel_rfl) (fun w1 h1 => by go_simp; exact ⟨rfl, Below.refl _ _⟩) ?_
          simp only [Act.put, List.setIfInBounds_toArray, List.set_cons_zero, List.set_cons_succ]
          refine wpX_take 2 (.int .i64 1) rfl rfl (by kernel_rfl) (fun w1 h1 => by go_simp; exact ⟨rfl, Below.refl _ _⟩) ?_
          simp only [Act.put, List.setIfInBounds_toArray, List.set_cons_zero, List.set_cons_succ]
          refine wpX_take 3 (.pointer (some ⟨w.heap.size, 3, none⟩)) rfl rfl (by kernel_rfl) (fun w1 h1 => by go_simp; exact ⟨rfl, Below.refl _ _⟩) ?_
          simp only [Act.put, List.setIfInBounds_toArray, List.set_cons_zero, List.set_cons_succ]
          refine wpX_take 4 (.agg (vfn (mrow g 1))) rfl rfl (by kernel_rfl) (fun w1 h1 => detR_sub _ rfl w.heap.size 1 g rfl rfl (by omega) (p.below h1 p.lt) rfl) ?_
          simp only [Act.put, List.setIfInBounds_toArray, List.set_cons_zero, List.set_cons_succ]
          refine wpX_take 5 (.int .i64 1) rfl rfl (by kernel_rfl) (fun w1 h1 => by go_simp; exact ⟨rfl, Below.refl _ _⟩) ?_
          simp only [Act.put, List.setIfInBounds_toArray, List.set_cons_zero, List.set_cons_succ]
          refine wpX_take 6 (.pointer (some ⟨b7, 3, none⟩)) rfl rfl (by kernel_rfl) (fun w1 h1 => by go_simp; exact ⟨rfl, Below.refl _ _⟩) ?_
          simp only [Act.put, List.setIfInBounds_toArray, List.set_cons_zero, List.set_cons_succ]
          refine wpX_take 7 (.agg (vfn (mrow ht 1))) rfl rfl (by kernel_rfl) (fun w1 h1 => detR_sub _ rfl b7 1 ht rfl rfl (by omega) (u.below h1 u.lt) rfl) ?_
          simp only [Act.put, List.setIfInBounds_toArray, List.set_cons_zero, List.set_cons_succ]
          refine wpX_take 8 (.int .i64 (prodX g h 1 1)) rfl rfl (by kernel_rfl) (fun w1 h1 => ?_) ?_
          · go_simp
            refine (HIK.out _).mono ?_
            rintro e wz ⟨rfl, h2⟩
            exact ⟨rfl, h2⟩
          simp only [Act.put, List.setIfInBounds_toArray, List.set_cons_zero, List.set_cons_succ]
          refine wpX_take 9 (.pointer (some ⟨b6, 3, none⟩)) rfl rfl (by kernel_rfl) (fun w1 h1 => by go_simp; exact ⟨rfl, Below.refl _ _⟩) ?_
          simp only [Act.put, List.setIfInBounds_toArray, List.set_cons_zero, List.set_cons_succ]
          refine wpX_take 10 (.pointer (some ⟨b6, 4, none⟩)) rfl rfl (by kernel_rfl) (fun w1 h1 => by go_simp; exact ⟨rfl, Below.refl _ _⟩) ?_
          simp only [Act.put, List.setIfInBounds_toArray, List.set_cons_zero, List.set_cons_succ]
          refine wpX_tail (by kernel_rfl) (fun wt htt => ?_)
          simp only [List.drop_succ_cons, List.drop_zero]
          replace hB := hB.trans (htt.mono hB.size)
          replace p := p.below htt p.lt
          replace r := r.below htt r.lt
          replace s := s.below htt s.lt
          replace u := u.below htt u.lt
          clear htt HIK
          have fz : wt.frozen? ⟨b6, 4, none⟩ = false := s.free _
          have cz : wt.cell? ⟨b6, 4, none⟩ = some (.int .i64 (qpre (prodF g h) 4 4)) := s.cellIs (mfn_get _ (by omega))
          go_wp2_with (fail)
          go_roundw
          case rel =>
            refine ⟨2, by omega, rfl, p.setOther (by simp; omega) _, r.setOther (by simp; omega) _, s.set' (mfn_set (by omega) ?_ ?_), u.setOther (by simp; omega) _, hB.setCell (by simp; omega) _⟩
            · simp [qpre, prodF]
            · intro j hj hne; simp only [qpre]; (repeat' split) <;> first | rfl | omega
          case measure => simp [intOf]
        · go_upto_region 11 with (fail)
          have HIK := Lib.hid (HT.out 1 2 (by omega) (by omega))
          refine wp_region_X 11 (by kernel_rfl) (by kernel_rfl) ?_
          replace p := p.drew
          replace r := r.drew
          replace s := s.drew
          replace u := u.drew
          replace hB : Below w.heap.size w wr.drew := hB.drew
          generalize wr.drew = wd at *
          refine wpX_take 0 (.int .i64 1) rfl rfl (by kernel_rfl) (fun w1 h1 => by go_simp; exact ⟨rfl, Below.refl _ _⟩) ?_
          simp only [Act.put, List.setIfInBounds_toArray, List.set_cons_zero, List.set_cons_succ]
          refine wpX_take 1 (.int .i64 2) rfl rfl (by kernel_rfl) (fun w1 h1 => by go_simp; exact ⟨rfl, Below.refl _ _⟩) ?_
          simp only [Act.put, List.setIfInBounds_toArray, List.set_cons_zero, List.set_cons_succ]
          refine wpX_take 2 (.int .i64 1) rfl rfl (by kernel_rfl) (fun w1 h1 => by go_simp; exact ⟨rfl, Below.refl _ _⟩) ?_
          simp only [Act.put, List.setIfInBounds_toArray, List.set_cons_zero, List.set_cons_succ]
          refine wpX_take 3 (.pointer (some ⟨w.heap.size, 3, none⟩)) rfl rfl (by kernel_rfl) (fun w1 h1 => by go_simp; exact ⟨rfl, Below.refl _ _⟩) ?_
          simp only [Act.put, List.setIfInBounds_toArray, List.set_cons_zero, List.set_cons_succ]
          refine wpX_take 4 (.agg (vfn (mrow g 1))) rfl rfl (by kernel_rfl) (fun w1 h1 => detR_sub _ rfl w.heap.size 1 g rfl rfl (by omega) (p.below h1 p.lt) rfl) ?_
          simp only [Act.put, List.setIfInBounds_toArray, List.set_cons_zero, List.set_cons_succ]
          refine wpX_take 5 (.int .i64 2) rfl rfl (by kernel_rfl) (fun w1 h1 => by go_simp; exact ⟨rfl, Below.refl _ _⟩) ?_
          simp only [Act.put, List.setIfInBounds_toArray, List.set_cons_zero, List.set_cons_succ]
          refine wpX_take 6 (.pointer (some ⟨b7, 6, none⟩)) rfl rfl (by kernel_rfl) (fun w1 h1 => by go_simp; exact ⟨rfl, Below.refl _ _⟩) ?_
          simp only [Act.put, List.setIfInBounds_toArray, List.set_cons_zero, List.set_cons_succ]
          refine wpX_take 7 (.agg (vfn (mrow ht 2))) rfl rfl (by kernel_rfl) (fun w1 h1 => detR_sub _ rfl b7 2 ht rfl rfl (by omega) (u.below h1 u.lt) rfl) ?_
          simp only [Act.put, List.setIfInBounds_toArray, List.set_cons_zero, List.set_cons_succ]
          refine wpX_take 8 (.int .i64 (prodX g h 1 2)) rfl rfl (by kernel_rfl) (fun w1 h1 => ?_) ?_
          · go_simp
            refine (HIK.out _).mono ?_
            rintro e wz ⟨rfl, h2⟩
            exact ⟨rfl, h2⟩
          simp only [Act.put, List.setIfInBounds_toArray, List.set_cons_zero, List.set_cons_succ]
          refine wpX_take 9 (.pointer (some ⟨b6, 3, none⟩)) rfl rfl (by kernel_rfl) (fun w1 h1 => by go_simp; exact ⟨rfl, Below.refl _ _⟩) ?_
          simp only [Act.put, List.setIfInBounds_toArray, List.set_cons_zero, List.set_cons_succ]
          refine wpX_take 10 (.pointer (some ⟨b6, 5, none⟩)) rfl rfl (by kernel_rfl) (fun w1 h1 => by go_simp; exact ⟨rfl, Below.refl _ _⟩) ?_
          simp only [Act.put, List.setIfInBounds_toArray, List.set_cons_zero, List.set_cons_succ]
          refine wpX_tail (by kernel_rfl) (fun wt htt => ?_)
          simp only [List.drop_succ_cons, List.drop_zero]
          replace hB := hB.trans (htt.mono hB.size)
          replace p := p.below htt p.lt
          replace r := r.below htt r.lt
          replace s := s.below htt s.lt
          replace u := u.below htt u.lt
          clear htt HIK
          have fz : wt.frozen? ⟨b6, 5, none⟩ = false := s.free _
          have cz : wt.cell? ⟨b6, 5, none⟩ = some (.int .i64 (qpre (prodF g h) 5 5)) := s.cellIs (mfn_get _ (by omega))
          go_wp2_with (fail)
          go_roundw
          case rel =>
            refine ⟨3, by omega, rfl, p.setOther (by simp; omega) _, r.setOther (by simp; omega) _, s.set' (mfn_set (by omega) ?_ ?_), u.setOther (by simp; omega) _, hB.setCell (by simp; omega) _⟩
            · simp [qpre, prodF]
            · intro j hj hne; simp only [qpre]; (repeat' split) <;> first | rfl | omega
          case measure => simp [intOf]
        · go_wp2_with (fail)
          go_roundw
          case rel => exact ⟨2, by omega, rfl, p, r, s, u, hB⟩
          case measure => simp [intOf]
    · go_wp2_with (fail)
      obtain ⟨wo, rfl⟩ : ∃ wo : World, wo = wr := ⟨_, rfl⟩
      go_loopw [9] (fun kv wi => ∃ k : Nat, k ≤ 3 ∧ kv = .int .i64 k ∧ blk wi w.heap.size (mfn g) 25 ∧ blk wi (w.heap.size + 1 + 1) (mfn fun _ => 0) 25 ∧ blk wi b6 (mfn (qpre (prodF g h) (6 + k))) 25 ∧ blk wi b7 (mfn ht) 25 ∧ Below w.heap.size w wi) (fun kv _ => 3 - (intOf kv).toNat)
      case atStart => exact ⟨0, by omega, rfl, p, r, s, u, hB⟩
      case round =>
        clear p r s u hB
        obtain ⟨k, hk3, rfl, p, r, s, u, hB⟩ := hrel
        have hcase : k = 0 ∨ k = 1 ∨ k = 2 ∨ k = 3 := by omega
        rcases hcase with rfl | rfl | rfl | rfl
        · go_upto_region 11 with (fail)
          have HIK := Lib.hid (HT.out 2 0 (by omega) (by omega))
          refine wp_region_X 11 (by kernel_rfl) (by kernel_rfl) ?_
          replace p := p.drew
          replace r := r.drew
          replace s := s.drew
          replace u := u.drew
          replace hB : Below w.heap.size w wr.drew := hB.drew
          generalize wr.drew = wd at *
          refine wpX_take 0 (.int .i64 2) rfl rfl (by kernel_rfl) (fun w1 h1 => by go_simp; exact ⟨rfl, Below.refl _ _⟩) ?_
          simp only [Act.put, List.setIfInBounds_toArray, List.set_cons_zero, List.set_cons_succ]
          refine wpX_take 1 (.int .i64 0) rfl rfl (by kernel_rfl) (fun w1 h1 => by go_simp; exact ⟨rfl, Below.refl _ _⟩) ?_
          simp only [Act.put, List.setIfInBounds_toArray, List.set_cons_zero, List.set_cons_succ]
          refine wpX_take 2 (.int .i64 2) rfl rfl (by kernel_rfl) (fun w1 h1 => by go_simp; exact ⟨rfl, Below.refl _ _⟩) ?_
          simp only [Act.put, List.setIfInBounds_toArray, List.set_cons_zero, List.set_cons_succ]
          refine wpX_take 3 (.pointer (some ⟨w.heap.size, 6, none⟩)) rfl rfl (by kernel_rfl) (fun w1 h1 => by go_simp; exact ⟨rfl, Below.refl _ _⟩) ?_
          simp only [Act.put, List.setIfInBounds_toArray, List.set_cons_zero, List.set_cons_succ]
          refine wpX_take 4 (.agg (vfn (mrow g 2))) rfl rfl (by kernel_rfl) (fun w1 h1 => detR_sub _ rfl w.heap.size 2 g rfl rfl (by omega) (p.below h1 p.lt) rfl) ?_
          simp only [Act.put, List.setIfInBounds_toArray, List.set_cons_zero, List.set_cons_succ]
          refine wpX_take 5 (.int .i64 0) rfl rfl (by kernel_rfl) (fun w1 h1 => by go_simp; exact ⟨rfl, Below.refl _ _⟩) ?_
          simp only [Act.put, List.setIfInBounds_toArray, List.set_cons_zero, List.set_cons_succ]
          refine wpX_take 6 (.pointer (some ⟨b7, 0, none⟩)) rfl rfl (by kernel_rfl) (fun w1 h1 => by go_simp; exact ⟨rfl, Below.refl _ _⟩) ?_
          simp only [Act.put, List.setIfInBounds_toArray, List.set_cons_zero, List.set_cons_succ]
          refine wpX_take 7 (.agg (vfn (mrow ht 0))) rfl rfl (by kernel_rfl) (fun w1 h1 => detR_sub _ rfl b7 0 ht rfl rfl (by omega) (u.below h1 u.lt) rfl) ?_
          simp only [Act.put, List.setIfInBounds_toArray, List.set_cons_zero, List.set_cons_succ]
          refine wpX_take 8 (.int .i64 (prodX g h 2 0)) rfl rfl (by kernel_rfl) (fun w1 h1 => ?_) ?_
          · go_simp
            refine (HIK.out _).mono ?_
            rintro e wz ⟨rfl, h2⟩
            exact ⟨rfl, h2⟩
          simp only [Act.put, List.setIfInBounds_toArray, List.set_cons_zero, List.set_cons_succ]
          refine wpX_take 9 (.pointer (some ⟨b6, 6, none⟩)) rfl rfl (by kernel_rfl) (fun w1 h1 => by go_simp; exact ⟨rfl, Below.refl _ _⟩) ?_
          simp only [Act.put, List.setIfInBounds_toArray, List.set_cons_zero, List.set_cons_succ]
          refine wpX_take 10 (.pointer (some ⟨b6, 6, none⟩)) rfl rfl (by kernel_rfl) (fun w1 h1 => by go_simp; exact ⟨rfl, Below.refl _ _⟩) ?_
          simp only [Act.put, List.setIfInBounds_toArray, List.set_cons_zero, List.set_cons_succ]
          refine wpX_tail (by kernel_rfl) (fun wt htt => ?_)
          simp only [List.drop_succ_cons, List.drop_zero]
          replace hB := hB.trans (htt.mono hB.size)
          replace p := p.below htt p.lt
          replace r := r.below htt r.lt
          replace s := s.below htt s.lt
          replace u := u.below htt u.lt
          clear htt HIK
          have fz : wt.frozen? ⟨b6, 6, none⟩ = false := s.free _
          have cz : wt.cell? ⟨b6, 6, none⟩ = some (.int .i64 (qpre (prodF g h) 6 6)) := s.cellIs (mfn_get _ (by omega))
          go_wp2_with (fail)
          go_roundw
          case rel =>
            refine ⟨1, by omega, rfl, p.setOther (by simp; omega) _, r.setOther (by simp; omega) _, s.set' (mfn_set (by omega) ?_ ?_), u.setOther (by simp; omega) _, hB.setCell (by simp; omega) _⟩
            · simp [qpre, prodF]
            · intro j hj hne; simp only [qpre]; (repeat' split) <;> first | rfl | omega
          case measure => simp [intOf]
        · go_upto_region 11 with (fail)
          have HIK := Lib.hid (HT.out 2 1 (by omega) (by omega))
          refine wp_region_X 11 (by kernel_rfl) (by kernel_rfl) ?_
          replace p := p.drew
          replace r := r.drew
          replace s := s.drew
          replace u := u.drew
          replace hB : Below w.heap.size w wr.drew := hB.drew
          generalize wr.drew = wd at *
          refine wpX_take 0 (.int .i64 2) rfl rfl (by kernel_rfl) (fun w1 h1 => by go_simp; exact ⟨rfl, Below.refl _ _⟩) ?_
          simp only [Act.put, List.setIfInBounds_toArray, List.set_cons_zero, List.set_cons_succ]
          refine wpX_take 1 (.int .i64 1) rfl rfl (by kernel_rfl) (fun w1 h1 => by go_simp; exact ⟨rfl, Below.refl _ _⟩) ?_
          simp only [Act.put, List.setIfInBounds_toArray, List.set_cons_zero, List.set_cons_succ]
          refine wpX_take 2 (.int .i64 2) rfl rfl (by kernel_rfl) (fun w1 h1 => by go_simp; exact ⟨rfl, Below.refl _ _⟩) ?_
          simp only [Act.put, List.setIfInBounds_toArray, List.set_cons_zero, List.set_cons_succ]
          refine wpX_take 3 (.pointer (some ⟨w.heap.size, 6, none⟩)) rfl rfl (by kernel_rfl) (fun w1 h1 => by go_simp; exact ⟨rfl, Below.refl _ _⟩) ?_
          simp only [Act.put, List.setIfInBounds_toArray, List.set_cons_zero, List.set_cons_succ]
          refine wpX_take 4 (.agg (vfn (mrow g 2))) rfl rfl (by kernel_rfl) (fun w1 h1 => detR_sub _ rfl w.heap.size 2 g rfl rfl (by omega) (p.below h1 p.lt) rfl) ?_
          simp only [Act.put, List.setIfInBounds_toArray, List.set_cons_zero, List.set_cons_succ]
          refine wpX_take 5 (.int .i64 1) rfl rfl (by kernel_rfl) (fun w1 h1 => by go_simp; exact ⟨rfl, Below.refl _ _⟩) ?_
          simp only [Act.put, List.setIfInBounds_toArray, List.set_cons_zero, List.set_cons_succ]
          refine wpX_take 6 (.pointer (some ⟨b7, 3, none⟩)) rfl rfl (by kernel_rfl) (fun w1 h1 => by go_simp; exact ⟨rfl, Below.refl _ _⟩) ?_
          simp only [Act.put, List.setIfInBounds_toArray, List.set_cons_zero, List.set_cons_succ]
          refine wpX_take 7 (.agg (vfn (mrow ht 1))) rfl rfl (by kernel_rfl) (fun w1 h1 => detR_sub _ rfl b7 1 ht rfl rfl (by omega) (u.below h1 u.lt) rfl) ?_
          simp only [Act.put, List.setIfInBounds_toArray, List.set_cons_zero, List.set_cons_succ]
          refine wpX_take 8 (.int .i64 (prodX g h 2 1)) rfl rfl (by kernel_rfl) (fun w1 h1 => ?_) ?_
          · go_simp
            refine (HIK.out _).mono ?_
            rintro e wz ⟨rfl, h2⟩
            exact ⟨rfl, h2⟩
          simp only [Act.put, List.setIfInBounds_toArray, List.set_cons_zero, List.set_cons_succ]
          refine wpX_take 9 (.pointer (some ⟨b6, 6, none⟩)) rfl rfl (by kernel_rfl) (fun w1 h1 => by go_simp; exact ⟨rfl, Below.refl _ _⟩) ?_
          simp only [Act.put, List.setIfInBounds_toArray, List.set_cons_zero, List.set_cons_succ]
          refine wpX_take 10 (.pointer (some ⟨b6, 7, none⟩)) rfl rfl (by kernel_rfl) (fun w1 h1 => by go_simp; exact ⟨rfl, Below.refl _ _⟩) ?_
          simp only [Act.put, List.setIfInBounds_toArray, List.set_cons_zero, List.set_cons_succ]
          refine wpX_tail (by kernel_rfl) (fun wt htt => ?_)
          simp only [List.drop_succ_cons, List.drop_zero]
          replace hB := hB.trans (htt.mono hB.size)
          replace p := p.below htt p.lt
          replace r := r.below htt r.lt
          replace s := s.below htt s.lt
          replace u := u.below htt u.lt
          clear htt HIK
          have fz : wt.frozen? ⟨b6, 7, none⟩ = false := s.free _
          have cz : wt.cell? ⟨b6, 7, none⟩ = some (.int .i64 (qpre (prodF g h) 7 7)) := s.cellIs (mfn_get _ (by omega))
          go_wp2_with (fail)
          go_roundw
          case rel =>
            refine ⟨2, by omega, rfl, p.setOther (by simp; omega) _, r.setOther (by simp; omega) _, s.set' (mfn_set (by omega) ?_ ?_), u.setOther (by simp; omega) _, hB.setCell (by simp; omega) _⟩
            · simp [qpre, prodF]
            · intro j hj hne; simp only [qpre]; (repeat' split) <;> first | rfl | omega
          case measure => simp [intOf]
        · go_upto_region 11 with (fail)
          have HIK := Lib.hid (HT.out 2 2 (by omega) (by omega))
          refine wp_region_X 11 (by kernel_rfl) (by kernel_rfl) ?_
          replace p := p.drew
          replace r := r.drew
          replace s := s.drew
          replace u := u.drew
          replace hB : Below w.heap.size w wr.drew := hB.drew
          generalize wr.drew = wd at *
          refine wpX_take 0 (.int .i64 2) rfl rfl (by kernel_rfl) (fun w1 h1 => by go_simp; exact ⟨rfl, Below.refl _ _⟩) ?_
          simp only [Act.put, List.setIfInBounds_toArray, List.set_cons_zero, List.set_cons_succ]
          refine wpX_take 1 (.int .i64 2) rfl rfl (by kernel_rfl) (fun w1 h1 => by go_simp; exact ⟨rfl, Below.refl _ _⟩) ?_
          simp only [Act.put, List.setIfInBounds_toArray, List.set_cons_zero, List.set_cons_succ]
          refine wpX_take 2 (.int .i64 2) rfl rfl (by kernel_rfl) (fun w1 h1 => by go_simp; exact ⟨rfl, Below.refl _ _⟩) ?_
          simp only [Act.put, List.setIfInBounds_toArray, List.set_cons_zero, List.set_cons_succ]
          refine wpX_take 3 (.pointer (some ⟨w.heap.size, 6, none⟩)) rfl rfl (by kernel_rfl) (fun w1 h1 => by go_simp; exact ⟨rfl, Below.refl _ _⟩) ?_
          simp only [Act.put, List.setIfInBounds_toArray, List.set_cons_zero, List.set_cons_succ]
          refine wpX_take 4 (.agg (vfn (mrow g 2))) rfl rfl (by kernel_rfl) (fun w1 h1 => detR_sub _ rfl w.heap.size 2 g rfl rfl (by omega) (p.below h1 p.lt) rfl) ?_
          simp only [Act.put, List.setIfInBounds_toArray, List.set_cons_zero, List.set_cons_succ]
          refine wpX_take 5 (.int .i64 2) rfl rfl (by kernel_rfl) (fun w1 h1 => by go_simp; exact ⟨rfl, Below.refl _ _⟩) ?_
          simp only [Act.put, List.setIfInBounds_toArray, List.set_cons_zero, List.set_cons_succ]
          refine wpX_take 6 (.pointer (some ⟨b7, 6, none⟩)) rfl rfl (by kernel_rfl) (fun w1 h1 => by go_simp; exact ⟨rfl, Below.refl _ _⟩) ?_
          simp only [Act.put, List.setIfInBounds_toArray, List.set_cons_zero, List.set_cons_succ]
          refine wpX_take 7 (.agg (vfn (mrow ht 2))) rfl rfl (by kernel_rfl) (fun w1 h1 => detR_sub _ rfl b7 2 ht rfl rfl (by omega) (u.below h1 u.lt) rfl) ?_
          simp only [Act.put, List.setIfInBounds_toArray, List.set_cons_zero, List.set_cons_succ]
          refine wpX_take 8 (.int .i64 (prodX g h 2 2)) rfl rfl (by kernel_rfl) (fun w1 h1 => ?_) ?_
          · go_simp
            refine (HIK.out _).mono ?_
            rintro e wz ⟨rfl, h2⟩
            exact ⟨rfl, h2⟩
          simp only [Act.put, List.setIfInBounds_toArray, List.set_cons_zero, List.set_cons_succ]
          refine wpX_take 9 (.pointer (some ⟨b6, 6, none⟩)) rfl rfl (by kernel_rfl) (fun w1 h1 => by go_simp; exact ⟨rfl, Below.refl _ _⟩) ?_
          simp only [Act.put, List.setIfInBounds_toArray, List.set_cons_zero, List.set_cons_succ]
          refine wpX_take 10 (.pointer (some ⟨b6, 8, none⟩)) rfl rfl (by kernel_rfl) (fun w1 h1 => by go_simp; exact ⟨rfl, Below.refl _ _⟩) ?_
          simp only [Act.put, List.setIfInBounds_toArray, List.set_cons_zero, List.set_cons_succ]
          refine wpX_tail (by kernel_rfl) (fun wt htt => ?_)
          simp only [List.drop_succ_cons, List.drop_zero]
          replace hB := hB.trans (htt.mono hB.size)
          replace p := p.below htt p.lt
          replace r := r.below htt r.lt
          replace s := s.below htt s.lt
          replace u := u.below htt u.lt
          clear htt HIK
          have fz : wt.frozen? ⟨b6, 8, none⟩ = false := s.free _
          have cz : wt.cell? ⟨b6, 8, none⟩ = some (.int .i64 (qpre (prodF g h) 8 8)) := s.cellIs (mfn_get _ (by omega))
          go_wp2_with (fail)
          go_roundw
          case rel =>
            refine ⟨3, by omega, rfl, p.setOther (by simp; omega) _, r.setOther (by simp; omega) _, s.set' (mfn_set (by omega) ?_ ?_), u.setOther (by simp; omega) _, hB.setCell (by simp; omega) _⟩
            · simp [qpre, prodF]
            · intro j hj hne; simp only [qpre]; (repeat' split) <;> first | rfl | omega
          case measure => simp [intOf]
        · go_wp2_with (fail)
          go_roundw
          case rel => exact ⟨3, by omega, rfl, p, r, s, u, hB⟩
          case measure => simp [intOf]
    · have e9 : mfn (qpre (prodF g h) (3 * 3)) = mfn (prodF g h) := mfn_congr fun j hj => by simp only [qpre]; rw [if_pos (by omega)]
      rw [e9] at s
      cases bu
      · obtain ⟨rfl, rfl⟩ := K3.out rfl
        go_wp2_with (first | (refine wpList_load_rowG ?hw _ _ rfl _ rfl _ _ _ _ s Try.underlying25 rfl ?hi ?_; (case hw => (first | rfl | (simp [Region.wanted, yielded]; done))); (case hi => (rw [mfn_size]; kernel_rfl))) | (go_at_call 62; refine (V3.out _).mono ?_; rintro e w5 ⟨rfl, hb⟩; replace hB := hB.trans (hb.mono hB.size); replace r := r.below hb r.lt; replace s := s.below hb s.lt; clear hb) | (rw [zero_mat]; refine wpList_store_row rfl _ _ _ rfl _ rfl _ rfl _ _ r (by rw [mfn_size]; kernel_rfl) (by simp only [mfn_size]) (mfn_one _) ?_))
        refine bodyPost_ret (results_vec rfl _ _ _ _ _ _ _ rfl (r.row (mfn (fun _ => 0))) Try.underlying25 rfl (by rw [mfn_size]; kernel_rfl)) rfl ?_; refine ⟨?_, Below.setRow hB (by omega) _⟩
        rfl
      · obtain ⟨hF, hE⟩ := K2.out rfl
        have HFE := Lib.hid (And.intro hF hE)
        clear hF hE
        go_wp2_with (first | (refine wpList_load_rowG ?hw _ _ rfl _ rfl _ _ _ _ s Try.underlying25 rfl ?hi ?_; (case hw => (first | rfl | (simp [Region.wanted, yielded]; done))); (case hi => (rw [mfn_size]; kernel_rfl))) | (go_at_call 62; refine (V3.out _).mono ?_; rintro e w5 ⟨rfl, hb⟩; replace hB := hB.trans (hb.mono hB.size); replace r := r.below hb r.lt; replace s := s.below hb s.lt; clear hb) | (refine wpList_store_row rfl _ _ _ rfl _ rfl _ rfl _ _ r (by rw [mfn_size]; kernel_rfl) (by simp only [mfn_size]) (mfn_one _) ?_))
        refine bodyPost_ret (results_vec rfl _ _ _ _ _ _ _ rfl (r.row (mfn (prodF g h))) Try.underlying25 rfl (by rw [mfn_size]; kernel_rfl)) rfl ?_; refine ⟨?_, Below.setRow hB (by omega) _⟩
        rw [HFE.out.1, HFE.out.2]; rfl
end Go.Proofs.Ythkklhfnmodpnaa
