/-
  Multiples of vectors, and the specification's differences and multiples.
-/
import Derived.Test.YtmanfiphdmmgdaaVecH
set_option linter.unusedSimpArgs false
set_option linter.unusedVariables false
namespace Go.Proofs.Ytmanfiphdmmgdaa
open Go.RowKit PM Dt
def vscaleF (f : Nat → Int) (k : Int) : Nat → Int := if okV f then eachF (scX f k) (scE f k) else fun _ => 0
def vscaleE (f : Nat → Int) (k : Int) : Int := if okV f then eachE (scX f k) (scE f k) else 2
theorem good_all {x er : Nat → Int} (h : ∀ i, i < 3 → er i = 0) : eachF x er = resF x ∧ eachE x er = resE x := by
  have e : goodE x er = okV x := by unfold goodE okV; rw [h 0 (by omega), h 1 (by omega), h 2 (by omega)]; simp
  unfold eachF eachE resF resE; rw [e]; exact ⟨rfl, rfl⟩
theorem good_bad {x er : Nat → Int} {i : Nat} (hi : i < 3) (h : ¬ er i = 0) : vfn (eachF x er) = vfn (fun _ => 0) ∧ eachE x er = 7 := by
  have e : goodE x er = false := goodE_no hi (by rintro ⟨h1, _⟩; exact h h1)
  unfold eachF eachE; rw [e]; exact ⟨rfl, rfl⟩
set_option maxRecDepth 100000 in
set_option maxHeartbeats 1000000 in
theorem vscale_any (f : Nat → Int) (k : Int) (w : World) (hk : I64 k) : Calls Try.prog 55 #[.agg (vfn f), .int .i64 k] w fun e w' => e = .returned (.tuple #[.agg (vfn (vscaleF f k)), .int .i64 (vscaleE f k)]) ∧ Below w.heap.size w w' := by
  have V1 := Lib.hid (fun w => valid_any f w)
  have hk2 : ∃ F E, (okV f = true → F = eachF (scX f k) (scE f k) ∧ E = eachE (scX f k) (scE f k)) ∧ vscaleF f k = (if okV f then F else fun _ => 0) ∧ vscaleE f k = (if okV f then E else 2) := ⟨_, _, fun _ => ⟨rfl, rfl⟩, rfl, rfl⟩
  obtain ⟨F, E, hk2, e1, e2⟩ := hk2
  rw [e1, e2]
  clear e1 e2
  have HK := Lib.hid hk2
  have HKI := Lib.hid hk
  clear hk2 hk
  obtain ⟨bf, hf⟩ : ∃ b, okV f = b := ⟨_, rfl⟩
  rw [hf] at V1 HK ⊢
  have HF := Lib.hid hf
  clear hf
  go_enter Try.func55, Try.ntmps55
  go_upto_region 1 with (fail)
  rw [zero_vec]
  have p : blk (((w.alloc (.cells (vfn f) 23)).alloc (.cells #[.int .i64 k] 2)).alloc (.cells (vfn fun _ => 0) 23)) w.heap.size (vfn f) 23 := ((blk.new _ _ _).alloc _).alloc _
  have q : blk (((w.alloc (.cells (vfn f) 23)).alloc (.cells #[.int .i64 k] 2)).alloc (.cells (vfn fun _ => 0) 23)) (w.heap.size + 1) #[.int .i64 k] 2 := (blk.new' (by simp)).alloc _
  have r : blk (((w.alloc (.cells (vfn f) 23)).alloc (.cells #[.int .i64 k] 2)).alloc (.cells (vfn fun _ => 0) 23)) (w.heap.size + 1 + 1) (vfn fun _ => 0) 23 := blk.new' (by simp)
  have hB : Below w.heap.size w (((w.alloc (.cells (vfn f) 23)).alloc (.cells #[.int .i64 k] 2)).alloc (.cells (vfn fun _ => 0) 23)) := by go_grown
  generalize ((w.alloc (.cells (vfn f) 23)).alloc (.cells #[.int .i64 k] 2)).alloc (.cells (vfn fun _ => 0) 23) = w0 at *
  cases bf
  · go_wp2_with (first
      | (refine wpList_load_rowG ?hw _ _ rfl _ rfl _ _ _ _ p Try.underlying23 rfl ?hi ?_; (case hw => (first | rfl | (simp [Region.wanted, yielded]; done))); (case hi => (rw [vfn_size]; kernel_rfl)))
      | (go_at_call 57; with_reducible refine (V1.out _).mono ?_; rintro e w1 ⟨rfl, hb⟩; replace hB := hB.trans (hb.mono hB.size); replace p := p.below hb p.lt; replace q := q.below hb q.lt; replace r := r.below hb r.lt; clear hb)
      | (go_at_call 63; refine (each_no _ _).mono ?_; rintro e w2 ⟨rfl, hb⟩; replace hB := hB.trans (hb.mono hB.size); replace r := r.below hb r.lt; clear hb)
      | (refine wpList_store_row rfl _ _ _ rfl _ rfl _ rfl _ _ r (by rw [vfn_size]; kernel_rfl) (by simp only [vfn_size]) (vfn_one _) ?_))
    refine bodyPost_ret (results_vec rfl _ _ _ _ _ _ _ rfl (r.row (vfn (fun _ => 0))) Try.underlying23 rfl (by rw [vfn_size]; kernel_rfl)) rfl ?_; refine ⟨?_, Below.setRow hB (by omega) _⟩
    rfl
  obtain ⟨hF, hE⟩ := HK.out rfl
  have HFE := Lib.hid (And.intro hF hE)
  clear HK hF hE
  go_wp2_with (first
      | (refine wpList_load_rowG ?hw _ _ rfl _ rfl _ _ _ _ p Try.underlying23 rfl ?hi ?_; (case hw => (first | rfl | (simp [Region.wanted, yielded]; done))); (case hi => (rw [vfn_size]; kernel_rfl)))
      | (go_at_call 57; with_reducible refine (V1.out _).mono ?_; rintro e w1 ⟨rfl, hb⟩; replace hB := hB.trans (hb.mono hB.size); replace p := p.below hb p.lt; replace q := q.below hb q.lt; replace r := r.below hb r.lt; clear hb)
      | (go_at_call 63; refine (eachScale_any (scX f k) (scE f k) _ _ _ (fun i hi wx hx => scaleC_any f k _ _ wx HF.out HKI.out (p.below hx p.lt) (q.below hx q.lt) i hi)).mono ?_; rintro e w2 ⟨rfl, hb⟩; rw [← HFE.out.1, ← HFE.out.2]; replace hB := hB.trans (hb.mono hB.size); replace r := r.below hb r.lt; clear hb)
      | (refine wpList_store_row rfl _ _ _ rfl _ rfl _ rfl _ _ r (by rw [vfn_size]; kernel_rfl) (by simp only [vfn_size]) (vfn_one _) ?_))
  refine bodyPost_ret (results_vec rfl _ _ _ _ _ _ _ rfl (r.row (vfn F)) Try.underlying23 rfl (by rw [vfn_size]; kernel_rfl)) rfl ?_; refine ⟨?_, Below.setRow hB (by omega) _⟩
  rfl
theorem sub_add {f g : Nat → Int} (h : ∀ i, i < 3 → I64 (g i)) : vfn (vaddF f (negw g)) = vfn (vsubF f g) ∧ vaddE f (negw g) = vsubE f g := by
  unfold vaddF vsubF vaddE vsubE
  rw [okV_negw h]
  cases hf : okV f
  · show vfn (fun _ => 0) = vfn (fun _ => 0) ∧ (2 : Int) = 2
    exact ⟨rfl, rfl⟩
  cases hg : okV g
  · show vfn (fun _ => 0) = vfn (fun _ => 0) ∧ (2 : Int) = 2
    exact ⟨rfl, rfl⟩
  show vfn (resF (addF f (negw g))) = vfn (resF (subF f g)) ∧ resE (addF f (negw g)) = resE (subF f g)
  refine res_congr (x := addF f (negw g)) (y := subF f g) fun i hi => ?_
  have h2 := (vb_iff _).1 ((okV_iff g).1 hg i hi)
  unfold addF subF negw wrap64; omega
set_option maxRecDepth 100000 in
set_option maxHeartbeats 1000000 in
theorem rvsub_any (f g : Nat → Int) (w : World) (hg : ∀ i, i < 3 → I64 (g i)) : Calls Try.prog 54 #[.agg (vfn f), .agg (vfn g)] w fun e w' => e = .returned (.tuple #[.agg (vfn (vsubF f g)), .int .i64 (vsubE f g)]) ∧ Below w.heap.size w w' := by
  have R := Lib.hid (fun w => rvadd_any f (negw g) w)
  rw [(sub_add hg).1, (sub_add hg).2] at R
  have HX : Hid (#[Value.int .i64 (wrap64 (-g 0)), .int .i64 (wrap64 (-g 1)), .int .i64 (wrap64 (-g 2))] = vfn (negw g)) := by show _ = _; unfold vfn; rfl
  rw [← HX.out] at R
  generalize vsubF f g = F at *
  generalize vsubE f g = E at *
  clear hg HX
  go_enter Try.func54, Try.ntmps54
  go_upto_region 1 with (fail)
  rw [zero_vec]
  have p : blk (((w.alloc (.cells (vfn f) 23)).alloc (.cells (vfn g) 23)).alloc (.cells (vfn fun _ => 0) 23)) w.heap.size (vfn f) 23 := ((blk.new _ _ _).alloc _).alloc _
  have q : blk (((w.alloc (.cells (vfn f) 23)).alloc (.cells (vfn g) 23)).alloc (.cells (vfn fun _ => 0) 23)) (w.heap.size + 1) (vfn g) 23 := (blk.new' (by simp)).alloc _
  have r : blk (((w.alloc (.cells (vfn f) 23)).alloc (.cells (vfn g) 23)).alloc (.cells (vfn fun _ => 0) 23)) (w.heap.size + 1 + 1) (vfn fun _ => 0) 23 := blk.new' (by simp)
  have hB : Below w.heap.size w (((w.alloc (.cells (vfn f) 23)).alloc (.cells (vfn g) 23)).alloc (.cells (vfn fun _ => 0) 23)) := by go_grown
  generalize ((w.alloc (.cells (vfn f) 23)).alloc (.cells (vfn g) 23)).alloc (.cells (vfn fun _ => 0) 23) = w0 at *
  have b0 : w0.cell? ⟨w.heap.size + 1, 0, none⟩ = some (.int .i64 (g 0)) := q.cellIs (vfn_get _ (by omega))
  have b1 : w0.cell? ⟨w.heap.size + 1, 1, none⟩ = some (.int .i64 (g 1)) := q.cellIs (vfn_get _ (by omega))
  have b2 : w0.cell? ⟨w.heap.size + 1, 2, none⟩ = some (.int .i64 (g 2)) := q.cellIs (vfn_get _ (by omega))
  go_wp2_with (first
    | (refine wpList_load_rowG ?hw _ _ rfl _ rfl _ _ _ _ p Try.underlying23 rfl ?hi ?_; (case hw => (first | rfl | (simp [Region.wanted, yielded]; done))); (case hi => (rw [vfn_size]; kernel_rfl)))
    | (go_at_call 52; refine (R.out _).mono ?_; rintro e w2 ⟨rfl, hb⟩; replace hB := hB.trans (hb.mono hB.size); replace r := r.below hb r.lt; clear hb)
    | (refine wpList_store_row rfl _ _ _ rfl _ rfl _ rfl _ _ r (by rw [vfn_size]; kernel_rfl) (by simp only [vfn_size]) (vfn_one _) ?_))
  refine bodyPost_ret (results_vec rfl _ _ _ _ _ _ _ rfl (r.row (vfn F)) Try.underlying23 rfl (by rw [vfn_size]; kernel_rfl)) rfl ?_; refine ⟨?_, Below.setRow hB (by omega) _⟩
  rfl
set_option maxRecDepth 100000 in
set_option maxHeartbeats 2000000 in
theorem rvscale_any (f : Nat → Int) (K : Int) (w : World) (hk : I64 K) : Calls Try.prog 56 #[.agg (vfn f), .int .i64 K] w fun e w' => e = .returned (.tuple #[.agg (vfn (vscaleF f K)), .int .i64 (vscaleE f K)]) ∧ Below w.heap.size w w' := by
  have V1 := Lib.hid (fun w => rvalid_any f w)
  have M := Lib.hid (fun (h : okV f = true) (i : Nat) (hi : i < 3) w => rmul_any (f i) K w (vb_I ((okV_iff f).1 h i hi)) hk)
  have EQ : Hid (okV f = true → vscaleF f K = eachF (scX f K) (scE f K) ∧ vscaleE f K = eachE (scX f K) (scE f K)) := fun h => by unfold vscaleF vscaleE; rw [h]; exact ⟨rfl, rfl⟩
  have EN : Hid (okV f = false → vscaleF f K = (fun _ => 0) ∧ vscaleE f K = 2) := fun h => by unfold vscaleF vscaleE; rw [h]; exact ⟨rfl, rfl⟩
  obtain ⟨x, hx⟩ : ∃ x, x = scX f K := ⟨_, rfl⟩
  obtain ⟨er, her⟩ : ∃ er, er = scE f K := ⟨_, rfl⟩
  rw [← hx, ← her] at EQ
  have M2 : Hid (okV f = true → ∀ i : Nat, i < 3 → ∀ w, Calls Try.prog 92 #[.int .i64 (f i), .int .i64 K] w fun e w' => e = .returned (.tuple #[.int .i64 (x i), .int .i64 (er i)]) ∧ Below w.heap.size w w') := fun h i hi w => by rw [hx, her]; exact M.out h i hi w
  generalize vscaleF f K = F at *
  generalize vscaleE f K = E at *
  clear M hk hx her
  obtain ⟨bf, hf⟩ : ∃ b, okV f = b := ⟨_, rfl⟩
  rw [hf] at V1 EQ EN M2
  have HF := Lib.hid hf
  clear hf
  go_enter Try.func56, Try.ntmps56
  go_upto_region 1 with (fail)
  rw [zero_vec]
  have p : blk ((w.alloc (.cells (vfn f) 23)).alloc (.cells (vfn fun _ => 0) 23)) w.heap.size (vfn f) 23 := (blk.new _ _ _).alloc _
  have r : blk ((w.alloc (.cells (vfn f) 23)).alloc (.cells (vfn fun _ => 0) 23)) (w.heap.size + 1) (vfn fun _ => 0) 23 := blk.new' (by simp)
  have hB : Below w.heap.size w ((w.alloc (.cells (vfn f) 23)).alloc (.cells (vfn fun _ => 0) 23)) := by go_grown
  generalize (w.alloc (.cells (vfn f) 23)).alloc (.cells (vfn fun _ => 0) 23) = w0 at *
  cases bf
  · obtain ⟨rfl, rfl⟩ := EN.out rfl
    clear EQ EN
    go_wp2_with (first
      | (refine wpList_load_rowG ?hw _ _ rfl _ rfl _ _ _ _ p Try.underlying23 rfl ?hi ?_; (case hw => (first | rfl | (simp [Region.wanted, yielded]; done))); (case hi => (rw [vfn_size]; kernel_rfl)))
      | (go_at_call 58; with_reducible refine (V1.out _).mono ?_; rintro e w1 ⟨rfl, hb⟩; replace hB := hB.trans (hb.mono hB.size); replace p := p.below hb p.lt; replace r := r.below hb r.lt; clear hb)
      | (rw [zero_vec]; refine wpList_store_row rfl _ _ _ rfl _ rfl _ rfl _ _ r (by rw [vfn_size]; kernel_rfl) (by simp only [vfn_size]) (vfn_one _) ?_))
    refine bodyPost_ret (results_vec rfl _ _ _ _ _ _ _ rfl (r.row (vfn (fun _ => 0))) Try.underlying23 rfl (by rw [vfn_size]; kernel_rfl)) rfl ?_; refine ⟨?_, Below.setRow hB (by omega) _⟩
    rfl
  replace M2 := Lib.hid (M2.out rfl)
  obtain ⟨hF, hE⟩ := EQ.out rfl
  have HFE := Lib.hid (And.intro hF hE)
  clear EQ EN hF hE
  go_upto_region 4 with (first
      | (refine wpList_load_rowG ?hw _ _ rfl _ rfl _ _ _ _ p Try.underlying23 rfl ?hi ?_; (case hw => (first | rfl | (simp [Region.wanted, yielded]; done))); (case hi => (rw [vfn_size]; kernel_rfl)))
      | (go_at_call 58; with_reducible refine (V1.out _).mono ?_; rintro e w1 ⟨rfl, hb⟩; replace hB := hB.trans (hb.mono hB.size); replace p := p.below hb p.lt; replace r := r.below hb r.lt; clear hb))
  rw [zero_vec]
  have s := blk.new w1 (vfn fun _ => 0) 23
  have hne1 : w.heap.size + 1 < w1.heap.size := r.lt
  replace p := p.alloc (.cells (vfn fun _ => 0) 23)
  replace r := r.alloc (.cells (vfn fun _ => 0) 23)
  replace hB := hB.alloc hB.size (.cells (vfn fun _ => 0) 23)
  generalize w1.alloc (.cells (vfn fun _ => 0) 23) = w2 at *
  generalize w1.heap.size = b6 at *
  go_wp2_with (fail)
  go_loopg [7] 3 (fun g iv wr => ∃ k : Nat, g + k = 3 ∧ iv = .int .i64 k ∧ Hid (∀ j, j < k → er j = 0) ∧ blk wr w.heap.size (vfn f) 23 ∧ blk wr (w.heap.size + 1) (vfn fun _ => 0) 23 ∧ blk wr b6 (vfn (pre3 x k)) 23 ∧ Below w.heap.size w wr)
  case atStart => exact ⟨0, rfl, rfl, fun j hj => by omega, p, r, by rw [show vfn (pre3 x 0) = vfn (fun _ => 0) from vfn_congr fun i _ => by simp [pre3]]; exact s, hB⟩
  case round =>
    clear p r s hB
    obtain ⟨k, hk, rfl, hall, p, r, s, hB⟩ := hrel
    by_cases hkn : k < 3
    · have hdk : decide ((k : Int) < 3) = true := decide_eq_true (by omega)
      have hdk' : decide (k < 3) = true := decide_eq_true (by omega)
      have hw3 : IntKind.i64.wrap ((k : Int) + 1) = ((k + 1 : Nat) : Int) := by rw [IntKind.wrap_i64]; omega
      have HC := Lib.hid (M2.out k hkn)
      have ck : wr.cell? ⟨w.heap.size, k, none⟩ = some (.int .i64 (f k)) := p.cellIs (vfn_get f hkn)
      by_cases he : er k = 0
      · have de : (er k != 0) = false := by simp [he]
        have HE := Lib.hid he
        clear he
        go_upto_region 8 with (go_at_call 92; refine (HC.out _).mono ?_; rintro e w3 ⟨rfl, hb⟩; replace hB := hB.trans (hb.mono hB.size); replace p := p.below hb p.lt; replace r := r.below hb r.lt; replace s := s.below hb s.lt; clear hb)
        have fz : w3.frozen? ⟨b6, k, none⟩ = false := s.free _
        have cz : w3.cell? ⟨b6, k, none⟩ = some (.int .i64 (pre3 x k k)) := s.cellIs (vfn_get _ hkn)
        go_wp2_with (fail)
        go_roundg (3 - (k + 1))
        case rel =>
          refine ⟨k + 1, by omega, rfl, fun j hj => ?_, p.setOther (by simp; omega) _, r.setOther (by simp; omega) _, s.set' (vfn_set hkn ?_ ?_), hB.setCell (by simp; omega) _⟩
          · by_cases e : j = k
            · subst e; exact HE.out
            · exact hall.out j (by omega)
          · simp [pre3]
          · intro j hj hne; simp only [pre3]; split <;> split <;> first | rfl | omega
        case measure => omega
      · have de : (er k != 0) = true := by simpa using he
        have HG := Lib.hid (good_bad (x := x) hkn he)
        clear he
        go_wp2_with (first
          | (go_at_call 92; refine (HC.out _).mono ?_; rintro e w3 ⟨rfl, hb⟩; replace hB := hB.trans (hb.mono hB.size); replace r := r.below hb r.lt; clear hb)
          | (rw [zero_vec]; refine wpList_store_row rfl _ _ _ rfl _ rfl _ rfl _ _ r (by rw [vfn_size]; kernel_rfl) (by simp only [vfn_size]) (vfn_one _) ?_))
        refine bodyPost_ret (results_vec rfl _ _ _ _ _ _ _ rfl (r.row (vfn (fun _ => 0))) Try.underlying23 rfl (by rw [vfn_size]; kernel_rfl)) rfl ?_; refine ⟨?_, Below.setRow hB (by omega) _⟩
        rw [HFE.out.1, HFE.out.2, HG.out.1, HG.out.2]; rfl
    · obtain rfl : k = 3 := by omega
      have e3 : vfn (pre3 x 3) = vfn x := vfn_congr fun i hi => by simp [pre3, hi]
      rw [e3] at s
      have HG := Lib.hid (good_all (x := x) hall.out)
      have RS := Lib.hid (fun w => result_any x w)
      rw [← HG.out.1, ← HG.out.2, ← HFE.out.1, ← HFE.out.2] at RS
      go_wp2_with (first
        | (refine wpList_load_rowG ?hw _ _ rfl _ rfl _ _ _ _ s Try.underlying23 rfl ?hi ?_; (case hw => (first | rfl | (simp [Region.wanted, yielded]; done))); (case hi => (rw [vfn_size]; kernel_rfl)))
        | (go_at_call 65; refine (RS.out _).mono ?_; rintro e w3 ⟨rfl, hb⟩; replace hB := hB.trans (hb.mono hB.size); replace r := r.below hb r.lt; clear hb)
        | (refine wpList_store_row rfl _ _ _ rfl _ rfl _ rfl _ _ r (by rw [vfn_size]; kernel_rfl) (by simp only [vfn_size]) (vfn_one _) ?_))
      refine bodyPost_ret (results_vec rfl _ _ _ _ _ _ _ rfl (r.row (vfn F)) Try.underlying23 rfl (by rw [vfn_size]; kernel_rfl)) rfl ?_; refine ⟨?_, Below.setRow hB (by omega) _⟩
      rfl
end Go.Proofs.Ytmanfiphdmmgdaa
