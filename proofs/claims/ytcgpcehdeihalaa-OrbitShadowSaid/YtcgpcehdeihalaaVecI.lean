/-
  Multiples of vectors, and the specification's differences and multiples.
-/
import Derived.Test.YtcgpcehdeihalaaVecH
set_option linter.unusedSimpArgs false
set_option linter.unusedVariables false
namespace Go.Proofs.Ytcgpcehdeihalaa
open Go.RowKit PM Dt
def vscaleF (f : Nat → Int) (k : Int) : Nat → Int := if okV f then eachF (scX f k) (scE f k) else fun _ => 0
def vscaleE (f : Nat → Int) (k : Int) : Int := if okV f then eachE (scX f k) (scE f k) else 2
theorem good_all {x er : Nat → Int} (h : ∀ i, i < 3 → er i = 0) : eachF x er = resF x ∧ eachE x er = resE x := by
  have e : goodE x er = okV x := by unfold goodE okV; rw [h 0 (by omega), h 1 (by omega), h 2 (by omega)]; simp
  unfold eachF eachE resF resE; rw [e]; exact ⟨rfl, rfl⟩
theorem good_bad {x er : Nat → Int} {i : Nat} (hi : i < 3) (h : ¬ er i = 0) : vfn (eachF x er) = vfn (fun _ => 0) ∧ eachE x er = 7 := by
  have e : goodE x er = false := goodE_no hi (by rintro ⟨h1, _⟩; exact h h1)
  unfold eachF eachE; rw [e]; exact ⟨rfl, rfl⟩
set_option maxRecDepth 100000 in
set_option maxHeartbeats 1000000 in
theorem vscale_any (f : Nat → Int) (k : Int) (w : World) (hk : I64 k) : Calls Try.prog 39 #[.agg (vfn f), .int .i64 k] w fun e w' => e = .returned (.tuple #[.agg (vfn (vscaleF f k)), .int .i64 (vscaleE f k)]) ∧ Below w.heap.size w w' := by
  have V1 := Lib.hid (fun w => valid_any f w)
  have hk2 : ∃ F E, (okV f = true → F = eachF (scX f k) (scE f k) ∧ E = eachE (scX f k) (scE f k)) ∧ vscaleF f k = (if okV f then F else fun _ => 0) ∧ vscaleE f k = (if okV f then E else 2) := ⟨_, _, fun _ => ⟨rfl, rfl⟩, rfl, rfl⟩
  obtain ⟨F, E, hk2, e1, e2⟩ := hk2
  rw [e1, e2]
  clear e1 e2
  have HK := Lib.hid hk2
  have HKI := Lib.hid hk
  clear hk2 hk
  obtain ⟨bf, hf⟩ : ∃ b, okV f = b := ⟨_, rfl⟩
  rw [hf] at V1 HK ⊢
  have HF := Lib.hid hf
  clear hf
  go_enter Try.func39, Try.ntmps39
  go_upto_region 1 with (fail)
  rw [zero_vec]
  have p : blk (((w.alloc (.cells (vfn f) 25)).alloc (.cells #[.int .i64 k] 2)).alloc (.cells (vfn fun _ => 0) 25)) w.heap.size (vfn f) 25 := ((blk.new _ _ _).alloc _).alloc _
  have q : blk (((w.alloc (.cells (vfn f) 25)).alloc (.cells #[.int .i64 k] 2)).alloc (.cells (vfn fun _ => 0) 25)) (w.heap.size + 1) #[.int .i64 k] 2 := (blk.new' (by simp)).alloc _
  have r : blk (((w.alloc (.cells (vfn f) 25)).alloc (.cells #[.int .i64 k] 2)).alloc (.cells (vfn fun _ => 0) 25)) (w.heap.size + 1 + 1) (vfn fun _ => 0) 25 := blk.new' (by simp)
  have hB : Below w.heap.size w (((w.alloc (.cells (vfn f) 25)).alloc (.cells #[.int .i64 k] 2)).alloc (.cells (vfn fun _ => 0) 25)) := by go_grown
  generalize ((w.alloc (.cells (vfn f) 25)).alloc (.cells #[.int .i64 k] 2)).alloc (.cells (vfn fun _ => 0) 25) = w0 at *
  cases bf
  · go_wp2_with (first
      | (refine wpList_load_rowG ?hw _ _ rfl _ rfl _ _ _ _ p Try.underlying25 rfl ?hi ?_; (case hw => (first | rfl | (simp [Region.wanted, yielded]; done))); (case hi => (rw [vfn_size]; kernel_rfl)))
      | (go_at_call 53; with_reducible refine (V1.out _).mono ?_; rintro e w1 ⟨rfl, hb⟩; replace hB := hB.trans (hb.mono hB.size); replace p := p.below hb p.lt; replace q := q.below hb q.lt; replace r := r.below hb r.lt; clear hb)
      | (go_at_call 77; refine (each_no _ _).mono ?_; rintro e w2 ⟨rfl, hb⟩; replace hB := hB.trans (hb.mono hB.size); replace r := r.below hb r.lt; clear hb)
      | (refine wpList_store_row rfl _ _ _ rfl _ rfl _ rfl _ _ r (by rw [vfn_size]; kernel_rfl) (by simp only [vfn_size]) (vfn_one _) ?_))
    refine bodyPost_ret (results_vec rfl _ _ _ _ _ _ _ rfl (r.row (vfn (fun _ => 0))) Try.underlying25 rfl (by rw [vfn_size]; kernel_rfl)) rfl ?_; refine ⟨?_, Below.setRow hB (by omega) _⟩
    rfl
  obtain ⟨hF, hE⟩ := HK.out rfl
  have HFE := Lib.hid (And.intro hF hE)
  clear HK hF hE
  go_wp2_with (first
      | (refine wpList_load_rowG ?hw _ _ rfl _ rfl _ _ _ _ p Try.underlying25 rfl ?hi ?_; (case hw => (first | rfl | (simp [Region.wanted, yielded]; done))); (case hi => (rw [vfn_size]; kernel_rfl)))
      | (go_at_call 53; with_reducible refine (V1.out _).mono ?_; rintro e w1 ⟨rfl, hb⟩; replace hB := hB.trans (hb.mono hB.size); replace p := p.below hb p.lt; replace q := q.below hb q.lt; replace r := r.below hb r.lt; clear hb)
      | (go_at_call 77; refine (eachScale_any (scX f k) (scE f k) _ _ _ (fun i hi wx hx => scaleC_any f k _ _ wx HF.out HKI.out (p.below hx p.lt) (q.below hx q.lt) i hi)).mono ?_; rintro e w2 ⟨rfl, hb⟩; rw [← HFE.out.1, ← HFE.out.2]; replace hB := hB.trans (hb.mono hB.size); replace r := r.below hb r.lt; clear hb)
      | (refine wpList_store_row rfl _ _ _ rfl _ rfl _ rfl _ _ r (by rw [vfn_size]; kernel_rfl) (by simp only [vfn_size]) (vfn_one _) ?_))
  refine bodyPost_ret (results_vec rfl _ _ _ _ _ _ _ rfl (r.row (vfn F)) Try.underlying25 rfl (by rw [vfn_size]; kernel_rfl)) rfl ?_; refine ⟨?_, Below.setRow hB (by omega) _⟩
  rfl
theorem sub_add {f g : Nat → Int} (h : ∀ i, i < 3 → I64 (g i)) : vfn (vaddF f (negw g)) = vfn (vsubF f g) ∧ vaddE f (negw g) = vsubE f g := by
  unfold vaddF vsubF vaddE vsubE
  rw [okV_negw h]
  cases hf : okV f
  · show vfn (fun _ => 0) = vfn (fun _ => 0) ∧ (2 : Int) = 2
    exact ⟨rfl, rfl⟩
  cases hg : okV g
  · show vfn (fun _ => 0) = vfn (fun _ => 0) ∧ (2 : Int) = 2
    exact ⟨rfl, rfl⟩
  show vfn (resF (addF f (negw g))) = vfn (resF (subF f g)) ∧ resE (addF f (negw g)) = resE (subF f g)
  refine res_congr (x := addF f (negw g)) (y := subF f g) fun i hi => ?_
  have h2 := (vb_iff _).1 ((okV_iff g).1 hg i hi)
  unfold addF subF negw wrap64; omega
end Go.Proofs.Ytcgpcehdeihalaa
