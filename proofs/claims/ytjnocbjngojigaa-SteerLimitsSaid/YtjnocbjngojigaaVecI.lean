/-
  Multiples of vectors, and the specification's differences and multiples.
-/
import Derived.Test.YtjnocbjngojigaaVecH
set_option linter.unusedSimpArgs false
set_option linter.unusedVariables false
namespace Go.Proofs.Ytjnocbjngojigaa
open Go.RowKit PM Dt
def vscaleF (f : Nat → Int) (k : Int) : Nat → Int := if okV f then eachF (scX f k) (scE f k) else fun _ => 0
def vscaleE (f : Nat → Int) (k : Int) : Int := if okV f then eachE (scX f k) (scE f k) else 2
set_option maxRecDepth 100000 in
set_option maxHeartbeats 1000000 in
theorem vscale_any (f : Nat → Int) (k : Int) (w : World) (hk : I64 k) : Calls Try.prog 63 #[.agg (vfn f), .int .i64 k] w fun e w' => e = .returned (.tuple #[.agg (vfn (vscaleF f k)), .int .i64 (vscaleE f k)]) ∧ Below w.heap.size w w' := by
  have V1 := Lib.hid (fun w => valid_any f w)
  have hk2 : ∃ F E, (okV f = true → F = eachF (scX f k) (scE f k) ∧ E = eachE (scX f k) (scE f k)) ∧ vscaleF f k = (if okV f then F else fun _ => 0) ∧ vscaleE f k = (if okV f then E else 2) := ⟨_, _, fun _ => ⟨rfl, rfl⟩, rfl, rfl⟩
  obtain ⟨F, E, hk2, e1, e2⟩ := hk2
  rw [e1, e2]
  clear e1 e2
  have HK := Lib.hid hk2
  have HKI := Lib.hid hk
  clear hk2 hk
  obtain ⟨bf, hf⟩ : ∃ b, okV f = b := ⟨_, rfl⟩
  rw [hf] at V1 HK ⊢
  have HF := Lib.hid hf
  clear hf
  go_enter Try.func63, Try.ntmps63
  go_upto_region 1 with (fail)
  rw [zero_vec]
  have p : blk (((w.alloc (.cells (vfn f) 25)).alloc (.cells #[.int .i64 k] 2)).alloc (.cells (vfn fun _ => 0) 25)) w.heap.size (vfn f) 25 := ((blk.new _ _ _).alloc _).alloc _
  have q : blk (((w.alloc (.cells (vfn f) 25)).alloc (.cells #[.int .i64 k] 2)).alloc (.cells (vfn fun _ => 0) 25)) (w.heap.size + 1) #[.int .i64 k] 2 := (blk.new' (by simp)).alloc _
  have r : blk (((w.alloc (.cells (vfn f) 25)).alloc (.cells #[.int .i64 k] 2)).alloc (.cells (vfn fun _ => 0) 25)) (w.heap.size + 1 + 1) (vfn fun _ => 0) 25 := blk.new' (by simp)
  have hB : Below w.heap.size w (((w.alloc (.cells (vfn f) 25)).alloc (.cells #[.int .i64 k] 2)).alloc (.cells (vfn fun _ => 0) 25)) := by go_grown
  generalize ((w.alloc (.cells (vfn f) 25)).alloc (.cells #[.int .i64 k] 2)).alloc (.cells (vfn fun _ => 0) 25) = w0 at *
  cases bf
  · go_wp2_with (first
      | (refine wpList_load_rowG ?hw _ _ rfl _ rfl _ _ _ _ p Try.underlying25 rfl ?hi ?_; (case hw => (first | rfl | (simp [Region.wanted, yielded]; done))); (case hi => (rw [vfn_size]; kernel_rfl)))
      | (go_at_call 74; with_reducible refine (V1.out _).mono ?_; rintro e w1 ⟨rfl, hb⟩; replace hB := hB.trans (hb.mono hB.size); replace p := p.below hb p.lt; replace q := q.below hb q.lt; replace r := r.below hb r.lt; clear hb)
      | (go_at_call 73; refine (each_no _ _).mono ?_; rintro e w2 ⟨rfl, hb⟩; replace hB := hB.trans (hb.mono hB.size); replace r := r.below hb r.lt; clear hb)
      | (refine wpList_store_row rfl _ _ _ rfl _ rfl _ rfl _ _ r (by rw [vfn_size]; kernel_rfl) (by simp only [vfn_size]) (vfn_one _) ?_))
    refine bodyPost_ret (results_vec rfl _ _ _ _ _ _ _ rfl (r.row (vfn (fun _ => 0))) Try.underlying25 rfl (by rw [vfn_size]; kernel_rfl)) rfl ?_; refine ⟨?_, Below.setRow hB (by omega) _⟩
    rfl
  obtain ⟨hF, hE⟩ := HK.out rfl
  have HFE := Lib.hid (And.intro hF hE)
  clear HK hF hE
  go_wp2_with (first
      | (refine wpList_load_rowG ?hw _ _ rfl _ rfl _ _ _ _ p Try.underlying25 rfl ?hi ?_; (case hw => (first | rfl | (simp [Region.wanted, yielded]; done))); (case hi => (rw [vfn_size]; kernel_rfl)))
      | (go_at_call 74; with_reducible refine (V1.out _).mono ?_; rintro e w1 ⟨rfl, hb⟩; replace hB := hB.trans (hb.mono hB.size); replace p := p.below hb p.lt; replace q := q.below hb q.lt; replace r := r.below hb r.lt; clear hb)
      | (go_at_call 73; refine (eachScale_any (scX f k) (scE f k) _ _ _ (fun i hi wx hx => scaleC_any f k _ _ wx HF.out HKI.out (p.below hx p.lt) (q.below hx q.lt) i hi)).mono ?_; rintro e w2 ⟨rfl, hb⟩; rw [← HFE.out.1, ← HFE.out.2]; replace hB := hB.trans (hb.mono hB.size); replace r := r.below hb r.lt; clear hb)
      | (refine wpList_store_row rfl _ _ _ rfl _ rfl _ rfl _ _ r (by rw [vfn_size]; kernel_rfl) (by simp only [vfn_size]) (vfn_one _) ?_))
  refine bodyPost_ret (results_vec rfl _ _ _ _ _ _ _ rfl (r.row (vfn F)) Try.underlying25 rfl (by rw [vfn_size]; kernel_rfl)) rfl ?_; refine ⟨?_, Below.setRow hB (by omega) _⟩
  rfl
end Go.Proofs.Ytjnocbjngojigaa
