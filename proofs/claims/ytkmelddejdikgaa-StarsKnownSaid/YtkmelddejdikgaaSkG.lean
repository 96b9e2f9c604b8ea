/-
  The matrix of sights.
-/
import Derived.Test.YtkmelddejdikgaaSkF
set_option linter.unusedSimpArgs false
set_option linter.unusedVariables false
namespace Go.Proofs.Ytkmelddejdikgaa
open Go.RowKit PM Dt
/-- The matrix of sights, row by row. -/
def matF (S : Nat → Sgt) (n : Nat) : Nat → Int := fun j => ratioV (fsum S (fun s => entF s (j / 4) (j % 4)) n) 1 (wsum S n)
theorem matF_at (S : Nat → Sgt) (n i k : Nat) (hk : k < 4) : matF S n (i * 4 + k) = ratioV (fsum S (fun s => entF s i k) n) 1 (wsum S n) := by
  unfold matF
  rw [show (i * 4 + k) / 4 = i by omega, show (i * 4 + k) % 4 = k by omega]
def matV (S : Nat → Sgt) (n : Nat) : Nat → Int := if valS S n then matF S n else fun _ => 0
def matE (S : Nat → Sgt) (n : Nat) : Int := if valS S n then 0 else 2
set_option maxRecDepth 100000 in
set_option maxHeartbeats 4000000 in
theorem smat11_any (y : Sgt) (i k bi bk : Nat) (w : World) (h : sgOk y = true) (hi : i < 4) (hk : k < 4) (pi : blk w bi #[.int .i64 i] 3) (pk : blk w bk #[.int .i64 k] 3) : Calls Try.prog 66 #[.agg (sgc y), .pointer (some ⟨bi, 0, none⟩), .pointer (some ⟨bk, 0, none⟩)] w fun e w' => e = .returned (.int .i64 (entF y i k)) ∧ Below w.heap.size w w' := by
  have EN := Lib.hid (fun w => sent_any y i k w h hi hk)
  clear h hi hk
  generalize entF y i k = E at *
  go_enter Try.func66, Try.ntmps66
  go_upto_region 1 with (fail)
  have s : blk (w.alloc (.cells (sgc y) 36)) w.heap.size (sgc y) 36 := blk.new _ _ _
  have hB : Below w.heap.size w (w.alloc (.cells (sgc y) 36)) := by go_grown
  generalize (w.alloc (.cells (sgc y) 36)) = w0 at *
  replace pi := pi.below hB pi.lt
  replace pk := pk.below hB pk.lt
  have c1 : w0.cell? ⟨bi, 0, none⟩ = some (.int .i64 i) := pi.cellIs rfl
  have c2 : w0.cell? ⟨bk, 0, none⟩ = some (.int .i64 k) := pk.cellIs rfl
  go_wp2_with (first
    | (refine wpList_load_rowG ?hw _ _ rfl _ rfl _ _ _ _ s Try.underlying36 rfl ?hi ?_; (case hw => (first | rfl | (simp [Region.wanted, yielded]; done))); (case hi => (first | kernel_rfl | (rw [sgc_size]; kernel_rfl))))
    | (go_at_call 67; with_reducible refine (EN.out _).mono ?_; rintro e w1 ⟨rfl, hb⟩; replace hB := hB.trans (hb.mono hB.size); replace s := s.below hb s.lt; clear hb))
  go_ret
  exact ⟨rfl, hB⟩
set_option maxRecDepth 100000 in
set_option maxHeartbeats 6000000 in
theorem smat1_any (S : Nat → Sgt) (a : Option Addr) (n c i k b : Nat) (w : World) (el : ElemsA w a n 7 (fun k => (sgc (S k)).toList)) (hv : valS S n = true) (hi : i < 4) (hk : k < 4) (hb : blk w b #[.slice a n c] 24) : Calls Try.prog 65 #[.int .i64 i, .int .i64 k, .pointer (some ⟨b, 0, none⟩)] w fun e w' => e = .returned (.int .i64 (matF S n (i * 4 + k))) ∧ Below w.heap.size w w' := by
  obtain ⟨h0, h1, h2⟩ := valS_iff.1 hv
  have hME : Hid (∀ bi bk w', Below w.heap.size w w' → blk w' bi #[.int .i64 i] 3 → blk w' bk #[.int .i64 k] 3 → Calls Try.prog 46 #[.slice a n c, .func (.func 66) #[] #[.pointer (some ⟨bi, 0, none⟩), .pointer (some ⟨bk, 0, none⟩)]] w' fun e w'' => e = .returned (.int .i64 (matF S n (i * 4 + k))) ∧ Below w'.heap.size w' w'') := fun bi bk w' hb pi pk => by
    rw [matF_at S n i k hk]
    refine smean_any S (fun s => entF s i k) a n c _ _ w' (el.below hb) h1 h2 (fun j hj => ?_) (fun j hj w1 hb1 => ?_) (fun ar w1 => rfl)
    · have := entF_bd (h2 j hj) hi hk
      show _ ≤ entF (S j) i k ∧ entF (S j) i k ≤ _
      omega
    · exact smat11_any (S j) i k bi bk w1 (h2 j hj) hi hk (pi.below hb1 pi.lt) (pk.below hb1 pk.lt)
  clear h0 h1 h2 hv hi hk el
  generalize matF S n (i * 4 + k) = M at *
  go_enter Try.func65, Try.ntmps65
  go_upto_region 1 with (fail)
  have pi : blk ((w.alloc (.cells #[.int .i64 i] 3)).alloc (.cells #[.int .i64 k] 3)) w.heap.size #[.int .i64 i] 3 := (blk.new _ _ _).alloc _
  have pk : blk ((w.alloc (.cells #[.int .i64 i] 3)).alloc (.cells #[.int .i64 k] 3)) (w.heap.size + 1) #[.int .i64 k] 3 := blk.new' (by simp)
  have hB : Below w.heap.size w ((w.alloc (.cells #[.int .i64 i] 3)).alloc (.cells #[.int .i64 k] 3)) := by go_grown
  generalize ((w.alloc (.cells #[.int .i64 i] 3)).alloc (.cells #[.int .i64 k] 3)) = w0 at *
  replace hb := hb.below hB hb.lt
  have c0 : w0.cell? ⟨b, 0, none⟩ = some (.slice a n c) := hb.cellIs rfl
  go_wp2_with (go_at_call 46; with_reducible refine (hME.out _ _ _ hB pi pk).mono ?_; rintro e w3 ⟨rfl, hc⟩; replace hB := hB.trans (hc.mono hB.size); clear hc)
  go_ret
  exact ⟨rfl, hB⟩
set_option maxRecDepth 100000 in
set_option maxHeartbeats 8000000 in
theorem smatrix_any (S : Nat → Sgt) (a : Option Addr) (n c : Nat) (w : World) (el : ElemsA w a n 7 (fun k => (sgc (S k)).toList)) (hn : n ≤ 1000) : Calls Try.prog 17 #[.slice a n c] w fun e w' => e = .returned (.tuple #[.agg (tbn (matV S n)), .int .i64 (matE S n)]) ∧ Below w.heap.size w w' := by
  have VA := Lib.hid (fun w el => svalid_any S a n c w el hn)
  replace el := Lib.hid el
  have hFI : Hid (valS S n = true → ∀ b w', Below w.heap.size w w' → blk w' b #[.slice a n c] 24 → Calls Try.prog 56 #[.func (.func 65) #[] #[.pointer (some ⟨b, 0, none⟩)]] w' fun e w'' => e = .returned (.agg (tbn (matF S n))) ∧ Below w'.heap.size w' w'') := fun hv b w' hb pb => by
    refine sfill_any (matF S n) _ _ w' (fun i k hi hk w1 h1 => ?_) (fun ar w1 => rfl)
    exact smat1_any S a n c i k b w1 ((el.out.below hb).below (h1.mono (Nat.le_refl _))) hv hi hk (pb.below h1 pb.lt)
  unfold matV matE
  generalize matF S n = M at *
  obtain ⟨b1, h1⟩ : ∃ b, valS S n = b := ⟨_, rfl⟩
  rw [h1] at VA hFI ⊢
  clear h1 hn
  go_enter Try.func17, Try.ntmps17
  go_upto_region 1 with (fail)
  simp only [zero_tb]
  have l : blk ((w.alloc (.cells #[.slice a n c] 24)).alloc (.cells (tbn fun _ => 0) 38)) w.heap.size #[.slice a n c] 24 := (blk.new _ _ _).alloc _
  have r : blk ((w.alloc (.cells #[.slice a n c] 24)).alloc (.cells (tbn fun _ => 0) 38)) (w.heap.size + 1) (tbn fun _ => 0) 38 := blk.new' (by simp)
  have hB : Below w.heap.size w ((w.alloc (.cells #[.slice a n c] 24)).alloc (.cells (tbn fun _ => 0) 38)) := by go_grown
  generalize ((w.alloc (.cells #[.slice a n c] 24)).alloc (.cells (tbn fun _ => 0) 38)) = w0 at *
  have c0 : w0.cell? ⟨w.heap.size, 0, none⟩ = some (.slice a n c) := l.cellIs rfl
  cases b1
  · skip
    go_wp2_with (first | (go_at_call 45; with_reducible refine (VA.out _ (el.out.below hB)).mono ?_; rintro e w1 ⟨rfl, hb⟩; replace hB := hB.trans (hb.mono hB.size); replace l := l.below hb l.lt; replace r := r.below hb r.lt; clear hb) | (rw [zero_tb]; refine wpList_store_row rfl _ _ _ rfl _ rfl _ rfl _ _ r (by first | kernel_rfl | (rw [tbn_size]; kernel_rfl)) (by first | rfl | simp only [tbn_size]) (by first | exact tbn_one _ | rfl) ?_))
    refine bodyPost_ret (results_vec rfl _ _ _ _ _ _ _ rfl (r.row (tbn fun _ => 0)) Try.underlying38 rfl (by first | kernel_rfl | (rw [tbn_size]; kernel_rfl))) rfl ?_
    refine ⟨?_, Below.setRow hB (by omega) _⟩
    rfl
  go_wp2_with (first | (go_at_call 45; with_reducible refine (VA.out _ (el.out.below hB)).mono ?_; rintro e w1 ⟨rfl, hb⟩; replace hB := hB.trans (hb.mono hB.size); replace l := l.below hb l.lt; replace r := r.below hb r.lt; clear hb) | (go_at_call 56; with_reducible refine ((hFI.out (by trivial)) _ _ hB l).mono ?_; rintro e w3 ⟨rfl, hb⟩; replace hB := hB.trans (hb.mono hB.size); replace l := l.below hb l.lt; replace r := r.below hb r.lt; clear hb) | (refine wpList_store_row rfl _ _ _ rfl _ rfl _ rfl _ _ r (by first | kernel_rfl | (rw [tbn_size]; kernel_rfl)) (by first | rfl | simp only [tbn_size]) (by first | exact tbn_one _ | rfl) ?_))
  refine bodyPost_ret (results_vec rfl _ _ _ _ _ _ _ rfl (r.row (tbn M)) Try.underlying38 rfl (by first | kernel_rfl | (rw [tbn_size]; kernel_rfl))) rfl ?_
  refine ⟨?_, Below.setRow hB (by omega) _⟩
  rfl
end Go.Proofs.Ytkmelddejdikgaa
