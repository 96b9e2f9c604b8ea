/-
  Differences and multiples of vectors, and the specification's sums, differences and multiples. Multiples of vectors, and the specification's differences and multiples.
-/
import Derived.Test.YtkmelddejdikgaaGreatVecG
set_option maxRecDepth 100000
set_option linter.unusedSimpArgs false
set_option linter.unusedVariables false
namespace Go.Proofs.YtkmelddejdikgaaGreat
open Go.RowKit PM Dt
def subF (f g : Nat → Int) : Nat → Int := fun i => f i - g i
set_option maxHeartbeats 2000000 in
theorem eachScale_any (x er : Nat → Int) (c1 c2 : Value) (w : World)
 (hf : Hid (∀ i : Nat, i < 3 → ∀ w1, Below w.heap.size w w1 → Calls Tryz.prog 86 #[.int .i64 i, c1, c2] w1 fun e w' => e = .returned (.tuple #[.int .i64 (x i), .int .i64 (er i)]) ∧ Below w1.heap.size w1 w')) :
 Calls Tryz.prog 72 #[.bool true, .func (.func 86) #[] #[c1, c2]] w fun e w' => e = .returned (.tuple #[.agg (vfn (eachF x er)), .int .i64 (eachE x er)]) ∧ Below w.heap.size w w' := by
 go_enter Tryz.func72, Tryz.ntmps72
 go_upto_region 2 with (fail)
 rw [zero_vec]
 have p : blk ((w.alloc (.cells (vfn fun _ => 0) 27)).alloc (.cells (vfn fun _ => 0) 27)) w.heap.size (vfn fun _ => 0) 27 := (blk.new _ _ _).alloc _
 have q : blk ((w.alloc (.cells (vfn fun _ => 0) 27)).alloc (.cells (vfn fun _ => 0) 27)) (w.heap.size + 1) (vfn fun _ => 0) 27 := blk.new' (by simp)
 have hB : Below w.heap.size w ((w.alloc (.cells (vfn fun _ => 0) 27)).alloc (.cells (vfn fun _ => 0) 27)) := by go_grown
 generalize (w.alloc (.cells (vfn fun _ => 0) 27)).alloc (.cells (vfn fun _ => 0) 27) = w0 at *
 go_wp2_with (fail)
 go_loopg [13] 3 (fun g iv wr => ∃ k : Nat, g + k = 3 ∧ iv = .int .i64 k ∧ Hid (∀ j, j < k → er j = 0 ∧ vb (x j) = true) ∧ blk wr w.heap.size (vfn fun _ => 0) 27 ∧ blk wr (w.heap.size + 1) (vfn (pre3 x k)) 27 ∧ Below w.heap.size w wr)
 case atStart => exact ⟨0, rfl, rfl, fun j hj => by omega, p, by rw [show vfn (pre3 x 0) = vfn (fun _ => 0) from vfn_congr fun i _ => by simp [pre3]]; exact q, hB⟩
 case round =>
  clear p q hB
  obtain ⟨k, hk, rfl, hall, p, q, hB⟩ := hrel
  by_cases hkn : k < 3
  ·have hdk : decide ((k : Int) < 3) = true := decide_eq_true (by omega)
   have hdk' : decide (k < 3) = true := decide_eq_true (by omega)
   have hw3 : IntKind.i64.wrap ((k : Int) + 1) = ((k + 1 : Nat) : Int) := by rw [IntKind.wrap_i64]; omega
   have W0 := Lib.hid (fun w => within_any (x k) w)
   have HC := Lib.hid (hf.out k hkn)
   by_cases he : er k = 0
   ·have de : (er k != 0) = false := by simp [he]
    have HE := Lib.hid he
    obtain ⟨b, hb⟩ : ∃ b, vb (x k) = b := ⟨_, rfl⟩
    rw [hb] at W0
    have HVB := Lib.hid hb
    clear hb he
    cases b
    ·have HG := Lib.hid (show goodE x er = false from goodE_no hkn (by rintro ⟨_, h⟩; rw [HVB.out] at h; cases h))
     go_wp2_with (first
      | (go_at_call 86; refine (HC.out _ hB).mono ?_; rintro e w1 ⟨rfl, hb⟩; replace hB := hB.trans (hb.mono hB.size); replace p := p.below hb p.lt; replace q := q.below hb q.lt; clear hb)
      | (go_at_call 124; refine (W0.out _).mono ?_; rintro e w1 ⟨rfl, rfl⟩)
      | (rw [zero_vec]; refine wpList_store_row rfl _ _ _ rfl _ rfl _ rfl _ _ p (by rw [vfn_size]; kernel_rfl) (by simp only [vfn_size]) (vfn_one _) ?_))
     refine bodyPost_ret (results_vec rfl _ _ _ _ _ _ _ rfl (p.row (vfn (fun _ => 0))) Tryz.underlying27 rfl (by rw [vfn_size]; kernel_rfl)) rfl ?_; refine ⟨?_, Below.setRow hB (Nat.le_refl _) _⟩
     unfold eachF eachE; rw [HG.out]; rfl
    ·go_upto_region 8 with (go_at_call 86; refine (HC.out _ hB).mono ?_; rintro e w1 ⟨rfl, hb⟩; replace hB := hB.trans (hb.mono hB.size); replace p := p.below hb p.lt; replace q := q.below hb q.lt; clear hb)
     have fz : w1.frozen? ⟨w.heap.size + 1, k, none⟩ = false := q.free _
     have cz : w1.cell? ⟨w.heap.size + 1, k, none⟩ = some (.int .i64 (pre3 x k k)) := q.cellIs (vfn_get _ hkn)
     go_wp2_with (go_at_call 124; refine (W0.out _).mono ?_; rintro e w1 ⟨rfl, rfl⟩)
     go_roundg (3 - (k + 1))
     case rel =>
      refine ⟨k + 1, by omega, rfl, fun j hj => ?_, p.setOther (by simp) _, q.set' (vfn_set hkn ?_ ?_), hB.setCell (by simp) _⟩
      ·by_cases e : j = k
       ·subst e; exact ⟨HE.out, HVB.out⟩
       ·exact hall.out j (by omega)
      ·simp [pre3]
      ·intro j hj hne; simp only [pre3]; split <;> split <;> first | rfl | omega
     case measure => omega
   ·have de : (er k != 0) = true := by simpa using he
    have HG := Lib.hid (show goodE x er = false from goodE_no hkn (by rintro ⟨h, _⟩; exact he h))
    clear he
    go_wp2_with (first
     | (go_at_call 86; refine (HC.out _ hB).mono ?_; rintro e w1 ⟨rfl, hb⟩; replace hB := hB.trans (hb.mono hB.size); replace p := p.below hb p.lt; replace q := q.below hb q.lt; clear hb)
     | (rw [zero_vec]; refine wpList_store_row rfl _ _ _ rfl _ rfl _ rfl _ _ p (by rw [vfn_size]; kernel_rfl) (by simp only [vfn_size]) (vfn_one _) ?_))
    refine bodyPost_ret (results_vec rfl _ _ _ _ _ _ _ rfl (p.row (vfn (fun _ => 0))) Tryz.underlying27 rfl (by rw [vfn_size]; kernel_rfl)) rfl ?_; refine ⟨?_, Below.setRow hB (Nat.le_refl _) _⟩
    unfold eachF eachE; rw [HG.out]; rfl
  ·obtain rfl : k = 3 := by omega
   have HG := Lib.hid ((goodE_iff x er).2 hall.out)
   have e3 : vfn (pre3 x 3) = vfn x := vfn_congr fun i hi => by simp [pre3, hi]
   rw [e3] at q
   go_wp2_with (first | (refine wpList_load_rowG ?hw _ _ rfl _ rfl _ _ _ _ q Tryz.underlying27 rfl ?hi ?_; (case hw => (first | rfl | (simp [Region.wanted, yielded]; done))); (case hi => (rw [vfn_size]; kernel_rfl))) | (refine wpList_store_row rfl _ _ _ rfl _ rfl _ rfl _ _ p (by rw [vfn_size]; kernel_rfl) (by simp only [vfn_size]) (vfn_one _) ?_))
   refine bodyPost_ret (results_vec rfl _ _ _ _ _ _ _ rfl (p.row (vfn x)) Tryz.underlying27 rfl (by rw [vfn_size]; kernel_rfl)) rfl ?_; refine ⟨?_, Below.setRow hB (Nat.le_refl _) _⟩
   unfold eachF eachE; rw [HG.out]; rfl
def scX (f : Nat → Int) (k : Int) : Nat → Int := fun i => ratioV (f i) k 1073741824
def scE (f : Nat → Int) (k : Int) : Nat → Int := fun i => ratioE (f i) k 1073741824
theorem scaleC_any (f : Nat → Int) (k : Int) (b c : Nat) (w : World) (hf : okV f = true) (hk : I64 k) (p : blk w b (vfn f) 27) (q : blk w c #[.int .i64 k] 2) (i : Nat) (hi : i < 3) :
 Calls Tryz.prog 86 #[.int .i64 i, .pointer (some ⟨b, 0, none⟩), .pointer (some ⟨c, 0, none⟩)] w fun e w' => e = .returned (.tuple #[.int .i64 (scX f k i), .int .i64 (scE f k i)]) ∧ Below w.heap.size w w' := by
 have M := Lib.hid (fun w => mul_any (f i) k w (vb_I ((okV_iff f).1 hf i hi)) hk)
 unfold scX scE
 generalize ratioV (f i) k 1073741824 = X at *
 generalize ratioE (f i) k 1073741824 = E at *
 have hdk : decide ((i : Int) < 3) = true := decide_eq_true (by omega)
 have hdk' : decide (i < 3) = true := decide_eq_true hi
 have hi3 : (i : Int) < 3 := by omega
 clear hf hk
 go_enter Tryz.func86, Tryz.ntmps86
 go_upto_region 1 with (fail)
 have hB : More w w := Below.refl _ _
 refine wp_region_Y 99 9 rfl (by kernel_rfl) ?_
 replace p := p.drew
 replace q := q.drew
 replace hB : More w w.drew := hB.drew
 generalize w.drew = wo at *
 refine wpY_takeB 0 (.int .i64 i) rfl rfl (by kernel_rfl) (fun w1 => by go_simp; exact ⟨rfl, Below.refl _ _⟩) ?_
 simp only [Act.put, sIT, sCZ, sCS]
 refine wpY_takeB 1 (.pointer (some ⟨b, i, none⟩)) rfl rfl (by kernel_rfl) (fun w1 => by go_simp; first | exact ⟨rfl, Below.refl _ _⟩ | (rw [if_pos hi3]; exact ⟨rfl, Below.refl _ _⟩)) ?_
 simp only [Act.put, sIT, sCZ, sCS]
 refine wpY_takeA 2 (.int .i64 (f i)) rfl rfl (by kernel_rfl) (by kernel_rfl) (fun w1 h1 => by have hc : w1.cell? ⟨b, i, none⟩ = some (.int .i64 (f i)) := (p.below h1 p.lt).cellIs (vfn_get _ hi); go_simp; exact ⟨rfl, Below.refl _ _⟩) ?_
 simp only [Act.put, sIT, sCZ, sCS]
 refine wpY_takeA 3 (.int .i64 k) rfl rfl (by kernel_rfl) (by kernel_rfl) (fun w1 h1 => by have hc : w1.cell? ⟨c, 0, none⟩ = some (.int .i64 k) := (q.below h1 q.lt).cellIs rfl; go_simp; exact ⟨rfl, Below.refl _ _⟩) ?_
 simp only [Act.put, sIT, sCZ, sCS]
 refine wpY_takeA 4 (.tuple #[.int .i64 X, .int .i64 E]) rfl rfl (by kernel_rfl) (by kernel_rfl) (fun w1 h1 => ?_) ?_
 ·go_simp
  refine (M.out _).mono ?_
  rintro e w2 ⟨rfl, h2⟩
  exact ⟨rfl, h2⟩
 simp only [Act.put, sIT, sCZ, sCS]
 refine wpY_takeB 5 (.int .i64 X) rfl rfl (by kernel_rfl) (fun w1 => by go_simp; exact ⟨rfl, Below.refl _ _⟩) ?_
 simp only [Act.put, sIT, sCZ, sCS]
 refine wpY_takeB 6 (.int .i64 E) rfl rfl (by kernel_rfl) (fun w1 => by go_simp; exact ⟨rfl, Below.refl _ _⟩) ?_
 simp only [Act.put, sIT, sCZ, sCS]
 refine wpY_takeB 7 (.int .i64 X) rfl rfl (by kernel_rfl) (fun w1 => by go_simp; exact ⟨rfl, Below.refl _ _⟩) ?_
 simp only [Act.put, sIT, sCZ, sCS]
 refine wpY_takeB 8 (.int .i64 E) rfl rfl (by kernel_rfl) (fun w1 => by go_simp; exact ⟨rfl, Below.refl _ _⟩) ?_
 simp only [Act.put, sIT, sCZ, sCS]
 refine wpY_end (by kernel_rfl) (fun w3 h3 => ?_)
 replace hB := More.trans hB h3
 go_wp2_with (fail)
 go_ret2
 exact ⟨rfl, hB⟩
def vsubF (f g : Nat → Int) : Nat → Int := if okV f && okV g then resF (subF f g) else fun _ => 0
def vscaleF (f : Nat → Int) (k : Int) : Nat → Int := if okV f then eachF (scX f k) (scE f k) else fun _ => 0
def vscaleE (f : Nat → Int) (k : Int) : Int := if okV f then eachE (scX f k) (scE f k) else 2
theorem good_all {x er : Nat → Int} (h : ∀ i, i < 3 → er i = 0) : eachF x er = resF x ∧ eachE x er = resE x := by
 have e : goodE x er = okV x := by unfold goodE okV; rw [h 0 (by omega), h 1 (by omega), h 2 (by omega)]; simp
 unfold eachF eachE resF resE; rw [e]; exact ⟨rfl, rfl⟩
theorem good_bad {x er : Nat → Int} {i : Nat} (hi : i < 3) (h : ¬ er i = 0) : vfn (eachF x er) = vfn (fun _ => 0) ∧ eachE x er = 7 := by
 have e : goodE x er = false := goodE_no hi (by rintro ⟨h1, _⟩; exact h h1)
 unfold eachF eachE; rw [e]; exact ⟨rfl, rfl⟩
set_option maxHeartbeats 1000000 in
theorem vscale_any (f : Nat → Int) (k : Int) (w : World) (hk : I64 k) : Calls Tryz.prog 34 #[.agg (vfn f), .int .i64 k] w fun e w' => e = .returned (.tuple #[.agg (vfn (vscaleF f k)), .int .i64 (vscaleE f k)]) ∧ Below w.heap.size w w' := by
 have V1 := Lib.hid (fun w => valid_any f w)
 have hk2 : ∃ F E, (okV f = true → F = eachF (scX f k) (scE f k) ∧ E = eachE (scX f k) (scE f k)) ∧ vscaleF f k = (if okV f then F else fun _ => 0) ∧ vscaleE f k = (if okV f then E else 2) := ⟨_, _, fun _ => ⟨rfl, rfl⟩, rfl, rfl⟩
 obtain ⟨F, E, hk2, e1, e2⟩ := hk2
 rw [e1, e2]
 clear e1 e2
 have HK := Lib.hid hk2
 have HKI := Lib.hid hk
 clear hk2 hk
 obtain ⟨bf, hf⟩ : ∃ b, okV f = b := ⟨_, rfl⟩
 rw [hf] at V1 HK ⊢
 have HF := Lib.hid hf
 clear hf
 go_enter Tryz.func34, Tryz.ntmps34
 go_upto_region 1 with (fail)
 rw [zero_vec]
 have p : blk (((w.alloc (.cells (vfn f) 27)).alloc (.cells #[.int .i64 k] 2)).alloc (.cells (vfn fun _ => 0) 27)) w.heap.size (vfn f) 27 := ((blk.new _ _ _).alloc _).alloc _
 have q : blk (((w.alloc (.cells (vfn f) 27)).alloc (.cells #[.int .i64 k] 2)).alloc (.cells (vfn fun _ => 0) 27)) (w.heap.size + 1) #[.int .i64 k] 2 := (blk.new' (by simp)).alloc _
 have r : blk (((w.alloc (.cells (vfn f) 27)).alloc (.cells #[.int .i64 k] 2)).alloc (.cells (vfn fun _ => 0) 27)) (w.heap.size + 1 + 1) (vfn fun _ => 0) 27 := blk.new' (by simp)
 have hB : Below w.heap.size w (((w.alloc (.cells (vfn f) 27)).alloc (.cells #[.int .i64 k] 2)).alloc (.cells (vfn fun _ => 0) 27)) := by go_grown
 generalize ((w.alloc (.cells (vfn f) 27)).alloc (.cells #[.int .i64 k] 2)).alloc (.cells (vfn fun _ => 0) 27) = w0 at *
 cases bf
 ·go_wp2_with (first
   | (refine wpList_load_rowG ?hw _ _ rfl _ rfl _ _ _ _ p Tryz.underlying27 rfl ?hi ?_; (case hw => (first | rfl | (simp [Region.wanted, yielded]; done))); (case hi => (rw [vfn_size]; kernel_rfl)))
   | (go_at_call 58; with_reducible refine (V1.out _).mono ?_; rintro e w1 ⟨rfl, hb⟩; replace hB := hB.trans (hb.mono hB.size); replace p := p.below hb p.lt; replace q := q.below hb q.lt; replace r := r.below hb r.lt; clear hb)
   | (go_at_call 72; refine (each_no _ _).mono ?_; rintro e w2 ⟨rfl, hb⟩; replace hB := hB.trans (hb.mono hB.size); replace r := r.below hb r.lt; clear hb)
   | (refine wpList_store_row rfl _ _ _ rfl _ rfl _ rfl _ _ r (by rw [vfn_size]; kernel_rfl) (by simp only [vfn_size]) (vfn_one _) ?_))
  refine bodyPost_ret (results_vec rfl _ _ _ _ _ _ _ rfl (r.row (vfn (fun _ => 0))) Tryz.underlying27 rfl (by rw [vfn_size]; kernel_rfl)) rfl ?_; refine ⟨?_, Below.setRow hB (by omega) _⟩
  rfl
 obtain ⟨hF, hE⟩ := HK.out rfl
 have HFE := Lib.hid (And.intro hF hE)
 clear HK hF hE
 go_wp2_with (first
  | (refine wpList_load_rowG ?hw _ _ rfl _ rfl _ _ _ _ p Tryz.underlying27 rfl ?hi ?_; (case hw => (first | rfl | (simp [Region.wanted, yielded]; done))); (case hi => (rw [vfn_size]; kernel_rfl)))
  | (go_at_call 58; with_reducible refine (V1.out _).mono ?_; rintro e w1 ⟨rfl, hb⟩; replace hB := hB.trans (hb.mono hB.size); replace p := p.below hb p.lt; replace q := q.below hb q.lt; replace r := r.below hb r.lt; clear hb)
  | (go_at_call 72; refine (eachScale_any (scX f k) (scE f k) _ _ _ (fun i hi wx hx => scaleC_any f k _ _ wx HF.out HKI.out (p.below hx p.lt) (q.below hx q.lt) i hi)).mono ?_; rintro e w2 ⟨rfl, hb⟩; rw [← HFE.out.1, ← HFE.out.2]; replace hB := hB.trans (hb.mono hB.size); replace r := r.below hb r.lt; clear hb)
  | (refine wpList_store_row rfl _ _ _ rfl _ rfl _ rfl _ _ r (by rw [vfn_size]; kernel_rfl) (by simp only [vfn_size]) (vfn_one _) ?_))
 refine bodyPost_ret (results_vec rfl _ _ _ _ _ _ _ rfl (r.row (vfn F)) Tryz.underlying27 rfl (by rw [vfn_size]; kernel_rfl)) rfl ?_; refine ⟨?_, Below.setRow hB (by omega) _⟩
 rfl
set_option maxHeartbeats 2000000 in
theorem rvscale_any (f : Nat → Int) (K : Int) (w : World) (hk : I64 K) : Calls Tryz.prog 38 #[.agg (vfn f), .int .i64 K] w fun e w' => e = .returned (.tuple #[.agg (vfn (vscaleF f K)), .int .i64 (vscaleE f K)]) ∧ Below w.heap.size w w' := by
 have V1 := Lib.hid (fun w => rvalid_any f w)
 have M := Lib.hid (fun (h : okV f = true) (i : Nat) (hi : i < 3) w => rmul_any (f i) K w (vb_I ((okV_iff f).1 h i hi)) hk)
 have EQ : Hid (okV f = true → vscaleF f K = eachF (scX f K) (scE f K) ∧ vscaleE f K = eachE (scX f K) (scE f K)) := fun h => by unfold vscaleF vscaleE; rw [h]; exact ⟨rfl, rfl⟩
 have EN : Hid (okV f = false → vscaleF f K = (fun _ => 0) ∧ vscaleE f K = 2) := fun h => by unfold vscaleF vscaleE; rw [h]; exact ⟨rfl, rfl⟩
 obtain ⟨x, hx⟩ : ∃ x, x = scX f K := ⟨_, rfl⟩
 obtain ⟨er, her⟩ : ∃ er, er = scE f K := ⟨_, rfl⟩
 rw [← hx, ← her] at EQ
 have M2 : Hid (okV f = true → ∀ i : Nat, i < 3 → ∀ w, Calls Tryz.prog 90 #[.int .i64 (f i), .int .i64 K] w fun e w' => e = .returned (.tuple #[.int .i64 (x i), .int .i64 (er i)]) ∧ Below w.heap.size w w') := fun h i hi w => by rw [hx, her]; exact M.out h i hi w
 generalize vscaleF f K = F at *
 generalize vscaleE f K = E at *
 clear M hk hx her
 obtain ⟨bf, hf⟩ : ∃ b, okV f = b := ⟨_, rfl⟩
 rw [hf] at V1 EQ EN M2
 have HF := Lib.hid hf
 clear hf
 go_enter Tryz.func38, Tryz.ntmps38
 go_upto_region 1 with (fail)
 rw [zero_vec]
 have p : blk ((w.alloc (.cells (vfn f) 27)).alloc (.cells (vfn fun _ => 0) 27)) w.heap.size (vfn f) 27 := (blk.new _ _ _).alloc _
 have r : blk ((w.alloc (.cells (vfn f) 27)).alloc (.cells (vfn fun _ => 0) 27)) (w.heap.size + 1) (vfn fun _ => 0) 27 := blk.new' (by simp)
 have hB : Below w.heap.size w ((w.alloc (.cells (vfn f) 27)).alloc (.cells (vfn fun _ => 0) 27)) := by go_grown
 generalize (w.alloc (.cells (vfn f) 27)).alloc (.cells (vfn fun _ => 0) 27) = w0 at *
 cases bf
 ·obtain ⟨rfl, rfl⟩ := EN.out rfl
  clear EQ EN
  go_wp2_with (first
   | (refine wpList_load_rowG ?hw _ _ rfl _ rfl _ _ _ _ p Tryz.underlying27 rfl ?hi ?_; (case hw => (first | rfl | (simp [Region.wanted, yielded]; done))); (case hi => (rw [vfn_size]; kernel_rfl)))
   | (go_at_call 78; with_reducible refine (V1.out _).mono ?_; rintro e w1 ⟨rfl, hb⟩; replace hB := hB.trans (hb.mono hB.size); replace p := p.below hb p.lt; replace r := r.below hb r.lt; clear hb)
   | (rw [zero_vec]; refine wpList_store_row rfl _ _ _ rfl _ rfl _ rfl _ _ r (by rw [vfn_size]; kernel_rfl) (by simp only [vfn_size]) (vfn_one _) ?_))
  refine bodyPost_ret (results_vec rfl _ _ _ _ _ _ _ rfl (r.row (vfn (fun _ => 0))) Tryz.underlying27 rfl (by rw [vfn_size]; kernel_rfl)) rfl ?_; refine ⟨?_, Below.setRow hB (by omega) _⟩
  rfl
 replace M2 := Lib.hid (M2.out rfl)
 obtain ⟨hF, hE⟩ := EQ.out rfl
 have HFE := Lib.hid (And.intro hF hE)
 clear EQ EN hF hE
 go_upto_region 4 with (first
  | (refine wpList_load_rowG ?hw _ _ rfl _ rfl _ _ _ _ p Tryz.underlying27 rfl ?hi ?_; (case hw => (first | rfl | (simp [Region.wanted, yielded]; done))); (case hi => (rw [vfn_size]; kernel_rfl)))
  | (go_at_call 78; with_reducible refine (V1.out _).mono ?_; rintro e w1 ⟨rfl, hb⟩; replace hB := hB.trans (hb.mono hB.size); replace p := p.below hb p.lt; replace r := r.below hb r.lt; clear hb))
 rw [zero_vec]
 have s := blk.new w1 (vfn fun _ => 0) 27
 have hne1 : w.heap.size + 1 < w1.heap.size := r.lt
 replace p := p.alloc (.cells (vfn fun _ => 0) 27)
 replace r := r.alloc (.cells (vfn fun _ => 0) 27)
 replace hB := hB.alloc hB.size (.cells (vfn fun _ => 0) 27)
 generalize w1.alloc (.cells (vfn fun _ => 0) 27) = w2 at *
 generalize w1.heap.size = b6 at *
 go_wp2_with (fail)
 go_loopg [7] 3 (fun g iv wr => ∃ k : Nat, g + k = 3 ∧ iv = .int .i64 k ∧ Hid (∀ j, j < k → er j = 0) ∧ blk wr w.heap.size (vfn f) 27 ∧ blk wr (w.heap.size + 1) (vfn fun _ => 0) 27 ∧ blk wr b6 (vfn (pre3 x k)) 27 ∧ Below w.heap.size w wr)
 case atStart => exact ⟨0, rfl, rfl, fun j hj => by omega, p, r, by rw [show vfn (pre3 x 0) = vfn (fun _ => 0) from vfn_congr fun i _ => by simp [pre3]]; exact s, hB⟩
 case round =>
  clear p r s hB
  obtain ⟨k, hk, rfl, hall, p, r, s, hB⟩ := hrel
  by_cases hkn : k < 3
  ·have hdk : decide ((k : Int) < 3) = true := decide_eq_true (by omega)
   have hdk' : decide (k < 3) = true := decide_eq_true (by omega)
   have hw3 : IntKind.i64.wrap ((k : Int) + 1) = ((k + 1 : Nat) : Int) := by rw [IntKind.wrap_i64]; omega
   have HC := Lib.hid (M2.out k hkn)
   have ck : wr.cell? ⟨w.heap.size, k, none⟩ = some (.int .i64 (f k)) := p.cellIs (vfn_get f hkn)
   by_cases he : er k = 0
   ·have de : (er k != 0) = false := by simp [he]
    have HE := Lib.hid he
    clear he
    go_upto_region 8 with (go_at_call 90; refine (HC.out _).mono ?_; rintro e w3 ⟨rfl, hb⟩; replace hB := hB.trans (hb.mono hB.size); replace p := p.below hb p.lt; replace r := r.below hb r.lt; replace s := s.below hb s.lt; clear hb)
    have fz : w3.frozen? ⟨b6, k, none⟩ = false := s.free _
    have cz : w3.cell? ⟨b6, k, none⟩ = some (.int .i64 (pre3 x k k)) := s.cellIs (vfn_get _ hkn)
    go_wp2_with (fail)
    go_roundg (3 - (k + 1))
    case rel =>
     refine ⟨k + 1, by omega, rfl, fun j hj => ?_, p.setOther (by simp; omega) _, r.setOther (by simp; omega) _, s.set' (vfn_set hkn ?_ ?_), hB.setCell (by simp; omega) _⟩
     ·by_cases e : j = k
      ·subst e; exact HE.out
      ·exact hall.out j (by omega)
     ·simp [pre3]
     ·intro j hj hne; simp only [pre3]; split <;> split <;> first | rfl | omega
    case measure => omega
   ·have de : (er k != 0) = true := by simpa using he
    have HG := Lib.hid (good_bad (x := x) hkn he)
    clear he
    go_wp2_with (first
     | (go_at_call 90; refine (HC.out _).mono ?_; rintro e w3 ⟨rfl, hb⟩; replace hB := hB.trans (hb.mono hB.size); replace r := r.below hb r.lt; clear hb)
     | (rw [zero_vec]; refine wpList_store_row rfl _ _ _ rfl _ rfl _ rfl _ _ r (by rw [vfn_size]; kernel_rfl) (by simp only [vfn_size]) (vfn_one _) ?_))
    refine bodyPost_ret (results_vec rfl _ _ _ _ _ _ _ rfl (r.row (vfn (fun _ => 0))) Tryz.underlying27 rfl (by rw [vfn_size]; kernel_rfl)) rfl ?_; refine ⟨?_, Below.setRow hB (by omega) _⟩
    rw [HFE.out.1, HFE.out.2, HG.out.1, HG.out.2]; rfl
  ·obtain rfl : k = 3 := by omega
   have e3 : vfn (pre3 x 3) = vfn x := vfn_congr fun i hi => by simp [pre3, hi]
   rw [e3] at s
   have HG := Lib.hid (good_all (x := x) hall.out)
   have RS := Lib.hid (fun w => result_any x w)
   rw [← HG.out.1, ← HG.out.2, ← HFE.out.1, ← HFE.out.2] at RS
   go_wp2_with (first
    | (refine wpList_load_rowG ?hw _ _ rfl _ rfl _ _ _ _ s Tryz.underlying27 rfl ?hi ?_; (case hw => (first | rfl | (simp [Region.wanted, yielded]; done))); (case hi => (rw [vfn_size]; kernel_rfl)))
    | (go_at_call 91; refine (RS.out _).mono ?_; rintro e w3 ⟨rfl, hb⟩; replace hB := hB.trans (hb.mono hB.size); replace r := r.below hb r.lt; clear hb)
    | (refine wpList_store_row rfl _ _ _ rfl _ rfl _ rfl _ _ r (by rw [vfn_size]; kernel_rfl) (by simp only [vfn_size]) (vfn_one _) ?_))
   refine bodyPost_ret (results_vec rfl _ _ _ _ _ _ _ rfl (r.row (vfn F)) Tryz.underlying27 rfl (by rw [vfn_size]; kernel_rfl)) rfl ?_; refine ⟨?_, Below.setRow hB (by omega) _⟩
   rfl
end Go.Proofs.YtkmelddejdikgaaGreat
