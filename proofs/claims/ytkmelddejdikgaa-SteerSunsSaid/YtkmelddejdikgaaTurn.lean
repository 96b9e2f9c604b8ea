/-
  Unit quaternions: the greatest component. Unit quaternions, in the package and in the specification. Turned attitudes, in the package: Turn.
-/
import Derived.Test.YtkmelddejdikgaaShift
import Derived.Test.YtkmelddejdikgaaQuatD
import Derived.Test.YtkmelddejdikgaaQEq
import Derived.Test.YtkmelddejdikgaaVecG
set_option linter.unusedSimpArgs false
set_option linter.unusedVariables false
namespace Go.Proofs.Ytkmelddejdikgaa
open Go.RowKit PM Dt
def lrg (f : Nat → Int) : Int := [-f 0, f 1, -f 1, f 2, -f 2, f 3, -f 3].foldl mx (f 0)
theorem lrg_lt (f : Nat → Int) : decide (lrg f < 35184372088832) = sml 4 f := by
  have h1 : (lrg f < 35184372088832) ↔ sml 4 f = true := by
    unfold lrg
    rw [mx_lt, sml_iff]
    simp only [List.mem_cons, List.not_mem_nil, or_false, forall_eq_or_imp, forall_eq]
    constructor
    · rintro ⟨a, b, c, d, e, g, h, i⟩ j hj
      rw [sm_iff]
      have : j = 0 ∨ j = 1 ∨ j = 2 ∨ j = 3 := by omega
      rcases this with rfl | rfl | rfl | rfl <;> omega
    · intro h
      have h0 := (sm_iff _).1 (h 0 (by omega))
      have h1 := (sm_iff _).1 (h 1 (by omega))
      have h2 := (sm_iff _).1 (h 2 (by omega))
      have h3 := (sm_iff _).1 (h 3 (by omega))
      omega
  cases hb : sml 4 f with
  | true => exact decide_eq_true (h1.2 hb)
  | false => exact decide_eq_false fun hc => by rw [h1.1 hc] at hb; cases hb
set_option maxRecDepth 100000 in
set_option maxHeartbeats 2000000 in
theorem largest_any (f : Nat → Int) (w : World) (h : upb 4 f) : Calls Try.prog 125 #[.agg (qfn f)] w fun e w' => e = .returned (.int .i64 (lrg f)) ∧ Below w.heap.size w w' := by
  have n0 : wrap64 (-f 0) = -f 0 := by have := h 0 (by omega); unfold wrap64; omega
  have n1 : wrap64 (-f 1) = -f 1 := by have := h 1 (by omega); unfold wrap64; omega
  have n2 : wrap64 (-f 2) = -f 2 := by have := h 2 (by omega); unfold wrap64; omega
  have n3 : wrap64 (-f 3) = -f 3 := by have := h 3 (by omega); unfold wrap64; omega
  have hM : Hid ([wrap64 (-f 0), f 1, wrap64 (-f 1), f 2, wrap64 (-f 2), f 3, wrap64 (-f 3)].foldl mx (f 0) = lrg f) := by show _ = _; rw [n0, n1, n2, n3]; rfl
  generalize lrg f = M at *
  clear h
  go_enter Try.func125, Try.ntmps125
  go_upto_region 1 with (fail)
  have p : blk (w.alloc (.cells (qfn f) 23)) w.heap.size (qfn f) 23 := blk.new _ _ _
  have hB : Below w.heap.size w (w.alloc (.cells (qfn f) 23)) := by go_grown
  generalize w.alloc (.cells (qfn f) 23) = w0 at *
  have c0 : w0.cell? ⟨w.heap.size, 0, none⟩ = some (.int .i64 (f 0)) := p.cellIs (qfn_get f (by omega))
  have c1 : w0.cell? ⟨w.heap.size, 1, none⟩ = some (.int .i64 (f 1)) := p.cellIs (qfn_get f (by omega))
  have c2 : w0.cell? ⟨w.heap.size, 2, none⟩ = some (.int .i64 (f 2)) := p.cellIs (qfn_get f (by omega))
  have c3 : w0.cell? ⟨w.heap.size, 3, none⟩ = some (.int .i64 (f 3)) := p.cellIs (qfn_get f (by omega))
  go_wp2_with (refine wpList_max rfl rfl _ _ _ hM.out rfl ?_)
  go_ret
  exact ⟨rfl, hB⟩
end Go.Proofs.Ytkmelddejdikgaa
namespace Go.Proofs.Ytkmelddejdikgaa
open Go.RowKit PM Dt
def zQ (f : Nat → Int) : Bool := (List.range 4).all fun j => f j == 0
theorem zQ_no {f : Nat → Int} (h : zQ f = false) : low 4 45 f := by
  have : ∃ j, j < 4 ∧ f j ≠ 0 := by
    apply Classical.byContradiction
    intro hn
    have : zQ f = true := by
      unfold zQ; rw [List.all_eq_true]
      intro j hj
      have hj := List.mem_range.1 hj
      exact beq_iff_eq.2 (Classical.byContradiction fun hc => hn ⟨j, hj, hc⟩)
    rw [h] at this; cases this
  obtain ⟨j, hj, hz⟩ := this
  exact low_start hj hz
theorem ok_upb {f : Nat → Int} (h : okQ f = true) : upb 4 f := fun i hi => by
  have := (vb_iff _).1 ((okQ_iff f).1 h i hi)
  omega
def uN (f : Nat → Int) : Int := fitV (nQ (shft 4 45 f))
def uX (f : Nat → Int) (i : Nat) : Int := ratioV (shft 4 45 f i) 1073741824 (uN f)
def qunF (f : Nat → Int) : Nat → Int := if okQ f then (if zQ f then fun _ => 0 else uX f) else fun _ => 0
def qunE (f : Nat → Int) : Int := if okQ f then (if zQ f then 4 else 0) else 2
theorem quat_eq0 (f : Nat → Int) (w : World) : (Op.equalIn 10000 23 (.agg (qfn f)) (.agg #[.int .i64 0, .int .i64 0, .int .i64 0, .int .i64 0])).run Try.prog w = .ok (zQ f) w := by
  rw [zero_quat]
  obtain ⟨i, hi⟩ : ∃ i, Try.prog.info? 2 = some i := Option.isSome_iff_exists.1 (by kernel_rfl)
  have hc : Try.prog.cellsOf 2 = 1 := by kernel_rfl
  exact run_equalIn_ints (P := Try.prog) Try.underlying23 hi hc Try.underlying2 f (fun _ => 0) (qfn f) (qfn fun _ => 0) (fun j hj => qfn_get _ hj) (fun j hj => qfn_get _ hj) 9998 w
set_option maxRecDepth 100000 in
theorem unitC_any (F : Nat → Int) (N : Int) (b c : Nat) (t : TypeId) (w : World) (hF : upb 4 F) (hN : I64 N) (p : blk w b (qfn F) 23) (q : blk w c #[.int .i64 N] t) (i : Nat) (hi : i < 4) :
    Calls Try.prog 126 #[.int .i64 i, .pointer (some ⟨b, 0, none⟩), .pointer (some ⟨c, 0, none⟩)] w fun e w' => e = .returned (.tuple #[.int .i64 (ratioV (F i) 1073741824 N), .int .i64 (ratioE (F i) 1073741824 N)]) ∧ Below w.heap.size w w' := by
  have R := Lib.hid (fun w => ratio_any (F i) 1073741824 N w (upb_I hF i hi) ⟨by decide, by decide⟩ hN)
  generalize ratioV (F i) 1073741824 N = V at *
  generalize ratioE (F i) 1073741824 N = E at *
  have hdk : decide ((i : Int) < 4) = true := decide_eq_true (by omega)
  have hdk' : decide (i < 4) = true := decide_eq_true hi
  have hi3 : (i : Int) < 4 := by omega
  clear hF hN
  go_enter Try.func126, Try.ntmps126
  go_upto_region 1 with (fail)
  have hB : More w w := Below.refl _ _
  refine wp_region_Y 99 9 rfl (by kernel_rfl) ?_
  replace p := p.drew
  replace q := q.drew
  replace hB : More w w.drew := hB.drew
  generalize w.drew = wo at *
  refine wpY_takeB 0 (.int .i64 i) rfl rfl (by kernel_rfl) (fun w1 => by go_simp; exact ⟨rfl, Below.refl _ _⟩) ?_
  simp only [Act.put, sIT, sCZ, sCS]
  refine wpY_takeB 1 (.pointer (some ⟨b, i, none⟩)) rfl rfl (by kernel_rfl) (fun w1 => by go_simp; first | exact ⟨rfl, Below.refl _ _⟩ | (rw [if_pos hi3]; exact ⟨rfl, Below.refl _ _⟩)) ?_
  simp only [Act.put, sIT, sCZ, sCS]
  refine wpY_takeA 2 (.int .i64 (F i)) rfl rfl (by kernel_rfl) (by kernel_rfl) (fun w1 h1 => by have hc : w1.cell? ⟨b, i, none⟩ = some (.int .i64 (F i)) := (p.below h1 p.lt).cellIs (qfn_get _ hi); go_simp; exact ⟨rfl, Below.refl _ _⟩) ?_
  simp only [Act.put, sIT, sCZ, sCS]
  refine wpY_takeA 3 (.int .i64 N) rfl rfl (by kernel_rfl) (by kernel_rfl) (fun w1 h1 => by have hc : w1.cell? ⟨c, 0, none⟩ = some (.int .i64 N) := (q.below h1 q.lt).cellIs rfl; go_simp; exact ⟨rfl, Below.refl _ _⟩) ?_
  simp only [Act.put, sIT, sCZ, sCS]
  refine wpY_takeA 4 (.tuple #[.int .i64 V, .int .i64 E]) rfl rfl (by kernel_rfl) (by kernel_rfl) (fun w1 h1 => ?_) ?_
  · go_simp
    refine (R.out _).mono ?_
    rintro e w2 ⟨rfl, h2⟩
    exact ⟨rfl, h2⟩
  simp only [Act.put, sIT, sCZ, sCS]
  refine wpY_takeB 5 (.int .i64 V) rfl rfl (by kernel_rfl) (fun w1 => by go_simp; exact ⟨rfl, Below.refl _ _⟩) ?_
  simp only [Act.put, sIT, sCZ, sCS]
  refine wpY_takeB 6 (.int .i64 E) rfl rfl (by kernel_rfl) (fun w1 => by go_simp; exact ⟨rfl, Below.refl _ _⟩) ?_
  simp only [Act.put, sIT, sCZ, sCS]
  refine wpY_takeB 7 (.int .i64 V) rfl rfl (by kernel_rfl) (fun w1 => by go_simp; exact ⟨rfl, Below.refl _ _⟩) ?_
  simp only [Act.put, sIT, sCZ, sCS]
  refine wpY_takeB 8 (.int .i64 E) rfl rfl (by kernel_rfl) (fun w1 => by go_simp; exact ⟨rfl, Below.refl _ _⟩) ?_
  simp only [Act.put, sIT, sCZ, sCS]
  refine wpY_end (by kernel_rfl) (fun w3 h3 => ?_)
  replace hB := More.trans hB h3
  go_wp2_with (fail)
  go_ret2
  exact ⟨rfl, hB⟩
set_option maxRecDepth 100000 in
set_option maxHeartbeats 2000000 in
theorem quadU_any (x er : Nat → Int) (c1 c2 : Value) (w : World)
    (hf : Hid (∀ i : Nat, i < 4 → ∀ w1, Below w.heap.size w w1 → Calls Try.prog 126 #[.int .i64 i, c1, c2] w1 fun e w' => e = .returned (.tuple #[.int .i64 (x i), .int .i64 (er i)]) ∧ Below w1.heap.size w1 w')) :
    Calls Try.prog 96 #[.func (.func 126) #[] #[c1, c2]] w fun e w' => e = .returned (.agg (qfn x)) ∧ Below w.heap.size w w' := by
  go_enter Try.func96, Try.ntmps96
  go_upto_region 2 with (fail)
  rw [zero_quat]
  have p : blk ((w.alloc (.cells (qfn fun _ => 0) 23)).alloc (.cells (qfn fun _ => 0) 23)) w.heap.size (qfn fun _ => 0) 23 := (blk.new _ _ _).alloc _
  have q : blk ((w.alloc (.cells (qfn fun _ => 0) 23)).alloc (.cells (qfn fun _ => 0) 23)) (w.heap.size + 1) (qfn fun _ => 0) 23 := blk.new' (by simp)
  have hB : Below w.heap.size w ((w.alloc (.cells (qfn fun _ => 0) 23)).alloc (.cells (qfn fun _ => 0) 23)) := by go_grown
  generalize (w.alloc (.cells (qfn fun _ => 0) 23)).alloc (.cells (qfn fun _ => 0) 23) = w0 at *
  go_wp2_with (fail)
  go_loopg [5] 4 (fun g iv wr => ∃ k : Nat, g + k = 4 ∧ iv = .int .i64 k ∧ blk wr w.heap.size (qfn fun _ => 0) 23 ∧ blk wr (w.heap.size + 1) (qfn (pre4 x k)) 23 ∧ Below w.heap.size w wr)
  case atStart => exact ⟨0, rfl, rfl, p, by rw [show qfn (pre4 x 0) = qfn (fun _ => 0) from qfn_congr fun i _ => by simp [pre4]]; exact q, hB⟩
  case round =>
    clear p q hB
    obtain ⟨k, hk, rfl, p, q, hB⟩ := hrel
    by_cases hkn : k < 4
    · have hdk : decide ((k : Int) < 4) = true := decide_eq_true (by omega)
      have hdk' : decide (k < 4) = true := decide_eq_true (by omega)
      have hw3 : IntKind.i64.wrap ((k : Int) + 1) = ((k + 1 : Nat) : Int) := by rw [IntKind.wrap_i64]; omega
      have HC := Lib.hid (hf.out k hkn)
      have hi4 : (k : Int) < 4 := by omega
      go_wp2_with (go_at_call 126; refine (HC.out _ hB).mono ?_; rintro e w1 ⟨rfl, hb⟩; replace hB := hB.trans (hb.mono hB.size); replace p := p.below hb p.lt; replace q := q.below hb q.lt; clear hb; have fz : w1.frozen? ⟨w.heap.size + 1, k, none⟩ = false := q.free _; have cz : w1.cell? ⟨w.heap.size + 1, k, none⟩ = some (.int .i64 (pre4 x k k)) := q.cellIs (qfn_get _ hkn))
      go_roundg (4 - (k + 1))
      case rel =>
        refine ⟨k + 1, by omega, rfl, p.setOther (by simp) _, q.set' (qfn_set hkn ?_ ?_), hB.setCell (by simp) _⟩
        · simp [pre4]
        · intro j hj hne; simp only [pre4]; split <;> split <;> first | rfl | omega
      case measure => omega
    · obtain rfl : k = 4 := by omega
      have e4 : qfn (pre4 x 4) = qfn x := qfn_congr fun i hi => by simp [pre4, hi]
      rw [e4] at q
      go_wp2_with (first | (refine wpList_load_rowG ?hw _ _ rfl _ rfl _ _ _ _ q Try.underlying23 rfl ?hi ?_; (case hw => (first | rfl | (simp [Region.wanted, yielded]; done))); (case hi => (rw [qfn_size]; kernel_rfl))) | (refine wpList_store_row rfl _ _ _ rfl _ rfl _ rfl _ _ p (by rw [qfn_size]; kernel_rfl) (by simp only [qfn_size]) (qfn_one _) ?_))
      refine bodyPost_ret (results_cell_row rfl _ _ _ _ _ _ _ rfl (p.row (qfn x)) Try.underlying23 rfl (by rw [qfn_size]; kernel_rfl)) rfl ?_; refine ⟨?_, Below.setRow hB (by omega) _⟩
      rfl
set_option maxRecDepth 100000 in
set_option maxHeartbeats 800000 in
theorem qunit_any (f : Nat → Int) (w : World) : Calls Try.prog 63 #[.agg (qfn f)] w fun e w' => e = .returned (.tuple #[.agg (qfn (qunF f)), .int .i64 (qunE f)]) ∧ Below w.heap.size w w' := by
  have V := Lib.hid (fun w => bounded_any f w)
  have EQ0 := quat_eq0 f
  unfold qunF qunE
  obtain ⟨X, hX⟩ : ∃ X, uX f = X := ⟨_, rfl⟩
  rw [hX]
  have HX := Lib.hid hX
  clear hX
  obtain ⟨bk, hk⟩ : ∃ b, okQ f = b := ⟨_, rfl⟩
  obtain ⟨bz, hz⟩ : ∃ b, zQ f = b := ⟨_, rfl⟩
  rw [hk] at V ⊢
  rw [hz] at EQ0 ⊢
  have HK := Lib.hid hk
  have HZ := Lib.hid hz
  clear hk hz
  go_enter Try.func63, Try.ntmps63
  go_upto_region 1 with (fail)
  rw [zero_quat]
  have p : blk ((w.alloc (.cells (qfn f) 23)).alloc (.cells (qfn fun _ => 0) 23)) w.heap.size (qfn f) 23 := (blk.new _ _ _).alloc _
  have r : blk ((w.alloc (.cells (qfn f) 23)).alloc (.cells (qfn fun _ => 0) 23)) (w.heap.size + 1) (qfn fun _ => 0) 23 := blk.new' (by simp)
  have hB : Below w.heap.size w ((w.alloc (.cells (qfn f) 23)).alloc (.cells (qfn fun _ => 0) 23)) := by go_grown
  generalize (w.alloc (.cells (qfn f) 23)).alloc (.cells (qfn fun _ => 0) 23) = w0 at *
  cases bk
  · go_wp2_with (first | (refine wpList_load_rowG ?hw _ _ rfl _ rfl _ _ _ _ p Try.underlying23 rfl ?hi ?_; (case hw => (first | rfl | (simp [Region.wanted, yielded]; done))); (case hi => (rw [qfn_size]; kernel_rfl))) | (go_at_call 124; with_reducible refine (V.out _).mono ?_; rintro e w1 ⟨rfl, hb⟩; replace hB := hB.trans (hb.mono hB.size); replace p := p.below hb p.lt; replace r := r.below hb r.lt; clear hb) | (rw [zero_quat]; refine wpList_store_row rfl _ _ _ rfl _ rfl _ rfl _ _ r (by rw [qfn_size]; kernel_rfl) (by simp only [qfn_size]) (qfn_one _) ?_))
    refine bodyPost_ret (results_vec rfl _ _ _ _ _ _ _ rfl (r.row (qfn (fun _ => 0))) Try.underlying23 rfl (by rw [qfn_size]; kernel_rfl)) rfl ?_; refine ⟨?_, Below.setRow hB (by omega) _⟩
    rfl
  cases bz
  case true =>
    go_wp2_with (first | (refine wpList_load_rowG ?hw _ _ rfl _ rfl _ _ _ _ p Try.underlying23 rfl ?hi ?_; (case hw => (first | rfl | (simp [Region.wanted, yielded]; done))); (case hi => (rw [qfn_size]; kernel_rfl))) | (go_at_call 124; with_reducible refine (V.out _).mono ?_; rintro e w1 ⟨rfl, hb⟩; replace hB := hB.trans (hb.mono hB.size); replace p := p.below hb p.lt; replace r := r.below hb r.lt; clear hb) | (rw [zero_quat]; refine wpList_store_row rfl _ _ _ rfl _ rfl _ rfl _ _ r (by rw [qfn_size]; kernel_rfl) (by simp only [qfn_size]) (qfn_one _) ?_))
    refine bodyPost_ret (results_vec rfl _ _ _ _ _ _ _ rfl (r.row (qfn (fun _ => 0))) Try.underlying23 rfl (by rw [qfn_size]; kernel_rfl)) rfl ?_; refine ⟨?_, Below.setRow hB (by omega) _⟩
    rfl
  have HL := Lib.hid (zQ_no HZ.out)
  have HU := Lib.hid (ok_upb HK.out)
  obtain ⟨F, hF⟩ : ∃ F, shft 4 45 f = F := ⟨_, rfl⟩
  have HF := Lib.hid hF
  clear hF
  go_wp2_with (first | (refine wpList_load_rowG ?hw _ _ rfl _ rfl _ _ _ _ p Try.underlying23 rfl ?hi ?_; (case hw => (first | rfl | (simp [Region.wanted, yielded]; done))); (case hi => (rw [qfn_size]; kernel_rfl))) | (go_at_call 124; with_reducible refine (V.out _).mono ?_; rintro e w1 ⟨rfl, hb⟩; replace hB := hB.trans (hb.mono hB.size); replace p := p.below hb p.lt; replace r := r.below hb r.lt; clear hb))
  go_loopg [] 45 (fun k_ wr => ∃ (k : Nat) (h : Nat → Int), k = k_ ∧ Hid (low 4 k h) ∧ Hid (upb 4 h) ∧ Hid (shft 4 k h = F) ∧ blk wr w.heap.size (qfn h) 23 ∧ blk wr (w.heap.size + 1) (qfn fun _ => 0) 23 ∧ Below w.heap.size w wr)
  case atStart => exact ⟨45, f, rfl, HL, HU, HF, p, r, hB⟩
  case round =>
    clear p r hB HL HU
    obtain ⟨k, h, hk_, hlow, hupb, hF, p, r, hB⟩ := hrel
    have LG := Lib.hid (fun w => largest_any h w hupb.out)
    have lt := lrg_lt h
    generalize lrg h = M at *
    obtain ⟨bs, hs⟩ : ∃ b, sml 4 h = b := ⟨_, rfl⟩
    rw [hs] at lt
    have HS := Lib.hid hs
    clear hs
    cases bs
    · -- it is great enough
      have e : Hid (h = F) := (shft_big HS.out).symm.trans hF.out
      obtain rfl : h = F := e.out
      have HN := Lib.hid (fun b w t p => hyp4_any h b w t (fun i hi => upb_I hupb.out i hi) p)
      have hnI := fitV_I (nQ h)
      have HX2 : Hid (X = fun i => ratioV (h i) 1073741824 (fitV (nQ h))) := by show _ = _; rw [← HX.out]; unfold uX uN; rw [HF.out]
      generalize fitV (nQ h) = N at *
      generalize fitE (nQ h) = E at *
      go_upto_region 12 with (first | (refine wpList_load_rowG ?hw _ _ rfl _ rfl _ _ _ _ p Try.underlying23 rfl ?hi ?_; (case hw => (first | rfl | (simp [Region.wanted, yielded]; done))); (case hi => (rw [qfn_size]; kernel_rfl))) | (go_at_call 125; with_reducible refine (LG.out _).mono ?_; rintro e w2 ⟨rfl, hb⟩; replace hB := hB.trans (hb.mono hB.size); replace p := p.below hb p.lt; replace r := r.below hb r.lt; clear hb) | (go_at_call 80; refine (HN.out _ _ _ p).mono ?_; rintro e w3 ⟨rfl, rfl⟩))
      have n1 := blk.new w2 #[.int .i64 N] 2
      replace p := p.alloc (.cells #[.int .i64 N] 2)
      replace r := r.alloc (.cells #[.int .i64 N] 2)
      replace hB := hB.alloc hB.size (.cells #[.int .i64 N] 2)
      generalize w2.alloc (.cells #[.int .i64 N] 2) = w4 at *
      generalize w2.heap.size = nb at *
      go_wp2_with (first
        | (go_at_call 96; refine (quadU_any (fun i => ratioV (h i) 1073741824 N) (fun i => ratioE (h i) 1073741824 N) _ _ _ (fun i hi wx hx => unitC_any h N _ _ _ wx hupb.out hnI (p.below hx p.lt) (n1.below hx n1.lt) i hi)).mono ?_; rintro e w5 ⟨rfl, hb⟩; rw [← HX2.out]; replace hB := hB.trans (hb.mono hB.size); replace r := r.below hb r.lt; clear hb)
        | (refine wpList_store_row rfl _ _ _ rfl _ rfl _ rfl _ _ r (by rw [qfn_size]; kernel_rfl) (by simp only [qfn_size]) (qfn_one _) ?_))
      refine bodyPost_ret (results_vec rfl _ _ _ _ _ _ _ rfl (r.row (qfn X)) Try.underlying23 rfl (by rw [qfn_size]; kernel_rfl)) rfl ?_; refine ⟨?_, Below.setRow hB (by omega) _⟩
      rfl
    · obtain ⟨m, rfl⟩ : ∃ m, k = m + 1 := by
        cases k with
        | zero => have := low_zero hlow.out; rw [HS.out] at this; cases this
        | succ m => exact ⟨m, rfl⟩
      go_wp2_with (first | (refine wpList_load_rowG ?hw _ _ rfl _ rfl _ _ _ _ p Try.underlying23 rfl ?hi ?_; (case hw => (first | rfl | (simp [Region.wanted, yielded]; done))); (case hi => (rw [qfn_size]; kernel_rfl))) | (go_at_call 125; with_reducible refine (LG.out _).mono ?_; rintro e w2 ⟨rfl, hb⟩; replace hB := hB.trans (hb.mono hB.size); replace p := p.below hb p.lt; replace r := r.below hb r.lt; clear hb))
      go_loopg [20] 4 (fun g3 iv wi => ∃ j : Nat, g3 + j = 4 ∧ iv = .int .i64 j ∧ blk wi w.heap.size (qfn (fun q => if q < j then 2 * h q else h q)) 23 ∧ blk wi (w.heap.size + 1) (qfn fun _ => 0) 23 ∧ Below w.heap.size w wi)
      case atStart => exact ⟨0, by omega, rfl, by rw [show qfn (fun q => if q < 0 then 2 * h q else h q) = qfn h from qfn_congr fun q _ => by simp]; exact p, r, hB⟩
      case round =>
        clear p r hB
        obtain ⟨j, hj, rfl, p, r, hB⟩ := hrel
        by_cases hjn : j < 4
        · have hdk : decide ((j : Int) < 4) = true := decide_eq_true (by omega)
          have hdk' : decide (j < 4) = true := decide_eq_true hjn
          have hjn' : (j : Int) < 4 := by omega
          have hw3 : IntKind.i64.wrap ((j : Int) + 1) = ((j + 1 : Nat) : Int) := by rw [IntKind.wrap_i64]; omega
          have hw2 : IntKind.i64.wrap (h j * 2) = 2 * h j := by have := hupb.out j hjn; rw [IntKind.wrap_i64]; omega
          have ck : wr.cell? ⟨w.heap.size, j, none⟩ = some (.int .i64 (h j)) := (p.cellIs (qfn_get _ hjn)).trans (by simp)
          have fz : wr.frozen? ⟨w.heap.size, j, none⟩ = false := p.free _
          go_wp2_with (fail)
          go_roundg (4 - (j + 1))
          case rel =>
            refine ⟨j + 1, by omega, rfl, p.set' (qfn_set hjn (by simp) (fun q hq hne => ?_)), r.setOther (by simp) _, hB.setCell (by simp) _⟩
            have : (q < j + 1) = (q < j) := propext (by omega)
            simp only [this]
          case measure => omega
        · obtain rfl : j = 4 := by omega
          have e4 : qfn (fun q => if q < 4 then 2 * h q else h q) = qfn (dbl h) := qfn_congr fun q hq => by simp [hq, dbl]
          rw [e4] at p
          go_wp2_with (fail)
          go_roundg m
          case rel => exact ⟨m, dbl h, rfl, low_step hlow.out, upb_step HS.out, (shft_step HS.out).symm.trans hF.out, p, r, hB⟩
          case measure => omega
end Go.Proofs.Ytkmelddejdikgaa
namespace Go.Proofs.Ytkmelddejdikgaa
open Go.RowKit PM Dt
def lrgW (f : Nat → Int) : Int := [wrap64 (-f 0), f 1, wrap64 (-f 1), f 2, wrap64 (-f 2), f 3, wrap64 (-f 3)].foldl mx (f 0)
theorem mx_gt {c : Int} (xs : List Int) (x : Int) : (c < xs.foldl mx x) ↔ (c < x ∨ ∃ y ∈ xs, c < y) := by
  have h := mx_lt (c := c + 1) xs x
  constructor
  · intro hc
    apply Classical.byContradiction; intro hn
    have : xs.foldl mx x < c + 1 := h.2 ⟨by
      apply Classical.byContradiction; intro h1; exact hn (.inl (by omega)), fun y hy => by
      apply Classical.byContradiction; intro h1; exact hn (.inr ⟨y, hy, by omega⟩)⟩
    omega
  · intro hc
    apply Classical.byContradiction; intro hn
    obtain ⟨h1, h2⟩ := h.1 (by omega)
    rcases hc with hc | ⟨y, hy, hc⟩
    · omega
    · have := h2 y hy; omega
def rq (g : Nat → Int) : Nat → Int := fun i => if i = 0 then 1073741824 else if i = 1 then g 0 else if i = 2 then g 1 else g 2
theorem rq_cells (g : Nat → Int) : #[.int .i64 1073741824, .int .i64 (g 0), .int .i64 (g 1), .int .i64 (g 2)] = qfn (rq g) := by unfold qfn; rfl
theorem turn_test (g : Nat → Int) (hI : ∀ i, i < 3 → I64 (g i)) : (decide (1073741824 < lrgW (rq g)) = false ∧ okQ (rq g) = true) ↔ smallB g 1073741824 = true := by
  have e0 : rq g 0 = 1073741824 := rfl
  have e1 : rq g 1 = g 0 := rfl
  have e2 : rq g 2 = g 1 := rfl
  have e3 : rq g 3 = g 2 := rfl
  have i0 := hI 0 (by omega)
  have i1 := hI 1 (by omega)
  have i2 := hI 2 (by omega)
  unfold I64 at i0 i1 i2
  have hl : decide (1073741824 < lrgW (rq g)) = false ↔ (wrap64 (-g 0) ≤ 1073741824 ∧ g 0 ≤ 1073741824 ∧ wrap64 (-g 1) ≤ 1073741824 ∧ g 1 ≤ 1073741824 ∧ wrap64 (-g 2) ≤ 1073741824 ∧ g 2 ≤ 1073741824) := by
    rw [decide_eq_false_iff_not]
    unfold lrgW
    rw [mx_gt, e0, e1, e2, e3]
    simp only [List.mem_cons, List.not_mem_nil, or_false, exists_eq_or_imp, exists_eq_left]
    have : wrap64 (-1073741824) = -1073741824 := by unfold wrap64; omega
    rw [this]
    omega
  have hs : smallB g 1073741824 = true ↔ (-1073741824 ≤ g 0 ∧ g 0 ≤ 1073741824 ∧ -1073741824 ≤ g 1 ∧ g 1 ≤ 1073741824 ∧ -1073741824 ≤ g 2 ∧ g 2 ≤ 1073741824) := by
    unfold smallB sb
    simp only [Bool.and_eq_true, decide_eq_true_eq]
    omega
  have hk : okQ (rq g) = true ↔ (-1099511627776 ≤ g 0 ∧ g 0 ≤ 1099511627776 ∧ -1099511627776 ≤ g 1 ∧ g 1 ≤ 1099511627776 ∧ -1099511627776 ≤ g 2 ∧ g 2 ≤ 1099511627776) := by
    unfold okQ vb
    rw [e0, e1, e2, e3]
    simp only [Bool.and_eq_true, decide_eq_true_eq]
    omega
  rw [hl, hs, hk]
  unfold wrap64
  omega
def turnOk (f g : Nat → Int) : Bool := validQ f && smallB g 1073741824
def turnF (f g : Nat → Int) : Nat → Int := if turnOk f g then qunF (qprodF f (rq g)) else fun _ => 0
def turnE (f g : Nat → Int) : Int := if turnOk f g then qunE (qprodF f (rq g)) else 2
def turn3 (a b c : Bool) : Bool := a && (!b && c)
theorem turnOk_eq (f g : Nat → Int) (hI : ∀ i, i < 3 → I64 (g i)) : turnOk f g = turn3 (validQ f) (decide (1073741824 < lrgW (rq g))) (okQ (rq g)) := by
  have h := turn_test g hI
  unfold turnOk turn3
  congr 1
  cases h1 : decide (1073741824 < lrgW (rq g)) <;> cases h2 : okQ (rq g) <;> cases h3 : smallB g 1073741824 <;> simp_all
set_option maxRecDepth 100000 in
set_option maxHeartbeats 2000000 in
theorem largestW_any (f : Nat → Int) (w : World) : Calls Try.prog 125 #[.agg (qfn f)] w fun e w' => e = .returned (.int .i64 (lrgW f)) ∧ Below w.heap.size w w' := by
  have hM : Hid ([wrap64 (-f 0), f 1, wrap64 (-f 1), f 2, wrap64 (-f 2), f 3, wrap64 (-f 3)].foldl mx (f 0) = lrgW f) := Lib.hid rfl
  generalize lrgW f = M at *
  go_enter Try.func125, Try.ntmps125
  go_upto_region 1 with (fail)
  have p : blk (w.alloc (.cells (qfn f) 23)) w.heap.size (qfn f) 23 := blk.new _ _ _
  have hB : Below w.heap.size w (w.alloc (.cells (qfn f) 23)) := by go_grown
  generalize (w.alloc (.cells (qfn f) 23)) = w0 at *
  have c0 : w0.cell? ⟨w.heap.size, 0, none⟩ = some (.int .i64 (f 0)) := p.cellIs (qfn_get _ (by omega))
  have c1 : w0.cell? ⟨w.heap.size, 1, none⟩ = some (.int .i64 (f 1)) := p.cellIs (qfn_get _ (by omega))
  have c2 : w0.cell? ⟨w.heap.size, 2, none⟩ = some (.int .i64 (f 2)) := p.cellIs (qfn_get _ (by omega))
  have c3 : w0.cell? ⟨w.heap.size, 3, none⟩ = some (.int .i64 (f 3)) := p.cellIs (qfn_get _ (by omega))
  go_wp2_with (refine wpList_max rfl rfl _ _ _ hM.out rfl ?_)
  go_ret
  exact ⟨rfl, hB⟩
set_option maxRecDepth 100000 in
set_option maxHeartbeats 2000000 in
theorem turn_any (f g : Nat → Int) (w : World) (hf : ∀ i, i < 4 → I64 (f i)) (hg : ∀ i, i < 3 → I64 (g i)) : Calls Try.prog 152 #[.agg (qfn f), .agg (vfn g)] w fun e w' => e = .returned (.tuple #[.agg (qfn (turnF f g)), .int .i64 (turnE f g)]) ∧ Below w.heap.size w w' := by
  have V := Lib.hid (fun w => qvalid_any f w hf)
  have LG := Lib.hid (fun w => largestW_any (rq g) w)
  have BD := Lib.hid (fun w => bounded_any (rq g) w)
  have PR := Lib.hid (fun w => qprod_any f (rq g) w)
  have UN := Lib.hid (fun w => qunit_any (qprodF f (rq g)) w)
  unfold turnF turnE
  rw [turnOk_eq f g hg]
  generalize qunF (qprodF f (rq g)) = X at *
  generalize qunE (qprodF f (rq g)) = E at *
  generalize qprodF f (rq g) = Y at *
  generalize qprodE f (rq g) = YE at *
  generalize validQ f = b1 at *
  generalize okQ (rq g) = b3 at *
  generalize lrgW (rq g) = L at *
  obtain ⟨b2, hb2⟩ : ∃ b, decide (1073741824 < L) = b := ⟨_, rfl⟩
  rw [hb2]
  have rc := Lib.hid (rq_cells g)
  clear hf hg
  go_enter Try.func152, Try.ntmps152
  go_upto_region 1 with (fail)
  simp only [zero_quat]
  have p : blk (((w.alloc (.cells (qfn f) 23)).alloc (.cells (vfn g) 31)).alloc (.cells (qfn fun _ => 0) 23)) w.heap.size (qfn f) 23 := ((blk.new _ _ _).alloc _).alloc _
  have q : blk (((w.alloc (.cells (qfn f) 23)).alloc (.cells (vfn g) 31)).alloc (.cells (qfn fun _ => 0) 23)) (w.heap.size + 1) (vfn g) 31 := (blk.new' (by simp)).alloc _
  have r : blk (((w.alloc (.cells (qfn f) 23)).alloc (.cells (vfn g) 31)).alloc (.cells (qfn fun _ => 0) 23)) (w.heap.size + 2) (qfn fun _ => 0) 23 := blk.new' (by simp)
  have hB : Below w.heap.size w (((w.alloc (.cells (qfn f) 23)).alloc (.cells (vfn g) 31)).alloc (.cells (qfn fun _ => 0) 23)) := by go_grown
  generalize (((w.alloc (.cells (qfn f) 23)).alloc (.cells (vfn g) 31)).alloc (.cells (qfn fun _ => 0) 23)) = w0 at *
  have c0 : w0.cell? ⟨(w.heap.size + 1), 0, none⟩ = some (.int .i64 (g 0)) := q.cellIs (vfn_get _ (by omega))
  have c1 : w0.cell? ⟨(w.heap.size + 1), 1, none⟩ = some (.int .i64 (g 1)) := q.cellIs (vfn_get _ (by omega))
  have c2 : w0.cell? ⟨(w.heap.size + 1), 2, none⟩ = some (.int .i64 (g 2)) := q.cellIs (vfn_get _ (by omega))
  generalize rq g = R at *
  go_upto_region 2 with (fail)
  clear c0 c1 c2
  have n := blk.new w0 #[.int .i64 1073741824, .int .i64 (g 0), .int .i64 (g 1), .int .i64 (g 2)] 23
  replace hB := hB.alloc hB.size (.cells #[.int .i64 1073741824, .int .i64 (g 0), .int .i64 (g 1), .int .i64 (g 2)] 23)
  replace p := p.alloc (.cells #[.int .i64 1073741824, .int .i64 (g 0), .int .i64 (g 1), .int .i64 (g 2)] 23)
  replace q := q.alloc (.cells #[.int .i64 1073741824, .int .i64 (g 0), .int .i64 (g 1), .int .i64 (g 2)] 23)
  replace r := r.alloc (.cells #[.int .i64 1073741824, .int .i64 (g 0), .int .i64 (g 1), .int .i64 (g 2)] 23)
  generalize w0.alloc (.cells #[.int .i64 1073741824, .int .i64 (g 0), .int .i64 (g 1), .int .i64 (g 2)] 23) = w0x at *
  rw [rc.out] at n
  generalize w0.heap.size = n_b at *
  cases b1 <;> cases b2 <;> cases b3
  case true.false.true =>
    go_upto_region 5 with (first
      | (refine wpList_load_rowG ?hw _ _ rfl _ rfl _ _ _ _ p Try.underlying23 rfl ?hi ?_; (case hw => (first | rfl | (simp [Region.wanted, yielded]; done))); (case hi => (first | kernel_rfl | (rw [qfn_size]; kernel_rfl))))
      | (refine wpList_load_rowG ?hw _ _ rfl _ rfl _ _ _ _ q Try.underlying31 rfl ?hi ?_; (case hw => (first | rfl | (simp [Region.wanted, yielded]; done))); (case hi => (first | kernel_rfl | (rw [vfn_size]; kernel_rfl))))
      | (refine wpList_load_rowG ?hw _ _ rfl _ rfl _ _ _ _ r Try.underlying23 rfl ?hi ?_; (case hw => (first | rfl | (simp [Region.wanted, yielded]; done))); (case hi => (first | kernel_rfl | (rw [qfn_size]; kernel_rfl))))
      | (refine wpList_load_rowG ?hw _ _ rfl _ rfl _ _ _ _ n Try.underlying23 rfl ?hi ?_; (case hw => (first | rfl | (simp [Region.wanted, yielded]; done))); (case hi => (first | kernel_rfl | (rw [qfn_size]; kernel_rfl))))
      | (go_at_call 33; with_reducible refine (V.out _).mono ?_; rintro e w1 ⟨rfl, hb⟩; replace hB := hB.trans (hb.mono hB.size); replace p := p.below hb p.lt; replace q := q.below hb q.lt; replace r := r.below hb r.lt; replace n := n.below hb n.lt; clear hb)
      | (go_at_call 125; with_reducible refine (LG.out _).mono ?_; rintro e w2 ⟨rfl, hb⟩; replace hB := hB.trans (hb.mono hB.size); replace p := p.below hb p.lt; replace q := q.below hb q.lt; replace r := r.below hb r.lt; replace n := n.below hb n.lt; clear hb)
      | (go_at_call 124; with_reducible refine (BD.out _).mono ?_; rintro e w3 ⟨rfl, hb⟩; replace hB := hB.trans (hb.mono hB.size); replace p := p.below hb p.lt; replace q := q.below hb q.lt; replace r := r.below hb r.lt; replace n := n.below hb n.lt; clear hb)
      | (go_at_call 95; with_reducible refine (PR.out _).mono ?_; rintro e w4 ⟨rfl, hb⟩; replace hB := hB.trans (hb.mono hB.size); replace p := p.below hb p.lt; replace q := q.below hb q.lt; replace r := r.below hb r.lt; replace n := n.below hb n.lt; clear hb)
      | (rw [zero_quat]; refine wpList_store_row rfl _ _ _ rfl _ rfl _ rfl _ _ (blk.new _ _ _) (by first | kernel_rfl | (rw [qfn_size]; kernel_rfl)) (by first | rfl | simp only [qfn_size]) (by first | exact qfn_one _ | rfl) ?_))
    have m := (blk.new w4 (qfn fun _ => 0) 23).row (qfn Y)
    replace hB := Below.setRow (hB.alloc hB.size (.cells (qfn fun _ => 0) 23)) (g := w4.heap.size) hB.size (qfn Y)
    have hne : ∀ x, x < w4.heap.size → x ≠ w4.heap.size := fun x hx => Nat.ne_of_lt hx
    replace p := (p.alloc (.cells (qfn fun _ => 0) 23)).rowOther (hne _ p.lt) (qfn Y)
    replace q := (q.alloc (.cells (qfn fun _ => 0) 23)).rowOther (hne _ q.lt) (qfn Y)
    replace r := (r.alloc (.cells (qfn fun _ => 0) 23)).rowOther (hne _ r.lt) (qfn Y)
    replace n := (n.alloc (.cells (qfn fun _ => 0) 23)).rowOther (hne _ n.lt) (qfn Y)
    clear hne
    generalize (w4.alloc (.cells (qfn fun _ => 0) 23)).setRow w4.heap.size (qfn Y) = w4x at *
    generalize w4.heap.size = m_b at *
    go_wp2_with (first
      | (refine wpList_load_rowG ?hw _ _ rfl _ rfl _ _ _ _ p Try.underlying23 rfl ?hi ?_; (case hw => (first | rfl | (simp [Region.wanted, yielded]; done))); (case hi => (first | kernel_rfl | (rw [qfn_size]; kernel_rfl))))
      | (refine wpList_load_rowG ?hw _ _ rfl _ rfl _ _ _ _ q Try.underlying31 rfl ?hi ?_; (case hw => (first | rfl | (simp [Region.wanted, yielded]; done))); (case hi => (first | kernel_rfl | (rw [vfn_size]; kernel_rfl))))
      | (refine wpList_load_rowG ?hw _ _ rfl _ rfl _ _ _ _ r Try.underlying23 rfl ?hi ?_; (case hw => (first | rfl | (simp [Region.wanted, yielded]; done))); (case hi => (first | kernel_rfl | (rw [qfn_size]; kernel_rfl))))
      | (refine wpList_load_rowG ?hw _ _ rfl _ rfl _ _ _ _ n Try.underlying23 rfl ?hi ?_; (case hw => (first | rfl | (simp [Region.wanted, yielded]; done))); (case hi => (first | kernel_rfl | (rw [qfn_size]; kernel_rfl))))
      | (refine wpList_load_rowG ?hw _ _ rfl _ rfl _ _ _ _ m Try.underlying23 rfl ?hi ?_; (case hw => (first | rfl | (simp [Region.wanted, yielded]; done))); (case hi => (first | kernel_rfl | (rw [qfn_size]; kernel_rfl))))
      | (go_at_call 63; with_reducible refine (UN.out _).mono ?_; rintro e w5 ⟨rfl, hb⟩; replace hB := hB.trans (hb.mono hB.size); replace p := p.below hb p.lt; replace q := q.below hb q.lt; replace r := r.below hb r.lt; replace n := n.below hb n.lt; replace m := m.below hb m.lt; clear hb)
      | (refine wpList_store_row rfl _ _ _ rfl _ rfl _ rfl _ _ r (by first | kernel_rfl | (rw [qfn_size]; kernel_rfl)) (by first | rfl | simp only [qfn_size]) (by first | exact qfn_one _ | rfl) ?_))
    refine bodyPost_ret (results_vec rfl _ _ _ _ _ _ _ rfl (r.row (qfn X)) Try.underlying23 rfl (by first | kernel_rfl | (rw [qfn_size]; kernel_rfl))) rfl ?_
    refine ⟨?_, Below.setRow hB (by omega) _⟩
    rfl
  all_goals
    go_wp2_with (first
      | (refine wpList_load_rowG ?hw _ _ rfl _ rfl _ _ _ _ p Try.underlying23 rfl ?hi ?_; (case hw => (first | rfl | (simp [Region.wanted, yielded]; done))); (case hi => (first | kernel_rfl | (rw [qfn_size]; kernel_rfl))))
      | (refine wpList_load_rowG ?hw _ _ rfl _ rfl _ _ _ _ q Try.underlying31 rfl ?hi ?_; (case hw => (first | rfl | (simp [Region.wanted, yielded]; done))); (case hi => (first | kernel_rfl | (rw [vfn_size]; kernel_rfl))))
      | (refine wpList_load_rowG ?hw _ _ rfl _ rfl _ _ _ _ r Try.underlying23 rfl ?hi ?_; (case hw => (first | rfl | (simp [Region.wanted, yielded]; done))); (case hi => (first | kernel_rfl | (rw [qfn_size]; kernel_rfl))))
      | (refine wpList_load_rowG ?hw _ _ rfl _ rfl _ _ _ _ n Try.underlying23 rfl ?hi ?_; (case hw => (first | rfl | (simp [Region.wanted, yielded]; done))); (case hi => (first | kernel_rfl | (rw [qfn_size]; kernel_rfl))))
      | (go_at_call 33; with_reducible refine (V.out _).mono ?_; rintro e w1 ⟨rfl, hb⟩; replace hB := hB.trans (hb.mono hB.size); replace p := p.below hb p.lt; replace q := q.below hb q.lt; replace r := r.below hb r.lt; replace n := n.below hb n.lt; clear hb)
      | (go_at_call 125; with_reducible refine (LG.out _).mono ?_; rintro e w2 ⟨rfl, hb⟩; replace hB := hB.trans (hb.mono hB.size); replace p := p.below hb p.lt; replace q := q.below hb q.lt; replace r := r.below hb r.lt; replace n := n.below hb n.lt; clear hb)
      | (go_at_call 124; with_reducible refine (BD.out _).mono ?_; rintro e w3 ⟨rfl, hb⟩; replace hB := hB.trans (hb.mono hB.size); replace p := p.below hb p.lt; replace q := q.below hb q.lt; replace r := r.below hb r.lt; replace n := n.below hb n.lt; clear hb)
      | (rw [zero_quat]; refine wpList_store_row rfl _ _ _ rfl _ rfl _ rfl _ _ r (by first | kernel_rfl | (rw [qfn_size]; kernel_rfl)) (by first | rfl | simp only [qfn_size]) (by first | exact qfn_one _ | rfl) ?_))
    refine bodyPost_ret (results_vec rfl _ _ _ _ _ _ _ rfl (r.row (qfn fun _ => 0)) Try.underlying23 rfl (by first | kernel_rfl | (rw [qfn_size]; kernel_rfl))) rfl ?_
    refine ⟨?_, Below.setRow hB (by omega) _⟩
    rfl
end Go.Proofs.Ytkmelddejdikgaa
