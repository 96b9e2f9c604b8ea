/-
  Differences and multiples of vectors, and the specification's sums, differences and multiples. The gyros of the package.
-/
import Derived.Test.YtkmelddejdikgaaVecG
import Derived.Test.YtkmelddejdikgaaGyA
set_option linter.unusedSimpArgs false
set_option linter.unusedVariables false
namespace Go.Proofs.Ytkmelddejdikgaa
open Go.RowKit PM Dt
def subF (f g : Nat → Int) : Nat → Int := fun i => f i - g i
set_option maxRecDepth 100000 in
set_option maxHeartbeats 2000000 in
theorem eachSub_any (x er : Nat → Int) (c1 c2 : Value) (w : World)
    (hf : Hid (∀ i : Nat, i < 3 → ∀ w1, Below w.heap.size w w1 → Calls Try.prog 108 #[.int .i64 i, c1, c2] w1 fun e w' => e = .returned (.tuple #[.int .i64 (x i), .int .i64 (er i)]) ∧ Below w1.heap.size w1 w')) :
    Calls Try.prog 81 #[.bool true, .func (.func 108) #[] #[c1, c2]] w fun e w' => e = .returned (.tuple #[.agg (vfn (eachF x er)), .int .i64 (eachE x er)]) ∧ Below w.heap.size w w' := by
  go_enter Try.func81, Try.ntmps81
  go_upto_region 2 with (fail)
  rw [zero_vec]
  have p : blk ((w.alloc (.cells (vfn fun _ => 0) 31)).alloc (.cells (vfn fun _ => 0) 31)) w.heap.size (vfn fun _ => 0) 31 := (blk.new _ _ _).alloc _
  have q : blk ((w.alloc (.cells (vfn fun _ => 0) 31)).alloc (.cells (vfn fun _ => 0) 31)) (w.heap.size + 1) (vfn fun _ => 0) 31 := blk.new' (by simp)
  have hB : Below w.heap.size w ((w.alloc (.cells (vfn fun _ => 0) 31)).alloc (.cells (vfn fun _ => 0) 31)) := by go_grown
  generalize (w.alloc (.cells (vfn fun _ => 0) 31)).alloc (.cells (vfn fun _ => 0) 31) = w0 at *
  go_wp2_with (fail)
  go_loopg [13] 3 (fun g iv wr => ∃ k : Nat, g + k = 3 ∧ iv = .int .i64 k ∧ Hid (∀ j, j < k → er j = 0 ∧ vb (x j) = true) ∧ blk wr w.heap.size (vfn fun _ => 0) 31 ∧ blk wr (w.heap.size + 1) (vfn (pre3 x k)) 31 ∧ Below w.heap.size w wr)
  case atStart => exact ⟨0, rfl, rfl, fun j hj => by omega, p, by rw [show vfn (pre3 x 0) = vfn (fun _ => 0) from vfn_congr fun i _ => by simp [pre3]]; exact q, hB⟩
  case round =>
    clear p q hB
    obtain ⟨k, hk, rfl, hall, p, q, hB⟩ := hrel
    by_cases hkn : k < 3
    · have hdk : decide ((k : Int) < 3) = true := decide_eq_true (by omega)
      have hdk' : decide (k < 3) = true := decide_eq_true (by omega)
      have hw3 : IntKind.i64.wrap ((k : Int) + 1) = ((k + 1 : Nat) : Int) := by rw [IntKind.wrap_i64]; omega
      have W0 := Lib.hid (fun w => within_any (x k) w)
      have HC := Lib.hid (hf.out k hkn)
      by_cases he : er k = 0
      · have de : (er k != 0) = false := by simp [he]
        have HE := Lib.hid he
        obtain ⟨b, hb⟩ : ∃ b, vb (x k) = b := ⟨_, rfl⟩
        rw [hb] at W0
        have HVB := Lib.hid hb
        clear hb he
        cases b
        · have HG := Lib.hid (show goodE x er = false from goodE_no hkn (by rintro ⟨_, h⟩; rw [HVB.out] at h; cases h))
          go_wp2_with (first
            | (go_at_call 108; refine (HC.out _ hB).mono ?_; rintro e w1 ⟨rfl, hb⟩; replace hB := hB.trans (hb.mono hB.size); replace p := p.below hb p.lt; replace q := q.below hb q.lt; clear hb)
            | (go_at_call 137; refine (W0.out _).mono ?_; rintro e w1 ⟨rfl, rfl⟩)
            | (rw [zero_vec]; refine wpList_store_row rfl _ _ _ rfl _ rfl _ rfl _ _ p (by rw [vfn_size]; kernel_rfl) (by simp only [vfn_size]) (vfn_one _) ?_))
          refine bodyPost_ret (results_vec rfl _ _ _ _ _ _ _ rfl (p.row (vfn (fun _ => 0))) Try.underlying31 rfl (by rw [vfn_size]; kernel_rfl)) rfl ?_; refine ⟨?_, Below.setRow hB (Nat.le_refl _) _⟩
          unfold eachF eachE; rw [HG.out]; rfl
        · go_upto_region 8 with (go_at_call 108; refine (HC.out _ hB).mono ?_; rintro e w1 ⟨rfl, hb⟩; replace hB := hB.trans (hb.mono hB.size); replace p := p.below hb p.lt; replace q := q.below hb q.lt; clear hb)
          have fz : w1.frozen? ⟨w.heap.size + 1, k, none⟩ = false := q.free _
          have cz : w1.cell? ⟨w.heap.size + 1, k, none⟩ = some (.int .i64 (pre3 x k k)) := q.cellIs (vfn_get _ hkn)
          go_wp2_with (go_at_call 137; refine (W0.out _).mono ?_; rintro e w1 ⟨rfl, rfl⟩)
          go_roundg (3 - (k + 1))
          case rel =>
            refine ⟨k + 1, by omega, rfl, fun j hj => ?_, p.setOther (by simp) _, q.set' (vfn_set hkn ?_ ?_), hB.setCell (by simp) _⟩
            · by_cases e : j = k
              · subst e; exact ⟨HE.out, HVB.out⟩
              · exact hall.out j (by omega)
            · simp [pre3]
            · intro j hj hne; simp only [pre3]; split <;> split <;> first | rfl | omega
          case measure => omega
      · have de : (er k != 0) = true := by simpa using he
        have HG := Lib.hid (show goodE x er = false from goodE_no hkn (by rintro ⟨h, _⟩; exact he h))
        clear he
        go_wp2_with (first
          | (go_at_call 108; refine (HC.out _ hB).mono ?_; rintro e w1 ⟨rfl, hb⟩; replace hB := hB.trans (hb.mono hB.size); replace p := p.below hb p.lt; replace q := q.below hb q.lt; clear hb)
          | (rw [zero_vec]; refine wpList_store_row rfl _ _ _ rfl _ rfl _ rfl _ _ p (by rw [vfn_size]; kernel_rfl) (by simp only [vfn_size]) (vfn_one _) ?_))
        refine bodyPost_ret (results_vec rfl _ _ _ _ _ _ _ rfl (p.row (vfn (fun _ => 0))) Try.underlying31 rfl (by rw [vfn_size]; kernel_rfl)) rfl ?_; refine ⟨?_, Below.setRow hB (Nat.le_refl _) _⟩
        unfold eachF eachE; rw [HG.out]; rfl
    · obtain rfl : k = 3 := by omega
      have HG := Lib.hid ((goodE_iff x er).2 hall.out)
      have e3 : vfn (pre3 x 3) = vfn x := vfn_congr fun i hi => by simp [pre3, hi]
      rw [e3] at q
      go_wp2_with (first | (refine wpList_load_rowG ?hw _ _ rfl _ rfl _ _ _ _ q Try.underlying31 rfl ?hi ?_; (case hw => (first | rfl | (simp [Region.wanted, yielded]; done))); (case hi => (rw [vfn_size]; kernel_rfl))) | (refine wpList_store_row rfl _ _ _ rfl _ rfl _ rfl _ _ p (by rw [vfn_size]; kernel_rfl) (by simp only [vfn_size]) (vfn_one _) ?_))
      refine bodyPost_ret (results_vec rfl _ _ _ _ _ _ _ rfl (p.row (vfn x)) Try.underlying31 rfl (by rw [vfn_size]; kernel_rfl)) rfl ?_; refine ⟨?_, Below.setRow hB (Nat.le_refl _) _⟩
      unfold eachF eachE; rw [HG.out]; rfl
set_option maxRecDepth 100000 in
theorem subC_any (f g : Nat → Int) (b c : Nat) (w : World) (hf : okV f = true) (hg : okV g = true) (p : blk w b (vfn f) 31) (q : blk w c (vfn g) 31) (i : Nat) (hi : i < 3) :
    Calls Try.prog 108 #[.int .i64 i, .pointer (some ⟨b, 0, none⟩), .pointer (some ⟨c, 0, none⟩)] w fun e w' => e = .returned (.tuple #[.int .i64 (subF f g i), .int .i64 0]) ∧ Below w.heap.size w w' := by
  have h1 := (vb_iff _).1 ((okV_iff f).1 hf i hi)
  have h2 := (vb_iff _).1 ((okV_iff g).1 hg i hi)
  have hw2 : IntKind.i64.wrap (f i - g i) = subF f g i := by rw [IntKind.wrap_i64]; unfold subF; omega
  have hw3 : wrap64 (f i - g i) = subF f g i := by unfold wrap64 subF; omega
  have hdk : decide ((i : Int) < 3) = true := decide_eq_true (by omega)
  have hdk' : decide (i < 3) = true := decide_eq_true hi
  have hi3 : (i : Int) < 3 := by omega
  clear h1 h2 hf hg
  go_enter Try.func108, Try.ntmps108
  go_upto_region 1 with (fail)
  have hB : More w w := Below.refl _ _
  refine wp_region_Y 99 9 rfl (by kernel_rfl) ?_
  replace p := p.drew
  replace q := q.drew
  replace hB : More w w.drew := hB.drew
  generalize w.drew = wo at *
  refine wpY_takeB 0 (.int .i64 i) rfl rfl (by kernel_rfl) (fun w1 => by go_simp; exact ⟨rfl, Below.refl _ _⟩) ?_
  simp only [Act.put, List.setIfInBounds_toArray, List.set_cons_zero, List.set_cons_succ]
  refine wpY_takeB 1 (.pointer (some ⟨b, i, none⟩)) rfl rfl (by kernel_rfl) (fun w1 => by go_simp; first | exact ⟨rfl, Below.refl _ _⟩ | (rw [if_pos hi3]; exact ⟨rfl, Below.refl _ _⟩)) ?_
  simp only [Act.put, List.setIfInBounds_toArray, List.set_cons_zero, List.set_cons_succ]
  refine wpY_takeA 2 (.int .i64 (f i)) rfl rfl (by kernel_rfl) (by kernel_rfl) (fun w1 h1 => by have hc : w1.cell? ⟨b, i, none⟩ = some (.int .i64 (f i)) := (p.below h1 p.lt).cellIs (vfn_get _ hi); go_simp; exact ⟨rfl, Below.refl _ _⟩) ?_
  simp only [Act.put, List.setIfInBounds_toArray, List.set_cons_zero, List.set_cons_succ]
  refine wpY_takeB 3 (.int .i64 i) rfl rfl (by kernel_rfl) (fun w1 => by go_simp; exact ⟨rfl, Below.refl _ _⟩) ?_
  simp only [Act.put, List.setIfInBounds_toArray, List.set_cons_zero, List.set_cons_succ]
  refine wpY_takeB 4 (.pointer (some ⟨c, i, none⟩)) rfl rfl (by kernel_rfl) (fun w1 => by go_simp; first | exact ⟨rfl, Below.refl _ _⟩ | (rw [if_pos hi3]; exact ⟨rfl, Below.refl _ _⟩)) ?_
  simp only [Act.put, List.setIfInBounds_toArray, List.set_cons_zero, List.set_cons_succ]
  refine wpY_takeA 5 (.int .i64 (g i)) rfl rfl (by kernel_rfl) (by kernel_rfl) (fun w1 h1 => by have hc : w1.cell? ⟨c, i, none⟩ = some (.int .i64 (g i)) := (q.below h1 q.lt).cellIs (vfn_get _ hi); go_simp; exact ⟨rfl, Below.refl _ _⟩) ?_
  simp only [Act.put, List.setIfInBounds_toArray, List.set_cons_zero, List.set_cons_succ]
  refine wpY_takeB 6 (.int .i64 (subF f g i)) rfl rfl (by kernel_rfl) (fun w1 => by go_simp; exact ⟨by first | rfl | rw [hw2] | rw [hw3], Below.refl _ _⟩) ?_
  simp only [Act.put, List.setIfInBounds_toArray, List.set_cons_zero, List.set_cons_succ]
  refine wpY_takeB 7 (.int .i64 (subF f g i)) rfl rfl (by kernel_rfl) (fun w1 => by go_simp; exact ⟨rfl, Below.refl _ _⟩) ?_
  simp only [Act.put, List.setIfInBounds_toArray, List.set_cons_zero, List.set_cons_succ]
  refine wpY_takeB 8 (.int .i64 0) rfl rfl (by kernel_rfl) (fun w1 => by go_simp; exact ⟨rfl, Below.refl _ _⟩) ?_
  simp only [Act.put, List.setIfInBounds_toArray, List.set_cons_zero, List.set_cons_succ]
  refine wpY_end (by kernel_rfl) (fun w3 h3 => ?_)
  replace hB := More.trans hB h3
  go_wp2_with (fail)
  go_ret2
  exact ⟨rfl, hB⟩
def vsubF (f g : Nat → Int) : Nat → Int := if okV f && okV g then resF (subF f g) else fun _ => 0
def vsubE (f g : Nat → Int) : Int := if okV f && okV g then resE (subF f g) else 2
set_option maxRecDepth 100000 in
set_option maxHeartbeats 2000000 in
theorem vsub_any (f g : Nat → Int) (w : World) : Calls Try.prog 49 #[.agg (vfn f), .agg (vfn g)] w fun e w' => e = .returned (.tuple #[.agg (vfn (vsubF f g)), .int .i64 (vsubE f g)]) ∧ Below w.heap.size w w' := by
  have V1 := Lib.hid (fun w => valid_any f w)
  have V2 := Lib.hid (fun w => valid_any g w)
  have hk : ∃ F E, (okV f = true → okV g = true → F = resF (subF f g) ∧ E = resE (subF f g)) ∧ vsubF f g = (if okV f && okV g then F else fun _ => 0) ∧ vsubE f g = (if okV f && okV g then E else 2) := ⟨_, _, fun _ _ => ⟨rfl, rfl⟩, rfl, rfl⟩
  obtain ⟨F, E, hk, e1, e2⟩ := hk
  rw [e1, e2]
  clear e1 e2
  have HK := Lib.hid hk
  clear hk
  obtain ⟨bf, hf⟩ : ∃ b, okV f = b := ⟨_, rfl⟩
  obtain ⟨bg, hg⟩ : ∃ b, okV g = b := ⟨_, rfl⟩
  rw [hf] at V1 HK ⊢
  rw [hg] at V2 HK ⊢
  have HF := Lib.hid hf
  have HG := Lib.hid hg
  clear hf hg
  go_enter Try.func49, Try.ntmps49
  go_upto_region 1 with (fail)
  rw [zero_vec]
  have p : blk (((w.alloc (.cells (vfn f) 31)).alloc (.cells (vfn g) 31)).alloc (.cells (vfn fun _ => 0) 31)) w.heap.size (vfn f) 31 := ((blk.new _ _ _).alloc _).alloc _
  have q : blk (((w.alloc (.cells (vfn f) 31)).alloc (.cells (vfn g) 31)).alloc (.cells (vfn fun _ => 0) 31)) (w.heap.size + 1) (vfn g) 31 := (blk.new' (by simp)).alloc _
  have r : blk (((w.alloc (.cells (vfn f) 31)).alloc (.cells (vfn g) 31)).alloc (.cells (vfn fun _ => 0) 31)) (w.heap.size + 1 + 1) (vfn fun _ => 0) 31 := blk.new' (by simp)
  have hB : Below w.heap.size w (((w.alloc (.cells (vfn f) 31)).alloc (.cells (vfn g) 31)).alloc (.cells (vfn fun _ => 0) 31)) := by go_grown
  generalize ((w.alloc (.cells (vfn f) 31)).alloc (.cells (vfn g) 31)).alloc (.cells (vfn fun _ => 0) 31) = w0 at *
  cases bf
  · go_wp2_with (first
      | (refine wpList_load_rowG ?hw _ _ rfl _ rfl _ _ _ _ p Try.underlying31 rfl ?hi ?_; (case hw => (first | rfl | (simp [Region.wanted, yielded]; done))); (case hi => (rw [vfn_size]; kernel_rfl)))
      | (refine wpList_load_rowG ?hw _ _ rfl _ rfl _ _ _ _ q Try.underlying31 rfl ?hi ?_; (case hw => (first | rfl | (simp [Region.wanted, yielded]; done))); (case hi => (rw [vfn_size]; kernel_rfl)))
      | (go_at_call 78; with_reducible refine (V1.out _).mono ?_; rintro e w1 ⟨rfl, hb⟩; replace hB := hB.trans (hb.mono hB.size); replace p := p.below hb p.lt; replace q := q.below hb q.lt; replace r := r.below hb r.lt; clear hb)
      | (go_at_call 78; with_reducible refine (V2.out _).mono ?_; rintro e w1 ⟨rfl, hb⟩; replace hB := hB.trans (hb.mono hB.size); replace p := p.below hb p.lt; replace q := q.below hb q.lt; replace r := r.below hb r.lt; clear hb)
      | (go_at_call 81; refine (each_no _ _).mono ?_; rintro e w2 ⟨rfl, hb⟩; replace hB := hB.trans (hb.mono hB.size); replace r := r.below hb r.lt; clear hb)
      | (refine wpList_store_row rfl _ _ _ rfl _ rfl _ rfl _ _ r (by rw [vfn_size]; kernel_rfl) (by simp only [vfn_size]) (vfn_one _) ?_))
    refine bodyPost_ret (results_vec rfl _ _ _ _ _ _ _ rfl (r.row (vfn (fun _ => 0))) Try.underlying31 rfl (by rw [vfn_size]; kernel_rfl)) rfl ?_; refine ⟨?_, Below.setRow hB (by omega) _⟩
    rfl
  cases bg
  · go_wp2_with (first
      | (refine wpList_load_rowG ?hw _ _ rfl _ rfl _ _ _ _ p Try.underlying31 rfl ?hi ?_; (case hw => (first | rfl | (simp [Region.wanted, yielded]; done))); (case hi => (rw [vfn_size]; kernel_rfl)))
      | (refine wpList_load_rowG ?hw _ _ rfl _ rfl _ _ _ _ q Try.underlying31 rfl ?hi ?_; (case hw => (first | rfl | (simp [Region.wanted, yielded]; done))); (case hi => (rw [vfn_size]; kernel_rfl)))
      | (go_at_call 78; with_reducible refine (V1.out _).mono ?_; rintro e w1 ⟨rfl, hb⟩; replace hB := hB.trans (hb.mono hB.size); replace p := p.below hb p.lt; replace q := q.below hb q.lt; replace r := r.below hb r.lt; clear hb)
      | (go_at_call 78; with_reducible refine (V2.out _).mono ?_; rintro e w1 ⟨rfl, hb⟩; replace hB := hB.trans (hb.mono hB.size); replace p := p.below hb p.lt; replace q := q.below hb q.lt; replace r := r.below hb r.lt; clear hb)
      | (go_at_call 81; refine (each_no _ _).mono ?_; rintro e w2 ⟨rfl, hb⟩; replace hB := hB.trans (hb.mono hB.size); replace r := r.below hb r.lt; clear hb)
      | (refine wpList_store_row rfl _ _ _ rfl _ rfl _ rfl _ _ r (by rw [vfn_size]; kernel_rfl) (by simp only [vfn_size]) (vfn_one _) ?_))
    refine bodyPost_ret (results_vec rfl _ _ _ _ _ _ _ rfl (r.row (vfn (fun _ => 0))) Try.underlying31 rfl (by rw [vfn_size]; kernel_rfl)) rfl ?_; refine ⟨?_, Below.setRow hB (by omega) _⟩
    rfl
  obtain ⟨hF, hE⟩ := HK.out rfl rfl
  have HFE := Lib.hid (And.intro hF hE)
  clear HK hF hE
  go_wp2_with (first
      | (refine wpList_load_rowG ?hw _ _ rfl _ rfl _ _ _ _ p Try.underlying31 rfl ?hi ?_; (case hw => (first | rfl | (simp [Region.wanted, yielded]; done))); (case hi => (rw [vfn_size]; kernel_rfl)))
      | (refine wpList_load_rowG ?hw _ _ rfl _ rfl _ _ _ _ q Try.underlying31 rfl ?hi ?_; (case hw => (first | rfl | (simp [Region.wanted, yielded]; done))); (case hi => (rw [vfn_size]; kernel_rfl)))
      | (go_at_call 78; with_reducible refine (V1.out _).mono ?_; rintro e w1 ⟨rfl, hb⟩; replace hB := hB.trans (hb.mono hB.size); replace p := p.below hb p.lt; replace q := q.below hb q.lt; replace r := r.below hb r.lt; clear hb)
      | (go_at_call 78; with_reducible refine (V2.out _).mono ?_; rintro e w1 ⟨rfl, hb⟩; replace hB := hB.trans (hb.mono hB.size); replace p := p.below hb p.lt; replace q := q.below hb q.lt; replace r := r.below hb r.lt; clear hb)
      | (go_at_call 81; refine (eachSub_any (subF f g) (fun _ => 0) _ _ _ (fun i hi wx hx => subC_any f g _ _ wx HF.out HG.out (p.below hx p.lt) (q.below hx q.lt) i hi)).mono ?_; rintro e w2 ⟨rfl, hb⟩; rw [(each_res _).1, (each_res _).2, ← HFE.out.1, ← HFE.out.2]; replace hB := hB.trans (hb.mono hB.size); replace r := r.below hb r.lt; clear hb)
      | (refine wpList_store_row rfl _ _ _ rfl _ rfl _ rfl _ _ r (by rw [vfn_size]; kernel_rfl) (by simp only [vfn_size]) (vfn_one _) ?_))
  refine bodyPost_ret (results_vec rfl _ _ _ _ _ _ _ rfl (r.row (vfn F)) Try.underlying31 rfl (by rw [vfn_size]; kernel_rfl)) rfl ?_; refine ⟨?_, Below.setRow hB (by omega) _⟩
  rfl
end Go.Proofs.Ytkmelddejdikgaa
namespace Go.Proofs.Ytkmelddejdikgaa
open Go.RowKit PM Dt
theorem gidx (f : Nat → Int) {k : Nat} (h : k < 3) (w : World) : (Instr.index 31 (.agg (vfn f)) (.int .i64 k)).run Try.prog w = .ok (.int .i64 (f k)) w := by
  obtain ⟨i, hi⟩ : ∃ i, Try.prog.info? 2 = some i := Option.isSome_iff_exists.1 (by kernel_rfl)
  exact run_index_cell (P := Try.prog) (n := 3) Try.underlying31 Try.underlying2 rfl hi (by kernel_rfl) h (vfn_get f h) w
set_option maxRecDepth 100000 in
set_option maxHeartbeats 2000000 in
theorem gwithin_any (f : Nat → Int) (m : Int) (w : World) (h0 : 0 ≤ m) (hm : m ≤ 4398046511104) : Calls Try.prog 99 #[.agg (vfn f), .int .i64 m] w fun e w' => e = .returned (.bool (smallB f m)) ∧ Below w.heap.size w w' := by
  have hwm : wrap64 (-m) = -m := by unfold wrap64; omega
  clear h0 hm
  go_enter Try.func99, Try.ntmps99
  have p0 := blk.new w (vfn f) 31
  go_wp2_with ((refine wpList_load_rowG ?hw _ _ rfl _ rfl _ _ _ _ p0 Try.underlying31 rfl ?hi ?_; (case hw => (first | rfl | (simp [Region.wanted, yielded]; done))); (case hi => (rw [vfn_size]; kernel_rfl))))
  have hB0 : Below w.heap.size w (w.alloc (.cells (vfn f) 31)) := by go_grown
  clear p0
  generalize w.alloc (.cells (vfn f) 31) = w0 at *
  go_loopg [8] 3 (fun g iv wr => ∃ k : Nat, g + k = 3 ∧ iv = .int .i64 k ∧ Hid (∀ j, j < k → sb m (f j) = true) ∧ Below w.heap.size w wr)
  case atStart => exact ⟨0, rfl, rfl, fun j hj => by omega, hB0⟩
  case round =>
    clear hB0
    obtain ⟨k, hk, rfl, hall, hB⟩ := hrel
    by_cases hkn : k < 3
    · have hdk : decide ((k : Int) < 3) = true := decide_eq_true (by omega)
      have hdk' : decide (k < 3) = true := decide_eq_true (by omega)
      have hw3 : IntKind.i64.wrap ((k : Int) + 1) = ((k + 1 : Nat) : Int) := by rw [IntKind.wrap_i64]; omega
      have hix : Hid (∀ w, (Instr.index 31 (.agg (vfn f)) (.int .i64 k)).run Try.prog w = .ok (.int .i64 (f k)) w) := fun w => gidx f hkn w
      by_cases h1 : -m ≤ f k
      · have d1 : decide (f k < -m) = false := decide_eq_false (by omega)
        by_cases h2 : f k ≤ m
        · have d2 : decide (m < f k) = false := decide_eq_false (by omega)
          have HV := Lib.hid ((sb_iff _ _).2 ⟨h1, h2⟩)
          clear h1 h2
          go_wp2_with ((refine wpList_index ?hw _ _ _ rfl _ rfl k _ rfl rfl _ hix.out ?_; (case hw => (first | rfl | (simp [Region.wanted, yielded]; done)))))
          go_roundg (3 - (k + 1))
          case rel =>
            refine ⟨k + 1, by omega, rfl, fun j hj => ?_, hB⟩
            by_cases e : j = k
            · subst e; exact HV.out
            · exact hall.out j (by omega)
          case measure => omega
        · have d2 : decide (m < f k) = true := decide_eq_true (by omega)
          have HV := Lib.hid (show smallB f m = false from smallB_no hkn (by omega))
          clear h1 h2
          go_wp2_with ((refine wpList_index ?hw _ _ _ rfl _ rfl k _ rfl rfl _ hix.out ?_; (case hw => (first | rfl | (simp [Region.wanted, yielded]; done)))))
          go_ret
          exact ⟨by rw [HV.out]; rfl, hB⟩
      · have d1 : decide (f k < -m) = true := decide_eq_true (by omega)
        have HV := Lib.hid (show smallB f m = false from smallB_no hkn (by omega))
        clear h1
        go_wp2_with ((refine wpList_index ?hw _ _ _ rfl _ rfl k _ rfl rfl _ hix.out ?_; (case hw => (first | rfl | (simp [Region.wanted, yielded]; done)))))
        go_ret
        exact ⟨by rw [HV.out]; rfl, hB⟩
    · obtain rfl : k = 3 := by omega
      have HV := Lib.hid ((smallB_iff f m).2 hall.out)
      go_wp2_with (fail)
      go_ret
      exact ⟨by rw [HV.out]; rfl, hB⟩
/-- A vector, part by part divided. -/
def partF (f : Nat → Int) (d : Int) : Nat → Int := fun i => ratioV (f i) 1 d
def preF (a b : Nat → Int) (k : Nat) : Nat → Int := fun i => if i < k then a i else b i
theorem preF_zero (a b : Nat → Int) : preF a b 0 = b := by funext i; simp [preF]
theorem preF_zero_as (b a : Nat → Int) : vfn b = vfn (preF a b 0) := by rw [preF_zero]
theorem preF_at (a b : Nat → Int) (k : Nat) : preF a b k k = b k := by simp [preF]
theorem preF_all (a b : Nat → Int) : vfn (preF a b 3) = vfn a := by unfold vfn preF; simp
theorem preF_set (a b : Nat → Int) {k : Nat} (h : k < 3) : (vfn (preF a b k)).setIfInBounds k (.int .i64 (a k)) = vfn (preF a b (k + 1)) := by
  unfold vfn preF
  rcases (show k = 0 ∨ k = 1 ∨ k = 2 by omega) with rfl | rfl | rfl <;> simp
set_option maxRecDepth 100000 in
set_option maxHeartbeats 2000000 in
theorem part_any (f : Nat → Int) (d : Int) (w : World) (hf : ∀ i, i < 3 → I64 (f i)) (hd : I64 d) : Calls Try.prog 104 #[.agg (vfn f), .int .i64 d] w fun e w' => e = .returned (.agg (vfn (partF f d))) ∧ Below w.heap.size w w' := by
  have RA := Lib.hid (fun i (hi : i < 3) w => ratio_any (f i) 1 d w (hf i hi) ⟨by omega, by omega⟩ hd)
  clear hf hd
  go_enter Try.func104, Try.ntmps104
  go_upto_region 1 with (fail)
  simp only [zero_vec]
  have p : blk ((w.alloc (.cells (vfn f) 31)).alloc (.cells (vfn fun _ => 0) 31)) w.heap.size (vfn f) 31 := (blk.new _ _ _).alloc _
  have r : blk ((w.alloc (.cells (vfn f) 31)).alloc (.cells (vfn fun _ => 0) 31)) (w.heap.size + 1) (vfn fun _ => 0) 31 := blk.new' (by simp)
  have hB : Below w.heap.size w ((w.alloc (.cells (vfn f) 31)).alloc (.cells (vfn fun _ => 0) 31)) := by go_grown
  generalize ((w.alloc (.cells (vfn f) 31)).alloc (.cells (vfn fun _ => 0) 31)) = w0 at *
  have p : blk w0 w.heap.size (vfn (preF (partF f d) f 0)) 31 := by rw [preF_zero]; exact p
  have pf : blk w0 w.heap.size (vfn f) 31 := by rw [preF_zero] at p; exact p
  go_wp2_with (first | (refine wpList_load_rowG ?hw _ _ rfl _ rfl _ _ _ _ pf Try.underlying31 rfl ?hi ?_; (case hw => (first | rfl | (simp [Region.wanted, yielded]; done))); (case hi => (rw [vfn_size]; kernel_rfl))))
  clear pf
  go_loopg [8] 3 (fun g_ iv wr => ∃ k : Nat, g_ + k = 3 ∧ iv = .int .i64 k ∧ blk wr w.heap.size (vfn (preF (partF f d) f k)) 31 ∧ blk wr (w.heap.size + 1) (vfn fun _ => 0) 31 ∧ Below w.heap.size w wr)
  case atStart => exact ⟨0, rfl, rfl, p, r, hB⟩
  case round =>
    clear p r hB
    obtain ⟨k, hk, rfl, p, r, hB⟩ := hrel
    by_cases hkn : k < 3
    · have hdk : decide ((k : Int) < 3) = true := decide_eq_true (by omega)
      have hdk' : decide (k < 3) = true := decide_eq_true (by omega)
      have hk3 : (k : Int) < 3 := by omega
      have hw3 : IntKind.i64.wrap ((k : Int) + 1) = ((k + 1 : Nat) : Int) := by rw [IntKind.wrap_i64]; omega
      have hix : Hid (∀ w, (Instr.index 31 (.agg (vfn f)) (.int .i64 k)).run Try.prog w = .ok (.int .i64 (f k)) w) := fun w => gidx f hkn w
      go_wp2_with (first
        | (refine wpList_index ?hw _ _ _ rfl _ rfl k _ rfl rfl _ hix.out ?_; (case hw => (first | rfl | (simp [Region.wanted, yielded]; done))))
        | (go_at_call 58; with_reducible refine (RA.out k hkn _).mono ?_; rintro e w1 ⟨rfl, hb⟩; replace hB := hB.trans (hb.mono hB.size); replace p := p.below hb p.lt; replace r := r.below hb r.lt; clear hb; have fz : w1.frozen? ⟨w.heap.size, k, none⟩ = false := p.free _; have cz : w1.cell? ⟨w.heap.size, k, none⟩ = some (.int .i64 (preF (partF f d) f k k)) := p.cellIs (vfn_get _ hkn)))
      go_roundg (3 - (k + 1))
      case rel =>
        exact ⟨k + 1, by omega, rfl, p.set' (preF_set _ _ hkn), r.setOther (by simp) _, hB.setCell (by simp) _⟩
      case measure => omega
    · obtain rfl : k = 3 := by omega
      rw [preF_all] at p
      go_wp2_with (first
        | (refine wpList_load_rowG ?hw _ _ rfl _ rfl _ _ _ _ p Try.underlying31 rfl ?hi ?_; (case hw => (first | rfl | (simp [Region.wanted, yielded]; done))); (case hi => (first | kernel_rfl | (rw [vfn_size]; kernel_rfl))))
        | (refine wpList_store_row rfl _ _ _ rfl _ rfl _ rfl _ _ r (by first | kernel_rfl | (rw [vfn_size]; kernel_rfl)) (by first | rfl | simp only [vfn_size]) (by first | exact vfn_one _ | rfl) ?_))
      refine bodyPost_ret (results_cell_row rfl _ _ _ _ _ _ _ rfl (r.row (vfn (partF f d))) Try.underlying31 rfl (by first | kernel_rfl | (rw [vfn_size]; kernel_rfl))) rfl ?_
      refine ⟨?_, Below.setRow hB (by omega) _⟩
      rfl
/-- The sum of the first vectors. -/
def sumF (F : Nat → Nat → Int) : Nat → Nat → Int
  | 0, _ => 0
  | k + 1, i => sumF F k i + F k i
theorem sumF_bd (F : Nat → Nat → Int) {n : Nat} (hF : ∀ k, k < n → ∀ j, j < 3 → -4398046511104 ≤ F k j ∧ F k j ≤ 4398046511104) : ∀ k, k ≤ n → ∀ j, j < 3 → -(4398046511104 * k) ≤ sumF F k j ∧ sumF F k j ≤ 4398046511104 * k
  | 0, _, j, _ => by simp [sumF]
  | k + 1, hk, j, hj => by
    have h1 := sumF_bd F hF k (by omega) j hj
    have h2 := hF k (by omega) j hj
    unfold sumF
    omega
set_option maxRecDepth 100000 in
set_option maxHeartbeats 4000000 in
theorem clamped_any (F : Nat → Nat → Int) (n : Nat) (m : Int) (b : Nat) (C : Array Value) (t : TypeId) (w : World) (hb : blk w b C t) (hC : ∀ k, k < n → ∀ j, j < 3 → C[k * 3 + j]? = some (.int .i64 (F k j))) (hn : n ≤ 3) (hF : ∀ k, k < n → ∀ j, j < 3 → -4398046511104 ≤ F k j ∧ F k j ≤ 4398046511104) (h0 : 0 ≤ m) (hm : m ≤ 4398046511104) : Calls Try.prog 101 #[.int .i64 m, .slice (some ⟨b, 0, none⟩) n n] w fun e w' => e = .returned (.agg (vfn fun i => clampV (sumF F n i) (-m) m)) ∧ Below w.heap.size w w' := by
  have hwm : wrap64 (-m) = -m := by unfold wrap64; omega
  have hS := Lib.hid (sumF_bd F hF)
  replace hF := Lib.hid hF
  replace hC := Lib.hid hC
  have hbs := hb.lt
  clear h0 hm
  go_enter Try.func101, Try.ntmps101
  go_upto_region 2 with (fail)
  simp only [zero_vec]
  have r : blk ((w.alloc (.cells (vfn fun _ => 0) 31)).alloc (.cells (vfn fun _ => 0) 31)) w.heap.size (vfn fun _ => 0) 31 := (blk.new _ _ _).alloc _
  have q : blk ((w.alloc (.cells (vfn fun _ => 0) 31)).alloc (.cells (vfn fun _ => 0) 31)) (w.heap.size + 1) (vfn fun _ => 0) 31 := blk.new' (by simp)
  have hB : Below w.heap.size w ((w.alloc (.cells (vfn fun _ => 0) 31)).alloc (.cells (vfn fun _ => 0) 31)) := by go_grown
  have l : blk ((w.alloc (.cells (vfn fun _ => 0) 31)).alloc (.cells (vfn fun _ => 0) 31)) b C t := (hb.alloc _).alloc _
  generalize ((w.alloc (.cells (vfn fun _ => 0) 31)).alloc (.cells (vfn fun _ => 0) 31)) = w0 at *
  clear hb
  have q : blk w0 (w.heap.size + 1) (vfn (sumF F 0)) 31 := q
  go_wp2_with (fail)
  go_loopg [14] n (fun g_ iv wr => ∃ K : Nat, g_ + K = n ∧ iv = .int .i64 K ∧ blk wr w.heap.size (vfn fun _ => 0) 31 ∧ blk wr (w.heap.size + 1) (vfn (sumF F K)) 31 ∧ blk wr b C t ∧ Below w.heap.size w wr)
  case atStart => exact ⟨0, by omega, rfl, r, q, l, hB⟩
  case round =>
    clear r q l hB
    obtain ⟨K, hK, rfl, r, q, l, hB⟩ := hrel
    by_cases hKn : K < n
    · have hdK : decide ((K : Int) < n) = true := decide_eq_true (by omega)
      have hdK' : decide (K < n) = true := decide_eq_true (by omega)
      have hwK : IntKind.i64.wrap ((K : Int) + 1) = ((K + 1 : Nat) : Int) := by rw [IntKind.wrap_i64]; omega
      have hcK := Lib.hid (hC.out K hKn)
      go_upto_region 4 with (fail)
      go_upto_region 5 with (first
        | (refine wpList_load_part ?hw _ _ rfl _ _ rfl _ _ l (vfn (F K)) ?hc _ Try.underlying31 rfl ?hi ?_; (case hw => (first | rfl | (simp [Region.wanted, yielded]; done))); (case hi => (rw [vfn_size]; kernel_rfl)); (case hc => (intro j hj; rw [vfn_size] at hj; rw [hcK.out j hj, vfn_get _ hj])))
        | (rw [zero_vec]; refine wpList_store_row rfl _ _ _ rfl _ rfl _ rfl _ _ (blk.new _ _ _) (by first | kernel_rfl | (rw [vfn_size]; kernel_rfl)) (by first | rfl | simp only [vfn_size]) (by first | exact vfn_one _ | rfl) ?_))
      have hul := q.lt
      have u := (blk.new wr (vfn fun _ => 0) 31).row (vfn (F K))
      replace hB := Below.setRow (hB.alloc hB.size (.cells (vfn fun _ => 0) 31)) (g := wr.heap.size) hB.size (vfn (F K))
      have hne : ∀ x, x < wr.heap.size → x ≠ wr.heap.size := fun x hx => Nat.ne_of_lt hx
      replace r := (r.alloc (.cells (vfn fun _ => 0) 31)).rowOther (hne _ r.lt) (vfn (F K))
      replace q := (q.alloc (.cells (vfn fun _ => 0) 31)).rowOther (hne _ q.lt) (vfn (F K))
      replace l := (l.alloc (.cells (vfn fun _ => 0) 31)).rowOther (hne _ l.lt) (vfn (F K))
      clear hne
      generalize (wr.alloc (.cells (vfn fun _ => 0) 31)).setRow wr.heap.size (vfn (F K)) = wrx at *
      generalize wr.heap.size = u_b at *
      rw [preF_zero_as (sumF F K) (sumF F (K + 1))] at q
      go_wp2_with (first | (refine wpList_load_rowG ?hw _ _ rfl _ rfl _ _ _ _ u Try.underlying31 rfl ?hi ?_; (case hw => (first | rfl | (simp [Region.wanted, yielded]; done))); (case hi => (rw [vfn_size]; kernel_rfl))))
      go_loopg [19] 3 (fun g_ iv wr => ∃ k : Nat, g_ + k = 3 ∧ iv = .int .i64 k ∧ blk wr w.heap.size (vfn fun _ => 0) 31 ∧ blk wr (w.heap.size + 1) (vfn (preF (sumF F (K + 1)) (sumF F K) k)) 31 ∧ blk wr b C t ∧ blk wr u_b (vfn (F K)) 31 ∧ Below w.heap.size w wr)
      case atStart => exact ⟨0, rfl, rfl, r, q, l, u, hB⟩
      case round =>
        clear r q l u hB
        obtain ⟨k, hk, rfl, r, q, l, u, hB⟩ := hrel
        by_cases hkn : k < 3
        · have hdk : decide ((k : Int) < 3) = true := decide_eq_true (by omega)
          have hdk' : decide (k < 3) = true := decide_eq_true (by omega)
          have hk3 : (k : Int) < 3 := by omega
          have hw3 : IntKind.i64.wrap ((k : Int) + 1) = ((k + 1 : Nat) : Int) := by rw [IntKind.wrap_i64]; omega
          have hix : Hid (∀ w, (Instr.index 31 (.agg (vfn (F K))) (.int .i64 k)).run Try.prog w = .ok (.int .i64 (F K k)) w) := fun w => gidx (F K) hkn w
          have fz : wr.frozen? ⟨w.heap.size + 1, k, none⟩ = false := q.free _
          have cz : wr.cell? ⟨w.heap.size + 1, k, none⟩ = some (.int .i64 (sumF F K k)) := by have := q.cellIs (vfn_get _ hkn); rw [preF_at] at this; exact this
          have hws : IntKind.i64.wrap (sumF F K k + F K k) = sumF F (K + 1) k := by have h1 := hS.out K (by omega) k hkn; have h2 := hF.out K hKn k hkn; rw [IntKind.wrap_i64]; show _ = sumF F K k + F K k; omega
          go_wp2_with (first
            | (refine wpList_index ?hw _ _ _ rfl _ rfl k _ rfl rfl _ hix.out ?_; (case hw => (first | rfl | (simp [Region.wanted, yielded]; done)))))
          go_roundg (3 - (k + 1))
          case rel =>
            exact ⟨k + 1, by omega, rfl, r.setOther (by simp) _, q.set' (preF_set _ _ hkn), l.setOther (by simp; omega) _, u.setOther (by simp; omega) _, hB.setCell (by simp) _⟩
          case measure => omega
        · obtain rfl : k = 3 := by omega
          rw [preF_all] at q
          go_wp2_with (fail)
          go_roundg (n - (K + 1))
          case rel =>
            exact ⟨K + 1, by omega, rfl, r, q, l, hB⟩
          case measure => omega
    · obtain rfl : K = n := by omega
      have hdK : decide ((K : Int) < K) = false := decide_eq_false (by omega)
      have hdK' : decide (K < K) = false := decide_eq_false (by omega)
      clear l
      rw [preF_zero_as (sumF F K) (fun i => clampV (sumF F K i) (-m) m)] at q
      have q0 : blk wr (w.heap.size + 1) (vfn (sumF F K)) 31 := by rw [preF_zero] at q; exact q
      go_wp2_with (first | (refine wpList_load_rowG ?hw _ _ rfl _ rfl _ _ _ _ q0 Try.underlying31 rfl ?hi ?_; (case hw => (first | rfl | (simp [Region.wanted, yielded]; done))); (case hi => (rw [vfn_size]; kernel_rfl))))
      clear q0
      go_loopg [32] 3 (fun g_ iv wr => ∃ k : Nat, g_ + k = 3 ∧ iv = .int .i64 k ∧ blk wr w.heap.size (vfn fun _ => 0) 31 ∧ blk wr (w.heap.size + 1) (vfn (preF (fun i => clampV (sumF F K i) (-m) m) (sumF F K) k)) 31 ∧ Below w.heap.size w wr)
      case atStart => exact ⟨0, rfl, rfl, r, q, hB⟩
      case round =>
        clear r q hB
        obtain ⟨k, hk, rfl, r, q, hB⟩ := hrel
        by_cases hkn : k < 3
        · have hdk : decide ((k : Int) < 3) = true := decide_eq_true (by omega)
          have hdk' : decide (k < 3) = true := decide_eq_true (by omega)
          have hk3 : (k : Int) < 3 := by omega
          have hw3 : IntKind.i64.wrap ((k : Int) + 1) = ((k + 1 : Nat) : Int) := by rw [IntKind.wrap_i64]; omega
          have hix : Hid (∀ w, (Instr.index 31 (.agg (vfn (sumF F K))) (.int .i64 k)).run Try.prog w = .ok (.int .i64 (sumF F K k)) w) := fun w => gidx (sumF F K) hkn w
          have CL := Lib.hid (fun w => clamp_any (sumF F K k) (-m) m w)
          have fz : wr.frozen? ⟨w.heap.size + 1, k, none⟩ = false := q.free _
          have cz : wr.cell? ⟨w.heap.size + 1, k, none⟩ = some (.int .i64 (sumF F K k)) := by have := q.cellIs (vfn_get _ hkn); rw [preF_at] at this; exact this
          go_wp2_with (first
            | (refine wpList_index ?hw _ _ _ rfl _ rfl k _ rfl rfl _ hix.out ?_; (case hw => (first | rfl | (simp [Region.wanted, yielded]; done))))
            | (go_at_call 157; with_reducible refine (CL.out _).mono ?_; rintro e w1 ⟨rfl, rfl⟩))
          go_roundg (3 - (k + 1))
          case rel =>
            exact ⟨k + 1, by omega, rfl, r.setOther (by simp) _, q.set' (preF_set (fun i => clampV (sumF F K i) (-m) m) _ hkn), hB.setCell (by simp) _⟩
          case measure => omega
        · obtain rfl : k = 3 := by omega
          rw [preF_all] at q
          go_wp2_with (first
            | (refine wpList_load_rowG ?hw _ _ rfl _ rfl _ _ _ _ q Try.underlying31 rfl ?hi ?_; (case hw => (first | rfl | (simp [Region.wanted, yielded]; done))); (case hi => (first | kernel_rfl | (rw [vfn_size]; kernel_rfl))))
            | (refine wpList_store_row rfl _ _ _ rfl _ rfl _ rfl _ _ r (by first | kernel_rfl | (rw [vfn_size]; kernel_rfl)) (by first | rfl | simp only [vfn_size]) (by first | exact vfn_one _ | rfl) ?_))
          refine bodyPost_ret (results_cell_row rfl _ _ _ _ _ _ _ rfl (r.row (vfn (fun i => clampV (sumF F K i) (-m) m))) Try.underlying31 rfl (by first | kernel_rfl | (rw [vfn_size]; kernel_rfl))) rfl ?_
          refine ⟨?_, Below.setRow hB (by omega) _⟩
          rfl
end Go.Proofs.Ytkmelddejdikgaa
