/-
  Sums of vectors, and small vectors.
-/
import Derived.Test.YtkmelddejdikgaaVecF
set_option linter.unusedSimpArgs false
set_option linter.unusedVariables false
namespace Go.Proofs.Ytkmelddejdikgaa
open Go.RowKit PM Dt
def addF (f g : Nat → Int) : Nat → Int := fun i => f i + g i
set_option maxRecDepth 100000 in
set_option maxHeartbeats 2000000 in
theorem eachAdd_any (x er : Nat → Int) (c1 c2 : Value) (w : World)
    (hf : Hid (∀ i : Nat, i < 3 → ∀ w1, Below w.heap.size w w1 → Calls Try.prog 189 #[.int .i64 i, c1, c2] w1 fun e w' => e = .returned (.tuple #[.int .i64 (x i), .int .i64 (er i)]) ∧ Below w1.heap.size w1 w')) :
    Calls Try.prog 81 #[.bool true, .func (.func 189) #[] #[c1, c2]] w fun e w' => e = .returned (.tuple #[.agg (vfn (eachF x er)), .int .i64 (eachE x er)]) ∧ Below w.heap.size w w' := by
  go_enter Try.func81, Try.ntmps81
  go_upto_region 2 with (fail)
  rw [zero_vec]
  have p : blk ((w.alloc (.cells (vfn fun _ => 0) 31)).alloc (.cells (vfn fun _ => 0) 31)) w.heap.size (vfn fun _ => 0) 31 := (blk.new _ _ _).alloc _
  have q : blk ((w.alloc (.cells (vfn fun _ => 0) 31)).alloc (.cells (vfn fun _ => 0) 31)) (w.heap.size + 1) (vfn fun _ => 0) 31 := blk.new' (by simp)
  have hB : Below w.heap.size w ((w.alloc (.cells (vfn fun _ => 0) 31)).alloc (.cells (vfn fun _ => 0) 31)) := by go_grown
  generalize (w.alloc (.cells (vfn fun _ => 0) 31)).alloc (.cells (vfn fun _ => 0) 31) = w0 at *
  go_wp2_with (fail)
  go_loopg [13] 3 (fun g iv wr => ∃ k : Nat, g + k = 3 ∧ iv = .int .i64 k ∧ Hid (∀ j, j < k → er j = 0 ∧ vb (x j) = true) ∧ blk wr w.heap.size (vfn fun _ => 0) 31 ∧ blk wr (w.heap.size + 1) (vfn (pre3 x k)) 31 ∧ Below w.heap.size w wr)
  case atStart => exact ⟨0, rfl, rfl, fun j hj => by omega, p, by rw [show vfn (pre3 x 0) = vfn (fun _ => 0) from vfn_congr fun i _ => by simp [pre3]]; exact q, hB⟩
  case round =>
    clear p q hB
    obtain ⟨k, hk, rfl, hall, p, q, hB⟩ := hrel
    by_cases hkn : k < 3
    · have hdk : decide ((k : Int) < 3) = true := decide_eq_true (by omega)
      have hdk' : decide (k < 3) = true := decide_eq_true (by omega)
      have hw3 : IntKind.i64.wrap ((k : Int) + 1) = ((k + 1 : Nat) : Int) := by rw [IntKind.wrap_i64]; omega
      have W0 := Lib.hid (fun w => within_any (x k) w)
      have HC := Lib.hid (hf.out k hkn)
      by_cases he : er k = 0
      · have de : (er k != 0) = false := by simp [he]
        have HE := Lib.hid he
        obtain ⟨b, hb⟩ : ∃ b, vb (x k) = b := ⟨_, rfl⟩
        rw [hb] at W0
        have HVB := Lib.hid hb
        clear hb he
        cases b
        · have HG := Lib.hid (show goodE x er = false from goodE_no hkn (by rintro ⟨_, h⟩; rw [HVB.out] at h; cases h))
          go_wp2_with (first
            | (go_at_call 189; refine (HC.out _ hB).mono ?_; rintro e w1 ⟨rfl, hb⟩; replace hB := hB.trans (hb.mono hB.size); replace p := p.below hb p.lt; replace q := q.below hb q.lt; clear hb)
            | (go_at_call 137; refine (W0.out _).mono ?_; rintro e w1 ⟨rfl, rfl⟩)
            | (rw [zero_vec]; refine wpList_store_row rfl _ _ _ rfl _ rfl _ rfl _ _ p (by rw [vfn_size]; kernel_rfl) (by simp only [vfn_size]) (vfn_one _) ?_))
          refine bodyPost_ret (results_vec rfl _ _ _ _ _ _ _ rfl (p.row (vfn (fun _ => 0))) Try.underlying31 rfl (by rw [vfn_size]; kernel_rfl)) rfl ?_; refine ⟨?_, Below.setRow hB (Nat.le_refl _) _⟩
          unfold eachF eachE; rw [HG.out]; rfl
        · go_upto_region 8 with (go_at_call 189; refine (HC.out _ hB).mono ?_; rintro e w1 ⟨rfl, hb⟩; replace hB := hB.trans (hb.mono hB.size); replace p := p.below hb p.lt; replace q := q.below hb q.lt; clear hb)
          have fz : w1.frozen? ⟨w.heap.size + 1, k, none⟩ = false := q.free _
          have cz : w1.cell? ⟨w.heap.size + 1, k, none⟩ = some (.int .i64 (pre3 x k k)) := q.cellIs (vfn_get _ hkn)
          go_wp2_with (go_at_call 137; refine (W0.out _).mono ?_; rintro e w1 ⟨rfl, rfl⟩)
          go_roundg (3 - (k + 1))
          case rel =>
            refine ⟨k + 1, by omega, rfl, fun j hj => ?_, p.setOther (by simp) _, q.set' (vfn_set hkn ?_ ?_), hB.setCell (by simp) _⟩
            · by_cases e : j = k
              · subst e; exact ⟨HE.out, HVB.out⟩
              · exact hall.out j (by omega)
            · simp [pre3]
            · intro j hj hne; simp only [pre3]; split <;> split <;> first | rfl | omega
          case measure => omega
      · have de : (er k != 0) = true := by simpa using he
        have HG := Lib.hid (show goodE x er = false from goodE_no hkn (by rintro ⟨h, _⟩; exact he h))
        clear he
        go_wp2_with (first
          | (go_at_call 189; refine (HC.out _ hB).mono ?_; rintro e w1 ⟨rfl, hb⟩; replace hB := hB.trans (hb.mono hB.size); replace p := p.below hb p.lt; replace q := q.below hb q.lt; clear hb)
          | (rw [zero_vec]; refine wpList_store_row rfl _ _ _ rfl _ rfl _ rfl _ _ p (by rw [vfn_size]; kernel_rfl) (by simp only [vfn_size]) (vfn_one _) ?_))
        refine bodyPost_ret (results_vec rfl _ _ _ _ _ _ _ rfl (p.row (vfn (fun _ => 0))) Try.underlying31 rfl (by rw [vfn_size]; kernel_rfl)) rfl ?_; refine ⟨?_, Below.setRow hB (Nat.le_refl _) _⟩
        unfold eachF eachE; rw [HG.out]; rfl
    · obtain rfl : k = 3 := by omega
      have HG := Lib.hid ((goodE_iff x er).2 hall.out)
      have e3 : vfn (pre3 x 3) = vfn x := vfn_congr fun i hi => by simp [pre3, hi]
      rw [e3] at q
      go_wp2_with (first | (refine wpList_load_rowG ?hw _ _ rfl _ rfl _ _ _ _ q Try.underlying31 rfl ?hi ?_; (case hw => (first | rfl | (simp [Region.wanted, yielded]; done))); (case hi => (rw [vfn_size]; kernel_rfl))) | (refine wpList_store_row rfl _ _ _ rfl _ rfl _ rfl _ _ p (by rw [vfn_size]; kernel_rfl) (by simp only [vfn_size]) (vfn_one _) ?_))
      refine bodyPost_ret (results_vec rfl _ _ _ _ _ _ _ rfl (p.row (vfn x)) Try.underlying31 rfl (by rw [vfn_size]; kernel_rfl)) rfl ?_; refine ⟨?_, Below.setRow hB (Nat.le_refl _) _⟩
      unfold eachF eachE; rw [HG.out]; rfl
set_option maxRecDepth 100000 in
theorem addC_any (f g : Nat → Int) (b c : Nat) (w : World) (hf : okV f = true) (hg : okV g = true) (p : blk w b (vfn f) 31) (q : blk w c (vfn g) 31) (i : Nat) (hi : i < 3) :
    Calls Try.prog 189 #[.int .i64 i, .pointer (some ⟨b, 0, none⟩), .pointer (some ⟨c, 0, none⟩)] w fun e w' => e = .returned (.tuple #[.int .i64 (addF f g i), .int .i64 0]) ∧ Below w.heap.size w w' := by
  have h1 := (vb_iff _).1 ((okV_iff f).1 hf i hi)
  have h2 := (vb_iff _).1 ((okV_iff g).1 hg i hi)
  have hw2 : IntKind.i64.wrap (f i + g i) = addF f g i := by rw [IntKind.wrap_i64]; unfold addF; omega
  have hw3 : wrap64 (f i + g i) = addF f g i := by unfold wrap64 addF; omega
  have hdk : decide ((i : Int) < 3) = true := decide_eq_true (by omega)
  have hdk' : decide (i < 3) = true := decide_eq_true hi
  have hi3 : (i : Int) < 3 := by omega
  clear h1 h2 hf hg
  go_enter Try.func189, Try.ntmps189
  go_upto_region 1 with (fail)
  have hB : More w w := Below.refl _ _
  refine wp_region_Y 99 9 rfl (by kernel_rfl) ?_
  replace p := p.drew
  replace q := q.drew
  replace hB : More w w.drew := hB.drew
  generalize w.drew = wo at *
  refine wpY_takeB 0 (.int .i64 i) rfl rfl (by kernel_rfl) (fun w1 => by go_simp; exact ⟨rfl, Below.refl _ _⟩) ?_
  simp only [Act.put, sIT, sCZ, sCS]
  refine wpY_takeB 1 (.pointer (some ⟨b, i, none⟩)) rfl rfl (by kernel_rfl) (fun w1 => by go_simp; first | exact ⟨rfl, Below.refl _ _⟩ | (rw [if_pos hi3]; exact ⟨rfl, Below.refl _ _⟩)) ?_
  simp only [Act.put, sIT, sCZ, sCS]
  refine wpY_takeA 2 (.int .i64 (f i)) rfl rfl (by kernel_rfl) (by kernel_rfl) (fun w1 h1 => by have hc : w1.cell? ⟨b, i, none⟩ = some (.int .i64 (f i)) := (p.below h1 p.lt).cellIs (vfn_get _ hi); go_simp; exact ⟨rfl, Below.refl _ _⟩) ?_
  simp only [Act.put, sIT, sCZ, sCS]
  refine wpY_takeB 3 (.int .i64 i) rfl rfl (by kernel_rfl) (fun w1 => by go_simp; exact ⟨rfl, Below.refl _ _⟩) ?_
  simp only [Act.put, sIT, sCZ, sCS]
  refine wpY_takeB 4 (.pointer (some ⟨c, i, none⟩)) rfl rfl (by kernel_rfl) (fun w1 => by go_simp; first | exact ⟨rfl, Below.refl _ _⟩ | (rw [if_pos hi3]; exact ⟨rfl, Below.refl _ _⟩)) ?_
  simp only [Act.put, sIT, sCZ, sCS]
  refine wpY_takeA 5 (.int .i64 (g i)) rfl rfl (by kernel_rfl) (by kernel_rfl) (fun w1 h1 => by have hc : w1.cell? ⟨c, i, none⟩ = some (.int .i64 (g i)) := (q.below h1 q.lt).cellIs (vfn_get _ hi); go_simp; exact ⟨rfl, Below.refl _ _⟩) ?_
  simp only [Act.put, sIT, sCZ, sCS]
  refine wpY_takeB 6 (.int .i64 (addF f g i)) rfl rfl (by kernel_rfl) (fun w1 => by go_simp; exact ⟨by first | rfl | rw [hw2] | rw [hw3], Below.refl _ _⟩) ?_
  simp only [Act.put, sIT, sCZ, sCS]
  refine wpY_takeB 7 (.int .i64 (addF f g i)) rfl rfl (by kernel_rfl) (fun w1 => by go_simp; exact ⟨rfl, Below.refl _ _⟩) ?_
  simp only [Act.put, sIT, sCZ, sCS]
  refine wpY_takeB 8 (.int .i64 0) rfl rfl (by kernel_rfl) (fun w1 => by go_simp; exact ⟨rfl, Below.refl _ _⟩) ?_
  simp only [Act.put, sIT, sCZ, sCS]
  refine wpY_end (by kernel_rfl) (fun w3 h3 => ?_)
  replace hB := More.trans hB h3
  go_wp2_with (fail)
  go_ret2
  exact ⟨rfl, hB⟩
def vaddF (f g : Nat → Int) : Nat → Int := if okV f && okV g then resF (addF f g) else fun _ => 0
def vaddE (f g : Nat → Int) : Int := if okV f && okV g then resE (addF f g) else 2
set_option maxRecDepth 100000 in
set_option maxHeartbeats 2000000 in
theorem vadd_any (f g : Nat → Int) (w : World) : Calls Try.prog 153 #[.agg (vfn f), .agg (vfn g)] w fun e w' => e = .returned (.tuple #[.agg (vfn (vaddF f g)), .int .i64 (vaddE f g)]) ∧ Below w.heap.size w w' := by
  have V1 := Lib.hid (fun w => valid_any f w)
  have V2 := Lib.hid (fun w => valid_any g w)
  have hk : ∃ F E, (okV f = true → okV g = true → F = resF (addF f g) ∧ E = resE (addF f g)) ∧ vaddF f g = (if okV f && okV g then F else fun _ => 0) ∧ vaddE f g = (if okV f && okV g then E else 2) := ⟨_, _, fun _ _ => ⟨rfl, rfl⟩, rfl, rfl⟩
  obtain ⟨F, E, hk, e1, e2⟩ := hk
  rw [e1, e2]
  clear e1 e2
  have HK := Lib.hid hk
  clear hk
  obtain ⟨bf, hf⟩ : ∃ b, okV f = b := ⟨_, rfl⟩
  obtain ⟨bg, hg⟩ : ∃ b, okV g = b := ⟨_, rfl⟩
  rw [hf] at V1 HK ⊢
  rw [hg] at V2 HK ⊢
  have HF := Lib.hid hf
  have HG := Lib.hid hg
  clear hf hg
  go_enter Try.func153, Try.ntmps153
  go_upto_region 1 with (fail)
  rw [zero_vec]
  have p : blk (((w.alloc (.cells (vfn f) 31)).alloc (.cells (vfn g) 31)).alloc (.cells (vfn fun _ => 0) 31)) w.heap.size (vfn f) 31 := ((blk.new _ _ _).alloc _).alloc _
  have q : blk (((w.alloc (.cells (vfn f) 31)).alloc (.cells (vfn g) 31)).alloc (.cells (vfn fun _ => 0) 31)) (w.heap.size + 1) (vfn g) 31 := (blk.new' (by simp)).alloc _
  have r : blk (((w.alloc (.cells (vfn f) 31)).alloc (.cells (vfn g) 31)).alloc (.cells (vfn fun _ => 0) 31)) (w.heap.size + 1 + 1) (vfn fun _ => 0) 31 := blk.new' (by simp)
  have hB : Below w.heap.size w (((w.alloc (.cells (vfn f) 31)).alloc (.cells (vfn g) 31)).alloc (.cells (vfn fun _ => 0) 31)) := by go_grown
  generalize ((w.alloc (.cells (vfn f) 31)).alloc (.cells (vfn g) 31)).alloc (.cells (vfn fun _ => 0) 31) = w0 at *
  cases bf
  · go_wp2_with (first
      | (refine wpList_load_rowG ?hw _ _ rfl _ rfl _ _ _ _ p Try.underlying31 rfl ?hi ?_; (case hw => (first | rfl | (simp [Region.wanted, yielded]; done))); (case hi => (rw [vfn_size]; kernel_rfl)))
      | (refine wpList_load_rowG ?hw _ _ rfl _ rfl _ _ _ _ q Try.underlying31 rfl ?hi ?_; (case hw => (first | rfl | (simp [Region.wanted, yielded]; done))); (case hi => (rw [vfn_size]; kernel_rfl)))
      | (go_at_call 78; with_reducible refine (V1.out _).mono ?_; rintro e w1 ⟨rfl, hb⟩; replace hB := hB.trans (hb.mono hB.size); replace p := p.below hb p.lt; replace q := q.below hb q.lt; replace r := r.below hb r.lt; clear hb)
      | (go_at_call 78; with_reducible refine (V2.out _).mono ?_; rintro e w1 ⟨rfl, hb⟩; replace hB := hB.trans (hb.mono hB.size); replace p := p.below hb p.lt; replace q := q.below hb q.lt; replace r := r.below hb r.lt; clear hb)
      | (go_at_call 81; refine (each_no _ _).mono ?_; rintro e w2 ⟨rfl, hb⟩; replace hB := hB.trans (hb.mono hB.size); replace r := r.below hb r.lt; clear hb)
      | (refine wpList_store_row rfl _ _ _ rfl _ rfl _ rfl _ _ r (by rw [vfn_size]; kernel_rfl) (by simp only [vfn_size]) (vfn_one _) ?_))
    refine bodyPost_ret (results_vec rfl _ _ _ _ _ _ _ rfl (r.row (vfn (fun _ => 0))) Try.underlying31 rfl (by rw [vfn_size]; kernel_rfl)) rfl ?_; refine ⟨?_, Below.setRow hB (by omega) _⟩
    rfl
  cases bg
  · go_wp2_with (first
      | (refine wpList_load_rowG ?hw _ _ rfl _ rfl _ _ _ _ p Try.underlying31 rfl ?hi ?_; (case hw => (first | rfl | (simp [Region.wanted, yielded]; done))); (case hi => (rw [vfn_size]; kernel_rfl)))
      | (refine wpList_load_rowG ?hw _ _ rfl _ rfl _ _ _ _ q Try.underlying31 rfl ?hi ?_; (case hw => (first | rfl | (simp [Region.wanted, yielded]; done))); (case hi => (rw [vfn_size]; kernel_rfl)))
      | (go_at_call 78; with_reducible refine (V1.out _).mono ?_; rintro e w1 ⟨rfl, hb⟩; replace hB := hB.trans (hb.mono hB.size); replace p := p.below hb p.lt; replace q := q.below hb q.lt; replace r := r.below hb r.lt; clear hb)
      | (go_at_call 78; with_reducible refine (V2.out _).mono ?_; rintro e w1 ⟨rfl, hb⟩; replace hB := hB.trans (hb.mono hB.size); replace p := p.below hb p.lt; replace q := q.below hb q.lt; replace r := r.below hb r.lt; clear hb)
      | (go_at_call 81; refine (each_no _ _).mono ?_; rintro e w2 ⟨rfl, hb⟩; replace hB := hB.trans (hb.mono hB.size); replace r := r.below hb r.lt; clear hb)
      | (refine wpList_store_row rfl _ _ _ rfl _ rfl _ rfl _ _ r (by rw [vfn_size]; kernel_rfl) (by simp only [vfn_size]) (vfn_one _) ?_))
    refine bodyPost_ret (results_vec rfl _ _ _ _ _ _ _ rfl (r.row (vfn (fun _ => 0))) Try.underlying31 rfl (by rw [vfn_size]; kernel_rfl)) rfl ?_; refine ⟨?_, Below.setRow hB (by omega) _⟩
    rfl
  obtain ⟨hF, hE⟩ := HK.out rfl rfl
  have HFE := Lib.hid (And.intro hF hE)
  clear HK hF hE
  go_wp2_with (first
      | (refine wpList_load_rowG ?hw _ _ rfl _ rfl _ _ _ _ p Try.underlying31 rfl ?hi ?_; (case hw => (first | rfl | (simp [Region.wanted, yielded]; done))); (case hi => (rw [vfn_size]; kernel_rfl)))
      | (refine wpList_load_rowG ?hw _ _ rfl _ rfl _ _ _ _ q Try.underlying31 rfl ?hi ?_; (case hw => (first | rfl | (simp [Region.wanted, yielded]; done))); (case hi => (rw [vfn_size]; kernel_rfl)))
      | (go_at_call 78; with_reducible refine (V1.out _).mono ?_; rintro e w1 ⟨rfl, hb⟩; replace hB := hB.trans (hb.mono hB.size); replace p := p.below hb p.lt; replace q := q.below hb q.lt; replace r := r.below hb r.lt; clear hb)
      | (go_at_call 78; with_reducible refine (V2.out _).mono ?_; rintro e w1 ⟨rfl, hb⟩; replace hB := hB.trans (hb.mono hB.size); replace p := p.below hb p.lt; replace q := q.below hb q.lt; replace r := r.below hb r.lt; clear hb)
      | (go_at_call 81; refine (eachAdd_any (addF f g) (fun _ => 0) _ _ _ (fun i hi wx hx => addC_any f g _ _ wx HF.out HG.out (p.below hx p.lt) (q.below hx q.lt) i hi)).mono ?_; rintro e w2 ⟨rfl, hb⟩; rw [(each_res _).1, (each_res _).2, ← HFE.out.1, ← HFE.out.2]; replace hB := hB.trans (hb.mono hB.size); replace r := r.below hb r.lt; clear hb)
      | (refine wpList_store_row rfl _ _ _ rfl _ rfl _ rfl _ _ r (by rw [vfn_size]; kernel_rfl) (by simp only [vfn_size]) (vfn_one _) ?_))
  refine bodyPost_ret (results_vec rfl _ _ _ _ _ _ _ rfl (r.row (vfn F)) Try.underlying31 rfl (by rw [vfn_size]; kernel_rfl)) rfl ?_; refine ⟨?_, Below.setRow hB (by omega) _⟩
  rfl
def sb (m a : Int) : Bool := decide (-m ≤ a) && decide (a ≤ m)
theorem sb_iff (m a : Int) : sb m a = true ↔ (-m ≤ a ∧ a ≤ m) := by unfold sb; rw [Bool.and_eq_true, decide_eq_true_eq, decide_eq_true_eq]
def smallB (f : Nat → Int) (m : Int) : Bool := sb m (f 0) && (sb m (f 1) && sb m (f 2))
theorem smallB_iff (f : Nat → Int) (m : Int) : smallB f m = true ↔ ∀ i, i < 3 → sb m (f i) = true := by
  unfold smallB
  rw [Bool.and_eq_true, Bool.and_eq_true]
  constructor
  · rintro ⟨h0, h1, h2⟩ i hi
    have : i = 0 ∨ i = 1 ∨ i = 2 := by omega
    rcases this with rfl | rfl | rfl <;> assumption
  · intro h; exact ⟨h 0 (by omega), h 1 (by omega), h 2 (by omega)⟩
theorem smallB_no {f : Nat → Int} {m : Int} {i : Nat} (h : i < 3) (hb : ¬ (-m ≤ f i ∧ f i ≤ m)) : smallB f m = false := by
  rw [Bool.eq_false_iff]; intro h2
  exact hb ((sb_iff _ _).1 ((smallB_iff f m).1 h2 i h))
end Go.Proofs.Ytkmelddejdikgaa
