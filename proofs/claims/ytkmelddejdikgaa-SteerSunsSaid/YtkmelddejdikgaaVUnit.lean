/-
  Unit vectors, in the package and in the specification.
-/
import Derived.Test.YtkmelddejdikgaaShift
set_option linter.unusedSimpArgs false
set_option linter.unusedVariables false
namespace Go.Proofs.Ytkmelddejdikgaa
open Go.RowKit PM Dt
def n3 (f : Nat → Int) : Int := hypQ [f 0, f 1, f 2]
theorem sqv_lt {a b : Int} (hb : 0 ≤ b) (h : a * a < b * b) : -b < a ∧ a < b := by
  have key : ∀ x : Int, b ≤ x → b * b ≤ x * x := fun x hx => Int.mul_le_mul hx hx hb (by omega)
  constructor
  · apply Classical.byContradiction; intro hc
    have := key (-a) (by omega)
    rw [Int.neg_mul_neg] at this
    omega
  · apply Classical.byContradiction; intro hc
    have := key a (by omega)
    omega
theorem sqs3_i (f : Nat → Int) : ((sqs [f 0, f 1, f 2] : Nat) : Int) = f 0 * f 0 + f 1 * f 1 + f 2 * f 2 := by
  rw [sqs_cons, sqs_cons, sqs_cons, sqs_nil]
  have e : ∀ a : Int, ((a.natAbs * a.natAbs : Nat) : Int) = a * a := fun a => by rw [Int.natCast_mul]; exact Int.natAbs_mul_self' a
  have := e (f 0)
  have := e (f 1)
  have := e (f 2)
  omega
theorem near_bd {a c : Int} (hc : 0 < c) (h1 : -c ≤ a) (h2 : a ≤ c) : -1073741824 ≤ nearest (a * 1073741824) c ∧ nearest (a * 1073741824) c ≤ 1073741824 := by
  unfold nearest
  constructor
  · exact Int.le_ediv_of_mul_le (by omega) (by omega)
  · have : (2 * (a * 1073741824) + c) / (2 * c) < 1073741825 := Int.ediv_lt_of_lt_mul (by omega) (by omega)
    omega
theorem unit_fit {F : Nat → Int} (hF : upb 3 F) (hb : sml 3 F = false) : I64 (fitV (n3 F)) ∧ ∀ i, i < 3 → ratioE (F i) 1073741824 (fitV (n3 F)) = 0 ∧ vb (ratioV (F i) 1073741824 (fitV (n3 F))) = true := by
  have e := sqs3_i F
  have q : ∀ i, i < 3 → 0 ≤ F i * F i ∧ F i * F i ≤ 4951760157141521099596496896 := fun i hi => by
    have hh := hF i hi
    have := bmul (P := 70368744177664) (R := 70368744177664) hh.1 hh.2 hh.1 hh.2
    refine ⟨?_, this.2⟩
    by_cases h : 0 ≤ F i
    · exact Int.mul_nonneg h h
    · exact Int.mul_nonneg_of_nonpos_of_nonpos (by omega) (by omega)
  have q0 := q 0 (by omega)
  have q1 := q 1 (by omega)
  have q2 := q 2 (by omega)
  obtain ⟨j, hj, hs⟩ : ∃ j, j < 3 ∧ sm (F j) = false := by
    apply Classical.byContradiction; intro hn
    have : sml 3 F = true := (sml_iff 3 F).2 fun i hi => by
      cases hx : sm (F i) with
      | true => rfl
      | false => exact absurd ⟨i, hi, hx⟩ hn
    rw [hb] at this; cases this
  have big : 1237940039285380274899124224 ≤ F j * F j := by
    have : ¬ (-35184372088832 < F j ∧ F j < 35184372088832) := fun hc => by rw [(sm_iff _).2 hc] at hs; cases hs
    by_cases h : 35184372088832 ≤ F j
    · exact Int.mul_le_mul h h (by omega) (by omega)
    · have h2 : 35184372088832 ≤ -F j := by omega
      have := Int.mul_le_mul h2 h2 (by omega) (by omega : (0 : Int) ≤ -F j)
      rw [Int.neg_mul_neg] at this
      exact this
  have hS : sqs [F 0, F 1, F 2] < 9223372036854775808 * 9223372036854775808 := by omega
  have hS1 : 35184372088832 * 35184372088832 ≤ sqs [F 0, F 1, F 2] := by
    have : j = 0 ∨ j = 1 ∨ j = 2 := by omega
    rcases this with rfl | rfl | rfl <;> omega
  have h4 : sqs [F 0, F 1, F 2] < 4 ^ 200 := Nat.lt_trans hS (by decide)
  have hr : isqrt (sqs [F 0, F 1, F 2]) < 9223372036854775808 := (isqrt_lt h4).2 hS
  have hl : 35184372088832 ≤ isqrt (sqs [F 0, F 1, F 2]) := (isqrt_ge h4).2 hS1
  have hu : sqs [F 0, F 1, F 2] < (isqrt (sqs [F 0, F 1, F 2]) + 1) * (isqrt (sqs [F 0, F 1, F 2]) + 1) := (isqrt_lt h4).1 (Nat.lt_succ_self _)
  have hN : fitV (n3 F) = ((isqrt (sqs [F 0, F 1, F 2]) : Nat) : Int) := (fit_of (q := n3 F) (by unfold n3 hypQ; omega) (by unfold n3 hypQ; omega)).1
  rw [hN]
  generalize isqrt (sqs [F 0, F 1, F 2]) = N at *
  refine ⟨⟨by omega, by omega⟩, fun i hi => ?_⟩
  have hc : ((N : Int) + 1) * ((N : Int) + 1) = (((N + 1) * (N + 1) : Nat) : Int) := by rw [Int.natCast_mul]; rfl
  have hi2 : F i * F i < ((N : Int) + 1) * ((N : Int) + 1) := by
    rw [hc]
    have : i = 0 ∨ i = 1 ∨ i = 2 := by omega
    rcases this with rfl | rfl | rfl <;> omega
  have ha := sqv_lt (by omega) hi2
  have nb := near_bd (a := F i) (c := (N : Int)) (by omega) (by omega) (by omega)
  have eq : ratioQ (F i) 1073741824 (N : Int) = nearest (F i * 1073741824) (N : Int) := by unfold ratioQ; rw [if_neg (by omega)]
  have ft := fit_of (q := nearest (F i * 1073741824) (N : Int)) (by omega) (by omega)
  unfold ratioV ratioE
  rw [if_neg (by omega), if_neg (by omega), eq, ft.1, ft.2]
  exact ⟨rfl, (vb_iff _).2 (by omega)⟩
def zV (f : Nat → Int) : Bool := (List.range 3).all fun j => f j == 0
theorem zV_no {f : Nat → Int} (h : zV f = false) : low 3 45 f := by
  have : ∃ j, j < 3 ∧ f j ≠ 0 := by
    apply Classical.byContradiction
    intro hn
    have : zV f = true := by
      unfold zV; rw [List.all_eq_true]
      intro j hj
      have hj := List.mem_range.1 hj
      exact beq_iff_eq.2 (Classical.byContradiction fun hc => hn ⟨j, hj, hc⟩)
    rw [h] at this; cases this
  obtain ⟨j, hj, hz⟩ := this
  exact low_start hj hz
theorem zV_yes {f : Nat → Int} (h : zV f = true) : vfn f = vfn fun _ => 0 := vfn_congr fun i hi => by
  unfold zV at h; rw [List.all_eq_true] at h
  exact beq_iff_eq.1 (h i (List.mem_range.2 hi))
theorem ok_upb3 {f : Nat → Int} (h : okV f = true) : upb 3 f := fun i hi => by
  have := (vb_iff _).1 ((okV_iff f).1 h i hi)
  omega
theorem shft_done : ∀ (k n : Nat) (f : Nat → Int), low n k f → sml n (shft n k f) = false
  | 0, n, f, h => low_zero h
  | k + 1, n, f, h => by
    by_cases hs : sml n f = true
    · rw [shft_step hs]; exact shft_done k n (dbl f) (low_step h)
    · rw [shft_big (by simpa using hs)]; simpa using hs
def vuX (f : Nat → Int) (i : Nat) : Int := ratioV (shft 3 45 f i) 1073741824 (fitV (n3 (shft 3 45 f)))
def vunF (f : Nat → Int) : Nat → Int := if okV f then (if zV f then fun _ => 0 else vuX f) else fun _ => 0
def vunE (f : Nat → Int) : Int := if okV f then (if zV f then 4 else 0) else 2
theorem vec_eq0 (f : Nat → Int) (w : World) : (Op.equalIn 10000 31 (.agg (vfn f)) (.agg #[.int .i64 0, .int .i64 0, .int .i64 0])).run Try.prog w = .ok (zV f) w := by
  rw [zero_vec]
  obtain ⟨i, hi⟩ : ∃ i, Try.prog.info? 2 = some i := Option.isSome_iff_exists.1 (by kernel_rfl)
  have hc : Try.prog.cellsOf 2 = 1 := by kernel_rfl
  exact run_equalIn_ints (P := Try.prog) Try.underlying31 hi hc Try.underlying2 f (fun _ => 0) (vfn f) (vfn fun _ => 0) (fun j hj => vfn_get _ hj) (fun j hj => vfn_get _ hj) 9998 w
theorem hyp3_any (f : Nat → Int) (b : Nat) (w : World) (t : TypeId) (h : ∀ i, i < 3 → I64 (f i)) (p : blk w b (vfn f) t) :
    Calls Try.prog 80 #[.slice (some ⟨b, 0, none⟩) 3 3] w fun e w' => e = .returned (.tuple #[.int .i64 (fitV (n3 f)), .int .i64 (fitE (n3 f))]) ∧ w = w' :=
  (hypot_any [f 0, f 1, f 2] _ w (ints3 p) (list_I3 h)).mono fun e w' h => ⟨h.1.trans (by rw [if_neg (by simp), if_neg (by simp)]; rfl), h.2⟩
set_option maxRecDepth 100000 in
set_option maxHeartbeats 1000000 in
theorem smC_any (a : Int) (w : World) : Calls Try.prog 79 #[.int .i64 a] w fun e w' => e = .returned (.bool (sm a)) ∧ w = w' := by
  unfold sm
  go_enter Try.func79, Try.ntmps79
  by_cases h1 : -35184372088832 < a
  · have d1 : decide (-35184372088832 < a) = true := decide_eq_true h1
    clear h1
    go_wp2_with (fail)
    go_ret
    exact ⟨by first | rfl | (rw [d1]; rfl), rfl⟩
  · have d1 : decide (-35184372088832 < a) = false := decide_eq_false h1
    clear h1
    go_wp2_with (fail)
    go_ret
    exact ⟨by first | rfl | (rw [d1]; rfl), rfl⟩
set_option maxRecDepth 100000 in
theorem vunitC_any (F : Nat → Int) (N : Int) (b c : Nat) (t : TypeId) (w : World) (hF : upb 3 F) (hN : I64 N) (p : blk w b (vfn F) 31) (q : blk w c #[.int .i64 N] t) (i : Nat) (hi : i < 3) :
    Calls Try.prog 82 #[.int .i64 i, .pointer (some ⟨b, 0, none⟩), .pointer (some ⟨c, 0, none⟩)] w fun e w' => e = .returned (.tuple #[.int .i64 (ratioV (F i) 1073741824 N), .int .i64 (ratioE (F i) 1073741824 N)]) ∧ Below w.heap.size w w' := by
  have R := Lib.hid (fun w => ratio_any (F i) 1073741824 N w (upb_I hF i hi) ⟨by decide, by decide⟩ hN)
  generalize ratioV (F i) 1073741824 N = V at *
  generalize ratioE (F i) 1073741824 N = E at *
  have hdk : decide ((i : Int) < 3) = true := decide_eq_true (by omega)
  have hdk' : decide (i < 3) = true := decide_eq_true hi
  have hi3 : (i : Int) < 3 := by omega
  clear hF hN
  go_enter Try.func82, Try.ntmps82
  go_upto_region 1 with (fail)
  have hB : More w w := Below.refl _ _
  refine wp_region_Y 99 9 rfl (by kernel_rfl) ?_
  replace p := p.drew
  replace q := q.drew
  replace hB : More w w.drew := hB.drew
  generalize w.drew = wo at *
  refine wpY_takeB 0 (.int .i64 i) rfl rfl (by kernel_rfl) (fun w1 => by go_simp; exact ⟨rfl, Below.refl _ _⟩) ?_
  simp only [Act.put, sIT, sCZ, sCS]
  refine wpY_takeB 1 (.pointer (some ⟨b, i, none⟩)) rfl rfl (by kernel_rfl) (fun w1 => by go_simp; first | exact ⟨rfl, Below.refl _ _⟩ | (rw [if_pos hi3]; exact ⟨rfl, Below.refl _ _⟩)) ?_
  simp only [Act.put, sIT, sCZ, sCS]
  refine wpY_takeA 2 (.int .i64 (F i)) rfl rfl (by kernel_rfl) (by kernel_rfl) (fun w1 h1 => by have hc : w1.cell? ⟨b, i, none⟩ = some (.int .i64 (F i)) := (p.below h1 p.lt).cellIs (vfn_get _ hi); go_simp; exact ⟨rfl, Below.refl _ _⟩) ?_
  simp only [Act.put, sIT, sCZ, sCS]
  refine wpY_takeA 3 (.int .i64 N) rfl rfl (by kernel_rfl) (by kernel_rfl) (fun w1 h1 => by have hc : w1.cell? ⟨c, 0, none⟩ = some (.int .i64 N) := (q.below h1 q.lt).cellIs rfl; go_simp; exact ⟨rfl, Below.refl _ _⟩) ?_
  simp only [Act.put, sIT, sCZ, sCS]
  refine wpY_takeA 4 (.tuple #[.int .i64 V, .int .i64 E]) rfl rfl (by kernel_rfl) (by kernel_rfl) (fun w1 h1 => ?_) ?_
  · go_simp
    refine (R.out _).mono ?_
    rintro e w2 ⟨rfl, h2⟩
    exact ⟨rfl, h2⟩
  simp only [Act.put, sIT, sCZ, sCS]
  refine wpY_takeB 5 (.int .i64 V) rfl rfl (by kernel_rfl) (fun w1 => by go_simp; exact ⟨rfl, Below.refl _ _⟩) ?_
  simp only [Act.put, sIT, sCZ, sCS]
  refine wpY_takeB 6 (.int .i64 E) rfl rfl (by kernel_rfl) (fun w1 => by go_simp; exact ⟨rfl, Below.refl _ _⟩) ?_
  simp only [Act.put, sIT, sCZ, sCS]
  refine wpY_takeB 7 (.int .i64 V) rfl rfl (by kernel_rfl) (fun w1 => by go_simp; exact ⟨rfl, Below.refl _ _⟩) ?_
  simp only [Act.put, sIT, sCZ, sCS]
  refine wpY_takeB 8 (.int .i64 E) rfl rfl (by kernel_rfl) (fun w1 => by go_simp; exact ⟨rfl, Below.refl _ _⟩) ?_
  simp only [Act.put, sIT, sCZ, sCS]
  refine wpY_end (by kernel_rfl) (fun w3 h3 => ?_)
  replace hB := More.trans hB h3
  go_wp2_with (fail)
  go_ret2
  exact ⟨rfl, hB⟩
set_option maxRecDepth 100000 in
set_option maxHeartbeats 2000000 in
theorem eachUnit_any (x er : Nat → Int) (c1 c2 : Value) (w : World)
    (hf : Hid (∀ i : Nat, i < 3 → ∀ w1, Below w.heap.size w w1 → Calls Try.prog 82 #[.int .i64 i, c1, c2] w1 fun e w' => e = .returned (.tuple #[.int .i64 (x i), .int .i64 (er i)]) ∧ Below w1.heap.size w1 w')) :
    Calls Try.prog 81 #[.bool true, .func (.func 82) #[] #[c1, c2]] w fun e w' => e = .returned (.tuple #[.agg (vfn (eachF x er)), .int .i64 (eachE x er)]) ∧ Below w.heap.size w w' := by
  go_enter Try.func81, Try.ntmps81
  go_upto_region 2 with (fail)
  rw [zero_vec]
  have p : blk ((w.alloc (.cells (vfn fun _ => 0) 31)).alloc (.cells (vfn fun _ => 0) 31)) w.heap.size (vfn fun _ => 0) 31 := (blk.new _ _ _).alloc _
  have q : blk ((w.alloc (.cells (vfn fun _ => 0) 31)).alloc (.cells (vfn fun _ => 0) 31)) (w.heap.size + 1) (vfn fun _ => 0) 31 := blk.new' (by simp)
  have hB : Below w.heap.size w ((w.alloc (.cells (vfn fun _ => 0) 31)).alloc (.cells (vfn fun _ => 0) 31)) := by go_grown
  generalize (w.alloc (.cells (vfn fun _ => 0) 31)).alloc (.cells (vfn fun _ => 0) 31) = w0 at *
  go_wp2_with (fail)
  go_loopg [13] 3 (fun g iv wr => ∃ k : Nat, g + k = 3 ∧ iv = .int .i64 k ∧ Hid (∀ j, j < k → er j = 0 ∧ vb (x j) = true) ∧ blk wr w.heap.size (vfn fun _ => 0) 31 ∧ blk wr (w.heap.size + 1) (vfn (pre3 x k)) 31 ∧ Below w.heap.size w wr)
  case atStart => exact ⟨0, rfl, rfl, fun j hj => by omega, p, by rw [show vfn (pre3 x 0) = vfn (fun _ => 0) from vfn_congr fun i _ => by simp [pre3]]; exact q, hB⟩
  case round =>
    clear p q hB
    obtain ⟨k, hk, rfl, hall, p, q, hB⟩ := hrel
    by_cases hkn : k < 3
    · have hdk : decide ((k : Int) < 3) = true := decide_eq_true (by omega)
      have hdk' : decide (k < 3) = true := decide_eq_true (by omega)
      have hw3 : IntKind.i64.wrap ((k : Int) + 1) = ((k + 1 : Nat) : Int) := by rw [IntKind.wrap_i64]; omega
      have W0 := Lib.hid (fun w => within_any (x k) w)
      have HC := Lib.hid (hf.out k hkn)
      by_cases he : er k = 0
      · have de : (er k != 0) = false := by simp [he]
        have HE := Lib.hid he
        obtain ⟨b, hb⟩ : ∃ b, vb (x k) = b := ⟨_, rfl⟩
        rw [hb] at W0
        have HVB := Lib.hid hb
        clear hb he
        cases b
        · have HG := Lib.hid (show goodE x er = false from goodE_no hkn (by rintro ⟨_, h⟩; rw [HVB.out] at h; cases h))
          go_wp2_with (first
            | (go_at_call 82; refine (HC.out _ hB).mono ?_; rintro e w1 ⟨rfl, hb⟩; replace hB := hB.trans (hb.mono hB.size); replace p := p.below hb p.lt; replace q := q.below hb q.lt; clear hb)
            | (go_at_call 137; refine (W0.out _).mono ?_; rintro e w1 ⟨rfl, rfl⟩)
            | (rw [zero_vec]; refine wpList_store_row rfl _ _ _ rfl _ rfl _ rfl _ _ p (by rw [vfn_size]; kernel_rfl) (by simp only [vfn_size]) (vfn_one _) ?_))
          refine bodyPost_ret (results_vec rfl _ _ _ _ _ _ _ rfl (p.row (vfn (fun _ => 0))) Try.underlying31 rfl (by rw [vfn_size]; kernel_rfl)) rfl ?_; refine ⟨?_, Below.setRow hB (Nat.le_refl _) _⟩
          unfold eachF eachE; rw [HG.out]; rfl
        · go_upto_region 8 with (go_at_call 82; refine (HC.out _ hB).mono ?_; rintro e w1 ⟨rfl, hb⟩; replace hB := hB.trans (hb.mono hB.size); replace p := p.below hb p.lt; replace q := q.below hb q.lt; clear hb)
          have fz : w1.frozen? ⟨w.heap.size + 1, k, none⟩ = false := q.free _
          have cz : w1.cell? ⟨w.heap.size + 1, k, none⟩ = some (.int .i64 (pre3 x k k)) := q.cellIs (vfn_get _ hkn)
          go_wp2_with (go_at_call 137; refine (W0.out _).mono ?_; rintro e w1 ⟨rfl, rfl⟩)
          go_roundg (3 - (k + 1))
          case rel =>
            refine ⟨k + 1, by omega, rfl, fun j hj => ?_, p.setOther (by simp) _, q.set' (vfn_set hkn ?_ ?_), hB.setCell (by simp) _⟩
            · by_cases e : j = k
              · subst e; exact ⟨HE.out, HVB.out⟩
              · exact hall.out j (by omega)
            · simp [pre3]
            · intro j hj hne; simp only [pre3]; split <;> split <;> first | rfl | omega
          case measure => omega
      · have de : (er k != 0) = true := by simpa using he
        have HG := Lib.hid (show goodE x er = false from goodE_no hkn (by rintro ⟨h, _⟩; exact he h))
        clear he
        go_wp2_with (first
          | (go_at_call 82; refine (HC.out _ hB).mono ?_; rintro e w1 ⟨rfl, hb⟩; replace hB := hB.trans (hb.mono hB.size); replace p := p.below hb p.lt; replace q := q.below hb q.lt; clear hb)
          | (rw [zero_vec]; refine wpList_store_row rfl _ _ _ rfl _ rfl _ rfl _ _ p (by rw [vfn_size]; kernel_rfl) (by simp only [vfn_size]) (vfn_one _) ?_))
        refine bodyPost_ret (results_vec rfl _ _ _ _ _ _ _ rfl (p.row (vfn (fun _ => 0))) Try.underlying31 rfl (by rw [vfn_size]; kernel_rfl)) rfl ?_; refine ⟨?_, Below.setRow hB (Nat.le_refl _) _⟩
        unfold eachF eachE; rw [HG.out]; rfl
    · obtain rfl : k = 3 := by omega
      have HG := Lib.hid ((goodE_iff x er).2 hall.out)
      have e3 : vfn (pre3 x 3) = vfn x := vfn_congr fun i hi => by simp [pre3, hi]
      rw [e3] at q
      go_wp2_with (first | (refine wpList_load_rowG ?hw _ _ rfl _ rfl _ _ _ _ q Try.underlying31 rfl ?hi ?_; (case hw => (first | rfl | (simp [Region.wanted, yielded]; done))); (case hi => (rw [vfn_size]; kernel_rfl))) | (refine wpList_store_row rfl _ _ _ rfl _ rfl _ rfl _ _ p (by rw [vfn_size]; kernel_rfl) (by simp only [vfn_size]) (vfn_one _) ?_))
      refine bodyPost_ret (results_vec rfl _ _ _ _ _ _ _ rfl (p.row (vfn x)) Try.underlying31 rfl (by rw [vfn_size]; kernel_rfl)) rfl ?_; refine ⟨?_, Below.setRow hB (Nat.le_refl _) _⟩
      unfold eachF eachE; rw [HG.out]; rfl
theorem each_good {x er : Nat → Int} (h : ∀ i, i < 3 → er i = 0 ∧ vb (x i) = true) : eachF x er = x ∧ eachE x er = 0 := by
  have := (goodE_iff x er).2 h
  unfold eachF eachE
  rw [this]
  exact ⟨rfl, rfl⟩
end Go.Proofs.Ytkmelddejdikgaa
