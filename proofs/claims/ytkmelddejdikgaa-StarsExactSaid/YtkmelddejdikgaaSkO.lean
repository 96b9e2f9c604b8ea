/-
  StarsExact and StarsExchanged, plainly. Chapter 20: StarsExact.
-/
import Derived.Test.YtkmelddejdikgaaLaL
import Derived.Test.YtkmelddejdikgaaSkN
set_option linter.unusedSimpArgs false
set_option linter.unusedVariables false
namespace Go.Proofs.Ytkmelddejdikgaa.La
open Go.RowKit PM Dt
/-- What 'fits' says. -/
def fitsB (f g : Nat → Int) : Bool := (betE f g == 0) && ((normE (fun j => betF f g (j + 1)) == 0) && decide (normV (fun j => betF f g (j + 1)) ≤ 4096))
theorem fitsB_of {f g : Nat → Int} (h1 : betE f g = 0) (h2 : NB 3 (fun j => betF f g (j + 1)) 1871) : fitsB f g = true := by
  obtain ⟨a, b, c⟩ := small_norm (by omega) (by omega) h2
  unfold fitsB
  rw [h1, a, decide_eq_true (by omega)]; rfl
theorem vun_star {f : Nat → Int} (h : vunE f = 0) : Star (vunF f) ∧ okV (vunF f) = true ∧ (normV (vunF f) = 1073741824 ∨ normV (vunF f) = 1073741823) := by
  have hk : okV f = true ∧ zV f = false := by
    unfold vunE at h
    cases h1 : okV f <;> cases h2 : zV f <;> simp_all
  obtain ⟨a, _, b⟩ := vun_norm hk.1 hk.2
  exact ⟨star_of a b, a, b⟩
def exA (L : Nat → Nat → Int) : Nat → Nat → Int := fun s => vunF (L s)
def exB (q : Nat → Int) (L : Nat → Nat → Int) : Nat → Nat → Int := fun s => qbackF (qunF q) (vunF (L s))
theorem exS_eq (q : Nat → Int) (L : Nat → Nat → Int) : exS q L = sgS (exA L) (exB q L) := rfl
theorem ex_facts {q : Nat → Int} {L : Nat → Nat → Int} {n : Nat} (hok : okQ q = true) (hz : zQ q = false) (hE : ∀ s, s < n → vunE (L s) = 0 ∧ qbackE (qunF q) (vunF (L s)) = 0) :
    1073741822 * 1073741822 ≤ nn (qunF q) ∧ nn (qunF q) < 1073741826 * 1073741826 ∧ (∀ s, s < n → Star (exA L s)) ∧ (∀ s, s < n → Seen (qunF q) (exA L s) (exB q L s)) := by
  obtain ⟨_, h1, _, h2, h3⟩ := qun_core hok hz
  have vu := valid_nn' h2 h3
  refine ⟨h2, h3, fun s hs => (vun_star (hE s hs).1).1, fun s hs => ?_⟩
  obtain ⟨_, a, b⟩ := vun_star (hE s hs).1
  exact (seen_of vu h2 h3 a b).2
theorem slv_val {S : Nat → Sgt} {n : Nat} (hv : valS S n = true) (hs : 536870912 ≤ sprI S n n) : slvV S n = solF (itrF (hlfF (matF S n)) 12) ∧ slvE S n = 0 := by
  unfold slvV slvE slvOk
  rw [hv, decide_eq_true hs, if_pos rfl, if_pos hs]
  exact ⟨rfl, rfl⟩
theorem res_le {p : Nat → Int} {S : Nat → Sgt} {n : Nat} (hv : valS S n = true) (vp : validQ p = true) (hm : ∀ s, s < n → (S s).m = 1) (h : ∀ s, s < n → sgRes p (S s) ≤ 4096) : resV p S n ≤ 4096 ∧ resE2 p S n = 0 := by
  obtain ⟨h0, h1, h2⟩ := valS_iff.1 hv
  obtain ⟨f1, f2⟩ := fsum_one (f := sgRes p) hm
  unfold resV resE2 resOk
  rw [hv, vp]
  refine ⟨?_, rfl⟩
  show ratioV (fsum S (sgRes p) n) 1 (wsum S n) ≤ 4096
  rw [f1, f2]
  have u := sm_le (n := n) (f := fun s => sgRes p (S s)) (g := fun _ => 4096) h
  rw [sm_const] at u
  have l := sm_nn (n := n) (f := fun s => sgRes p (S s)) fun s _ => by unfold sgRes; exact (normV_bd _).1
  generalize sm n (fun s => sgRes p (S s)) = F at *
  unfold ratioV ratioQ
  rw [if_neg (by omega), if_neg (by omega), Int.mul_one]
  obtain ⟨a, b⟩ := near_er (x := F) (n := (n : Int)) (by omega)
  generalize nearest F n = x at *
  have hx : x ≤ 4096 := by
    apply Int.not_lt.1; intro hc
    have : 2 * (n : Int) * (4096 + 1) ≤ 2 * n * x := Int.mul_le_mul_of_nonneg_left (by omega) (by omega)
    omega
  have hx0 : -1 ≤ x := by
    apply Int.not_lt.1; intro hc
    have : 2 * (n : Int) * x ≤ 2 * n * (-1 - 1) := Int.mul_le_mul_of_nonneg_left (by omega) (by omega)
    omega
  rw [fit_id (by omega)]
  exact hx
theorem okQ_64 {p : Nat → Int} (h : okQ p = true) : ∀ i, i < 4 → I64 (p i) := fun i hi => by have := okQ_bd h hi; exact ⟨by omega, by omega⟩
/-- StarsExact, plainly. -/
theorem exact_all {q : Nat → Int} {L : Nat → Nat → Int} {n : Nat} (hok : okQ q = true) (hz : zQ q = false) (hn2 : 2 ≤ n) (hn4 : n ≤ 4) (hE : ∀ s, s < n → vunE (L s) = 0 ∧ qbackE (qunF q) (vunF (L s)) = 0) (hv : valS (exS q L) n = true) (hs : 536870912 ≤ sprI (exS q L) n n) :
    slvE (exS q L) n = 0 ∧ resE2 (slvV (exS q L) n) (exS q L) n = 0 ∧ resV (slvV (exS q L) n) (exS q L) n ≤ 4096 ∧ fitsB (slvV (exS q L) n) (qunF q) = true ∧ ∀ i, i < 4 → I64 (slvV (exS q L) n i) := by
  obtain ⟨u1, u2, ha, hb⟩ := ex_facts hok hz hE
  obtain ⟨e1, e2⟩ := slv_val hv hs
  obtain ⟨p1, p2, p3, p4⟩ := sol_ang u1 u2 (exact_st hn2 hn4 u1 u2 ha hb hs)
  rw [← exS_eq] at p1 p2 p3 p4
  rw [← e1] at p1 p2 p3 p4
  obtain ⟨f1, f2⟩ := fit_ang p2 p3 u1 u2 (ang_pe p4)
  obtain ⟨r1, r2⟩ := res_le hv (valid_nn' p2 p3) (fun s _ => rfl) (fun s hs' => res_ang p2 p3 u1 u2 p4 (ha s hs') (hb s hs'))
  exact ⟨e2, r2, r1, fitsB_of f1 f2, okQ_64 p1⟩
end Go.Proofs.Ytkmelddejdikgaa.La
namespace Go.Proofs.Ytkmelddejdikgaa
open Go.RowKit PM Dt
set_option maxRecDepth 100000 in
set_option maxHeartbeats 20000000 in
theorem starsexact_any (q : Nat → Int) (L : Nat → Nat → Int) (a : Option Addr) (n c : Nat) (w : World) (el : ElemsA w a n 3 (fun k => (vfn (L k)).toList)) (hq : ∀ i, i < 4 → I64 (q i)) (hL : ∀ k, k < n → ∀ i, i < 3 → I64 (L k i)) (hnn : n ≤ maxLen) : Calls Try.prog 6 #[.agg (qfn q), .slice a n c] w fun e w' => e = .returned (.bool true) ∧ Below w.heap.size w w' := by
  have AW := Lib.hid (fun w => awake20_any w)
  have EX := Lib.hid (fun w el => sexact_any q L a n c w el hq hL hnn)
  replace el := Lib.hid el
  clear hq hL
  go_enter Try.func6, Try.ntmps6
  go_upto_region 1 with (fail)
  have qb : blk (w.alloc (.cells (qfn q) 23)) w.heap.size (qfn q) 23 := blk.new _ _ _
  have hB : Below w.heap.size w (w.alloc (.cells (qfn q) 23)) := by go_grown
  generalize (w.alloc (.cells (qfn q) 23)) = w0 at *
  go_upto_region 2 with (first | (refine wpList_load_rowG ?hw _ _ rfl _ rfl _ _ _ _ qb Try.underlying23 rfl ?hi ?_; (case hw => (first | rfl | (simp [Region.wanted, yielded]; done))); (case hi => (first | kernel_rfl | (rw [qfn_size]; kernel_rfl)))) | (go_at_call 18; refine (EX.out _ (el.out.below hB)).mono ?_; rintro e w1 hP; obtain ⟨U, sl, BX, rfl, hb, hf⟩ := hP; replace hB := hB.trans (hb.mono hB.size); replace qb := qb.below hb qb.lt; replace hf := Lib.hid hf; clear hb) | (rw [zero_quat]; refine wpList_store_row rfl _ _ _ rfl _ rfl _ rfl _ _ (blk.new _ _ _) (by first | kernel_rfl | (rw [qfn_size]; kernel_rfl)) (by first | rfl | simp only [qfn_size]) (by first | exact qfn_one _ | rfl) ?_))
  clear EX el
  cases BX
  case false =>
    clear hf qb
    replace hB : Below w.heap.size w ((w1.alloc (.cells (qfn fun _ => 0) 23)).setRow w1.heap.size (qfn U)) := Below.setRow (hB.alloc hB.size _) hB.size _
    go_wp2_with (first
      | (go_at_call 11; with_reducible refine (AW.out _).mono ?_; rintro e w2 ⟨rfl, hb⟩; replace hB := hB.trans (hb.mono hB.size); clear hb))
    go_ret
    exact ⟨rfl, hB⟩
  obtain ⟨nb, cap, rfl, hok, hz, hn2, hn4, rfl, hnb, hel, hE, hv, hs⟩ := hf.out rfl
  clear hf
  obtain ⟨x1, x2, x3, x4, x5⟩ := La.exact_all hok hz hn2 hn4 hE hv hs
  have SO := Lib.hid (fun w el => ssolve_any (exS q L) (some ⟨nb, 0, none⟩) n cap w el (by omega))
  rw [x1] at SO
  have RE := Lib.hid (fun w el => sres_any (slvV (exS q L) n) (exS q L) (some ⟨nb, 0, none⟩) n cap w el (by omega) x5)
  rw [x2] at RE
  have FI := Lib.hid (fun w => sfits_any (slvV (exS q L) n) (qunF q) w x5 (qun_I q))
  rw [show ((betE (slvV (exS q L) n) (qunF q) == 0) && ((normE (fun j => betF (slvV (exS q L) n) (qunF q) (j + 1)) == 0) && decide (normV (fun j => betF (slvV (exS q L) n) (qunF q) (j + 1)) ≤ 4096))) = true from x4] at FI
  have d1 : decide (resV (slvV (exS q L) n) (exS q L) n ≤ 4096) = true := decide_eq_true x3
  generalize resV (slvV (exS q L) n) (exS q L) n = R at *
  generalize slvV (exS q L) n = p at *
  generalize qunF q = u at *
  replace hel := Lib.hid hel
  clear x1 x2 x3 x4 x5 hok hz hE hv hs hn2 hn4
  have hnew : Below w1.heap.size w1 ((w1.alloc (.cells (qfn fun _ => 0) 23)).setRow w1.heap.size (qfn u)) := Below.setRow ((Below.refl _ _).alloc (Nat.le_refl _) _) (Nat.le_refl _) _
  replace hel := Lib.hid (hel.out.below hnew)
  clear hnew
  have ub := (blk.new w1 (qfn fun _ => 0) 23).row (qfn u)
  replace hB := Below.setRow (hB.alloc hB.size (.cells (qfn fun _ => 0) 23)) (g := w1.heap.size) hB.size (qfn u)
  have hne : ∀ x, x < w1.heap.size → x ≠ w1.heap.size := fun x hx => Nat.ne_of_lt hx
  replace qb := (qb.alloc (.cells (qfn fun _ => 0) 23)).rowOther (hne _ qb.lt) (qfn u)
  clear hne
  generalize (w1.alloc (.cells (qfn fun _ => 0) 23)).setRow w1.heap.size (qfn u) = w1x at *
  generalize w1.heap.size = ub_b at *
  go_upto_region 5 with (first | (go_at_call 15; with_reducible refine (SO.out _ hel.out).mono ?_; rintro e w2 ⟨rfl, hb⟩; replace hB := hB.trans (hb.mono hB.size); replace hel := Lib.hid (hel.out.below hb); replace qb := qb.below hb qb.lt; replace ub := ub.below hb ub.lt; clear hb) | (rw [zero_quat]; refine wpList_store_row rfl _ _ _ rfl _ rfl _ rfl _ _ (blk.new _ _ _) (by first | kernel_rfl | (rw [qfn_size]; kernel_rfl)) (by first | rfl | simp only [qfn_size]) (by first | exact qfn_one _ | rfl) ?_))
  have hnew : Below w2.heap.size w2 ((w2.alloc (.cells (qfn fun _ => 0) 23)).setRow w2.heap.size (qfn p)) := Below.setRow ((Below.refl _ _).alloc (Nat.le_refl _) _) (Nat.le_refl _) _
  replace hel := Lib.hid (hel.out.below hnew)
  clear hnew
  have pb := (blk.new w2 (qfn fun _ => 0) 23).row (qfn p)
  replace hB := Below.setRow (hB.alloc hB.size (.cells (qfn fun _ => 0) 23)) (g := w2.heap.size) hB.size (qfn p)
  have hne : ∀ x, x < w2.heap.size → x ≠ w2.heap.size := fun x hx => Nat.ne_of_lt hx
  replace qb := (qb.alloc (.cells (qfn fun _ => 0) 23)).rowOther (hne _ qb.lt) (qfn p)
  replace ub := (ub.alloc (.cells (qfn fun _ => 0) 23)).rowOther (hne _ ub.lt) (qfn p)
  clear hne
  generalize (w2.alloc (.cells (qfn fun _ => 0) 23)).setRow w2.heap.size (qfn p) = w2x at *
  generalize w2.heap.size = pb_b at *
  go_wp2_with (first | (refine wpList_load_rowG ?hw _ _ rfl _ rfl _ _ _ _ pb Try.underlying23 rfl ?hi ?_; (case hw => (first | rfl | (simp [Region.wanted, yielded]; done))); (case hi => (first | kernel_rfl | (rw [qfn_size]; kernel_rfl)))) | (refine wpList_load_rowG ?hw _ _ rfl _ rfl _ _ _ _ ub Try.underlying23 rfl ?hi ?_; (case hw => (first | rfl | (simp [Region.wanted, yielded]; done))); (case hi => (first | kernel_rfl | (rw [qfn_size]; kernel_rfl)))) | (go_at_call 12; with_reducible refine (RE.out _ hel.out).mono ?_; rintro e w3 ⟨rfl, hb⟩; replace hB := hB.trans (hb.mono hB.size); replace hel := Lib.hid (hel.out.below hb); replace qb := qb.below hb qb.lt; replace ub := ub.below hb ub.lt; replace pb := pb.below hb pb.lt; clear hb) | (go_at_call 19; with_reducible refine (FI.out _).mono ?_; rintro e w4 ⟨rfl, hb⟩; replace hB := hB.trans (hb.mono hB.size); replace qb := qb.below hb qb.lt; replace ub := ub.below hb ub.lt; replace pb := pb.below hb pb.lt; clear hb) | (go_at_call 11; with_reducible refine (AW.out _).mono ?_; rintro e w5 ⟨rfl, hb⟩; replace hB := hB.trans (hb.mono hB.size); replace qb := qb.below hb qb.lt; replace ub := ub.below hb ub.lt; replace pb := pb.below hb pb.lt; clear hb))
  go_ret
  exact ⟨rfl, hB⟩
end Go.Proofs.Ytkmelddejdikgaa
