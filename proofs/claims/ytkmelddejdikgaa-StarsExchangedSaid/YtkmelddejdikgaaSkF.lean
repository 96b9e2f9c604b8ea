/-
  A table of sixteen numbers, filled by any function. Entries of the matrix of a sight.
-/
import Derived.Test.YtkmelddejdikgaaSkB
import Derived.Test.YtkmelddejdikgaaSkC
import Derived.Test.YtkmelddejdikgaaVecF
set_option linter.unusedSimpArgs false
set_option linter.unusedVariables false
namespace Go.Proofs.Ytkmelddejdikgaa
open Go.RowKit PM Dt
def tbn (g : Nat → Int) : Array Value := ((List.range 16).map fun i => Value.int .i64 (g i)).toArray
theorem tbn_size (g : Nat → Int) : (tbn g).size = 16 := by simp [tbn]
theorem tbn_one (g : Nat → Int) : (tbn g).all (·.oneCell') = true := by simp [tbn, Value.oneCell']
theorem tbn_get (g : Nat → Int) {i : Nat} (h : i < 16) : (tbn g)[i]? = some (.int .i64 (g i)) := by simp [tbn, List.getElem?_range h]
theorem tbn_congr {f g : Nat → Int} (h : ∀ i, i < 16 → f i = g i) : tbn f = tbn g := by
  unfold tbn
  rw [List.map_congr_left]
  intro i hi
  rw [h i (List.mem_range.1 hi)]
theorem zero_tb : #[Value.int .i64 0, .int .i64 0, .int .i64 0, .int .i64 0, .int .i64 0, .int .i64 0, .int .i64 0, .int .i64 0, .int .i64 0, .int .i64 0, .int .i64 0, .int .i64 0, .int .i64 0, .int .i64 0, .int .i64 0, .int .i64 0] = tbn (fun _ => 0) := rfl
theorem tbover (f g : Nat → Int) : over (tbn f) 0 (tbn g).toList = tbn g := over_full (by rw [tbn_size, tbn_size])
theorem tbn_set {f g : Nat → Int} {i : Nat} {v : Int} (h : i < 16) (hx : v = g i) (hg : ∀ j, j < 16 → j ≠ i → f j = g j) : (tbn f).setIfInBounds i (.int .i64 v) = tbn g := by
  apply Array.ext_getElem?
  intro j
  rw [Array.getElem?_setIfInBounds]
  by_cases hj : j < 16
  · rw [tbn_get g hj, tbn_get f hj]
    split
    · rename_i e; subst e; rw [if_pos (by rw [tbn_size]; exact h), hx]
    · rename_i e; rw [hg j hj (Ne.symm e)]
  · have n1 : (tbn f)[j]? = none := Array.getElem?_eq_none (by rw [tbn_size]; omega)
    have n2 : (tbn g)[j]? = none := Array.getElem?_eq_none (by rw [tbn_size]; omega)
    rw [n1, n2, if_neg (by omega)]
def pre16 (x : Nat → Int) (n : Nat) : Nat → Int := fun j => if j < n then x j else 0
theorem pre16_set (x : Nat → Int) {n : Nat} (h : n < 16) : (tbn (pre16 x n)).setIfInBounds n (.int .i64 (x n)) = tbn (pre16 x (n + 1)) :=
  tbn_set h (by simp [pre16]) fun j hj hne => by simp only [pre16]; split <;> split <;> first | rfl | omega
theorem pre16_all (x : Nat → Int) : tbn (pre16 x 16) = tbn x := tbn_congr fun i hi => by simp [pre16, hi]
theorem pre16_zero (x : Nat → Int) : tbn (fun _ => 0) = tbn (pre16 x 0) := tbn_congr fun i hi => by simp [pre16]
set_option maxRecDepth 100000 in
set_option maxHeartbeats 8000000 in
theorem sfill_any (X : Nat → Int) (N : Nat) (cs : Array Value) (w : World) (CF : ∀ i k : Nat, i < 4 → k < 4 → ∀ w1, Below w.heap.size w w1 → Calls Try.prog N (#[.int .i64 i, .int .i64 k] ++ cs) w1 fun e w' => e = .returned (.int .i64 (X (i * 4 + k))) ∧ Below w1.heap.size w1 w') (HN : ∀ ar w1, Sem.run Try.prog (callFunc N ar) w1 = .ok (.enter N ar) w1) : Calls Try.prog 56 #[.func (.func N) #[] cs] w fun e w' => e = .returned (.agg (tbn X)) ∧ Below w.heap.size w w' := by
  replace CF := Lib.hid CF
  replace HN := Lib.hid HN
  go_enter Try.func56, Try.ntmps56
  go_upto_region 2 with (fail)
  simp only [zero_tb]
  have r : blk ((w.alloc (.cells (tbn fun _ => 0) 113)).alloc (.cells (tbn fun _ => 0) 113)) w.heap.size (tbn fun _ => 0) 113 := (blk.new _ _ _).alloc _
  have m : blk ((w.alloc (.cells (tbn fun _ => 0) 113)).alloc (.cells (tbn fun _ => 0) 113)) (w.heap.size + 1) (tbn fun _ => 0) 113 := blk.new' (by simp)
  have hB : Below w.heap.size w ((w.alloc (.cells (tbn fun _ => 0) 113)).alloc (.cells (tbn fun _ => 0) 113)) := by go_grown
  generalize ((w.alloc (.cells (tbn fun _ => 0) 113)).alloc (.cells (tbn fun _ => 0) 113)) = w0 at *
  have hne : w.heap.size ≠ w.heap.size + 1 := by omega
  go_wp2_with (fail)
  go_loopg [6] 4 (fun g_ iv wr => ∃ i : Nat, g_ + i = 4 ∧ iv = .int .i64 i ∧ blk wr w.heap.size (tbn fun _ => 0) 113 ∧ blk wr (w.heap.size + 1) (tbn (pre16 X (i * 4))) 113 ∧ Below w.heap.size w wr)
  case atStart => exact ⟨0, rfl, rfl, r, by rw [pre16_zero X] at m; exact m, hB⟩
  case round =>
    clear r m hB
    obtain ⟨i, hi, rfl, r, m, hB⟩ := hrel
    by_cases hin : i < 4
    · have hdi : decide ((i : Int) < 4) = true := decide_eq_true (by omega)
      have hdi' : decide (i < 4) = true := decide_eq_true hin
      have hi3 : (i : Int) < 4 := by omega
      have hwi : IntKind.i64.wrap ((i : Int) + 1) = ((i + 1 : Nat) : Int) := by rw [IntKind.wrap_i64]; omega
      go_wp2_with (fail)
      go_loopg [9] 4 (fun g_ iv wr => ∃ k : Nat, g_ + k = 4 ∧ iv = .int .i64 k ∧ blk wr w.heap.size (tbn fun _ => 0) 113 ∧ blk wr (w.heap.size + 1) (tbn (pre16 X (i * 4 + k))) 113 ∧ Below w.heap.size w wr)
      case atStart => exact ⟨0, rfl, rfl, r, m, hB⟩
      case round =>
        clear r m hB
        obtain ⟨k, hk, rfl, r, m, hB⟩ := hrel
        by_cases hkn : k < 4
        · have hdk : decide ((k : Int) < 4) = true := decide_eq_true (by omega)
          have hdk' : decide (k < 4) = true := decide_eq_true hkn
          have hk3 : (k : Int) < 4 := by omega
          have hwk : IntKind.i64.wrap ((k : Int) + 1) = ((k + 1 : Nat) : Int) := by rw [IntKind.wrap_i64]; omega
          have CC := Lib.hid (CF.out i k hin hkn)
          have ne_r_m : w.heap.size ≠ w.heap.size + 1 := by omega
          go_upto_region 8 with (fail)
          have lt_r := r.lt
          have lt_m := m.lt
          have hW0 : w.heap.size ≤ wr.heap.size := by have := hB.size; first | exact this | simpa using this
          apply wp_region_I 9 [0, 0, 0, 0, 0, 28, 1, 127, 255] [] [_, _, _, _, _, _, _, _, (fun _ => undef)] (fun p L w' => wr.heap.size ≤ w'.heap.size ∧ Below w.heap.size w w' ∧ blk w' w.heap.size (tbn (fun _ => 0)) 113 ∧ blk w' (w.heap.size + 1) (bif L 8 then (tbn (pre16 X (i * 4 + k + 1))) else (tbn (pre16 X (i * 4 + k)))) 113) _ [(0, 12), (1, 13), (2, 14), (3, 15), (4, 16), (5, 17), (6, 18), (7, 19)] [0, 1, 2, 3, 4, 5, 6, 7, 8]
          case hn => rfl
          case hm => kernel_rfl
          case hB => kernel_rfl
          case hds => kernel_rfl
          case hA => (intro p; simp only [putsD, Act.put, List.setIfInBounds_toArray, List.set_cons_zero, List.set_cons_succ, List.getD_cons_zero, List.getD_cons_succ]; exact rfl)
          case h0 => exact fun p => ⟨Nat.le_refl _, hB.drew, r.drew, m.drew⟩
          case hmore => exact fun p L w1 w2 ⟨hsz, hB, r, m⟩ hm => ⟨Nat.le_trans hsz hm.size, hB.trans (hm.mono (Nat.le_trans hW0 hsz)), r.below hm r.lt, m.below hm m.lt⟩
          case hs =>
            intro more
            iterate 5 (refine stepV _ rfl rfl (fun _ _ _ h => h) (by intros; go_simp; exact ⟨rfl, rfl⟩) ?_)
            refine stepD 5 rfl (fun p => rfl) (fun _ _ _ h => h) more ?_ ?_
            · rintro p L w1 ⟨hsz, hB, r, m⟩ hk
              go_simp
              rw [HN.out]
              simp only [DetR]
              refine (CC.out _ hB).mono ?_
              rintro e w2 ⟨rfl, h2⟩
              first | exact ⟨rfl, h2⟩ | (subst h2; exact ⟨rfl, Below.refl _ _⟩)
            iterate 2 (refine stepV _ rfl rfl (fun _ _ _ h => h) (by intros; go_simp; exact ⟨rfl, rfl⟩) ?_)
            refine AllI.cons ?_ ?_
            · refine stepI_cell 8 rfl (fun p => rfl) (fun p => rfl) (fun _ => (w.heap.size + 1)) (i * 4 + k) (fun p => .int .i64 (X (i * 4 + k))) (fun p => (tbn (pre16 X (i * 4 + k)))) (fun p => (tbn (pre16 X (i * 4 + k + 1)))) 113 (fun p => pre16_set X (by omega)) ?_ ?_ ?_
              · rintro p L w1 ⟨hsz, hB, r, m⟩ hk
                have L8 : L 8 = false := hk.1
                rw [L8] at m
                try simp only [cond_true, cond_false] at m
                exact m
              · intro p w1 hb
                have fz : w1.frozen? ⟨(w.heap.size + 1), i * 4 + k, none⟩ = false := hb.free _
                have cz : ∃ u, w1.cell? ⟨(w.heap.size + 1), i * 4 + k, none⟩ = some u := ⟨_, hb.cellIs (tbn_get _ (by omega))⟩
                obtain ⟨u, cz⟩ := cz
                go_simp
                try exact ⟨_, rfl, by first | exact .inl rfl | exact .inr rfl⟩
              · rintro p L w1 ⟨hsz, hB, r, m⟩ hk
                have L8 : L 8 = false := hk.1
                refine ⟨(by simpa using hsz), Below.setRow hB (by first | exact Nat.le_trans hW0 hp.1 | exact ge_m | omega | (have := hB.size; simp at this ⊢; omega)) _, r.rowOther (by first | exact ne_r_m | exact Ne.symm ne_m_r | omega) _, ?_⟩
                rw [show upL L 8 8 = true from rfl]
                exact m.row _
            exact AllI.nil
          case hV0 => exact fun p q => AllI.nil
          case he =>
          clear hB r m
          rintro p wrr ⟨hsz, hB, r, m⟩
          replace m : blk wrr (w.heap.size + 1) (tbn (pre16 X (i * 4 + k + 1))) 113 := m
          clear lt_r
          clear lt_m
          clear hsz hW0
          clear CC
          go_wp2_with (fail)
          go_roundg (4 - (k + 1))
          case rel => exact ⟨k + 1, by omega, rfl, r, m, hB⟩
          case measure => omega
        · obtain rfl : k = 4 := by omega
          go_wp2_with (fail)
          go_roundg (4 - (i + 1))
          case rel => exact ⟨i + 1, by omega, rfl, r, by rw [show (i + 1) * 4 = i * 4 + 4 by omega]; exact m, hB⟩
          case measure => omega
    · obtain rfl : i = 4 := by omega
      replace m : blk wr (w.heap.size + 1) (tbn X) 113 := by rw [← pre16_all X]; exact m
      go_wp2_with (first | (refine wpList_load_rowG ?hw _ _ rfl _ rfl _ _ _ _ m Try.underlying113 rfl ?hi ?_; (case hw => (first | rfl | (simp [Region.wanted, yielded]; done))); (case hi => (first | kernel_rfl | (rw [tbn_size]; kernel_rfl)))) | (refine wpList_store_row rfl _ _ _ rfl _ rfl _ rfl _ _ r (by first | kernel_rfl | (rw [tbn_size]; kernel_rfl)) (by first | rfl | simp only [tbn_size]) (by first | exact tbn_one _ | rfl) ?_))
      refine bodyPost_ret (results_cell_row rfl _ _ _ _ _ _ _ rfl (r.row (tbn X)) Try.underlying113 rfl (by rw [tbn_size]; kernel_rfl)) rfl ?_; refine ⟨rfl, Below.setRow hB (by omega) _⟩
end Go.Proofs.Ytkmelddejdikgaa
namespace Go.Proofs.Ytkmelddejdikgaa
open Go.RowKit PM Dt
theorem intsK2 {w : World} {b : Nat} {a c : Int} {t : TypeId} (h : blk w b #[.int .i64 a, .int .i64 c] t) : Ints w (.slice (some ⟨b, 0, none⟩) 2 2) [a, c] :=
  Or.inr ⟨by simp, b, 0, 2, rfl, h.lt, fun k hk => by
    rcases k with _ | _ | k
    · exact h.cellIs rfl
    · exact h.cellIs rfl
    · simp at hk; omega⟩
theorem list_K2 {a b : Int} (ha : I64 a) (hb : I64 b) : ∀ k, k < [a, b].length → I64 ([a, b].getD k 0) := by
  intro k hk
  have hk : k < 2 := hk
  rcases (show k = 0 ∨ k = 1 by omega) with rfl | rfl <;> assumption
theorem dot2k_any (a b c d : Int) (x y : Nat) (w : World) (t : TypeId) (ha : I64 a) (hb : I64 b) (hc : I64 c) (hd : I64 d) (p : blk w x #[.int .i64 a, .int .i64 b] t) (q : blk w y #[.int .i64 c, .int .i64 d] t) :
    Calls Try.prog 60 #[.slice (some ⟨x, 0, none⟩) 2 2, .slice (some ⟨y, 0, none⟩) 2 2] w fun e w' => e = .returned (.tuple #[.int .i64 (dotV [a, b] [c, d]), .int .i64 (dotE [a, b] [c, d])]) ∧ Below w.heap.size w w' :=
  dot_any [a, b] [c, d] _ _ w (intsK2 p) (intsK2 q) (list_K2 ha hb) (list_K2 hc hd)
/-- An entry of the matrix of a sight, above or on the diagonal. -/
def entL (y : Sgt) (lo hi : Nat) : Int :=
  if hi = 0 then vdotV y.a y.b else if lo = 0 then vcrossF y.b y.a (hi - 1) else dotV [y.a (lo - 1), y.a (hi - 1)] [y.b (hi - 1), y.b (lo - 1)] - (if lo = hi then vdotV y.a y.b else 0)
def entF (y : Sgt) (i k : Nat) : Int := if k < i then entL y k i else entL y i k
/-- A direction's components. -/
theorem abs_of_sq {x N : Int} (hN : 0 ≤ N) (h : x * x < (N + 1) * (N + 1)) : -N ≤ x ∧ x ≤ N := by
  constructor
  · apply Int.not_lt.1; intro hc
    have : (N + 1) * (N + 1) ≤ (-x) * (-x) := Int.mul_le_mul (by omega) (by omega) (by omega) (by omega)
    rw [Int.neg_mul_neg] at this; omega
  · apply Int.not_lt.1; intro hc
    have : (N + 1) * (N + 1) ≤ x * x := Int.mul_le_mul (by omega) (by omega) (by omega) (by omega)
    omega
theorem dirB_ok {f : Nat → Int} (h : dirB f = true) : okV f = true := by
  cases hk : okV f with
  | true => rfl
  | false => unfold dirB normE at h; rw [if_neg (by rw [hk]; decide)] at h; simp at h
theorem dirB_bd {f : Nat → Int} (h : dirB f = true) : ∀ i, i < 3 → -1073741888 ≤ f i ∧ f i ≤ 1073741888 := by
  have hk := dirB_ok h
  obtain ⟨_, N, hN, _, h2, _⟩ := norm_val hk
  have h3 : (N : Int) ≤ 1073741888 := by
    simp only [dirB, Bool.and_eq_true, decide_eq_true_eq] at h
    omega
  have q0 := sq_nn (f 0)
  have q1 := sq_nn (f 1)
  have q2 := sq_nn (f 2)
  intro i hi
  have : f i * f i < ((N : Int) + 1) * ((N : Int) + 1) := by
    rcases (show i = 0 ∨ i = 1 ∨ i = 2 by omega) with rfl | rfl | rfl <;> omega
  have := abs_of_sq (by omega) this
  omega
theorem mul_bd3 {x y : Int} (hx : -1073741888 ≤ x ∧ x ≤ 1073741888) (hy : -1073741888 ≤ y ∧ y ≤ 1073741888) : -1152921642045804544 ≤ x * y ∧ x * y ≤ 1152921642045804544 := by
  have h := Int.mul_le_mul_of_nonneg_left (a := 1073741888 - y) (b := 0) (c := 1073741888 + x)
  have a1 := Int.mul_nonneg (show 0 ≤ 1073741888 - x by omega) (show 0 ≤ 1073741888 - y by omega)
  have a2 := Int.mul_nonneg (show 0 ≤ 1073741888 + x by omega) (show 0 ≤ 1073741888 + y by omega)
  have a3 := Int.mul_nonneg (show 0 ≤ 1073741888 + x by omega) (show 0 ≤ 1073741888 - y by omega)
  have a4 := Int.mul_nonneg (show 0 ≤ 1073741888 - x by omega) (show 0 ≤ 1073741888 + y by omega)
  have e1 : (1073741888 - x) * (1073741888 - y) = 1152921642045804544 - 1073741888 * x - 1073741888 * y + x * y := by grind
  have e2 : (1073741888 + x) * (1073741888 + y) = 1152921642045804544 + 1073741888 * x + 1073741888 * y + x * y := by grind
  have e3 : (1073741888 + x) * (1073741888 - y) = 1152921642045804544 + 1073741888 * x - 1073741888 * y - x * y := by grind
  have e4 : (1073741888 - x) * (1073741888 + y) = 1152921642045804544 - 1073741888 * x + 1073741888 * y - x * y := by grind
  rw [e1] at a1; rw [e2] at a2; rw [e3] at a3; rw [e4] at a4
  generalize x * y = t at *
  omega
theorem rnd_bd3 {t : Int} (h : -3458764926137413632 ≤ t ∧ t ≤ 3458764926137413632) : -4294967296 ≤ rnd t ∧ rnd t ≤ 4294967296 := by unfold rnd; omega
theorem vdot_dir {y : Sgt} (h : sgOk y = true) : -4294967296 ≤ vdotV y.a y.b ∧ vdotV y.a y.b ≤ 4294967296 := by
  simp only [sgOk, Bool.and_eq_true, decide_eq_true_eq] at h
  have ha := dirB_bd h.1
  have hb := dirB_bd h.2.1
  unfold vdotV
  rw [dirB_ok h.1, dirB_ok h.2.1, if_pos (by rfl)]
  apply rnd_bd3
  have m0 := mul_bd3 (ha 0 (by omega)) (hb 0 (by omega))
  have m1 := mul_bd3 (ha 1 (by omega)) (hb 1 (by omega))
  have m2 := mul_bd3 (ha 2 (by omega)) (hb 2 (by omega))
  unfold d3
  rw [dotS_cons, dotS_cons, dotS_cons, dotS_nil]
  omega
theorem dot2_dir {a b c d : Int} (ha : -1073741888 ≤ a ∧ a ≤ 1073741888) (hb : -1073741888 ≤ b ∧ b ≤ 1073741888) (hc : -1073741888 ≤ c ∧ c ≤ 1073741888) (hd : -1073741888 ≤ d ∧ d ≤ 1073741888) : dotV [a, b] [c, d] = rnd (a * c + b * d) ∧ -4294967296 ≤ rnd (a * c + b * d) ∧ rnd (a * c + b * d) ≤ 4294967296 := by
  have m0 := mul_bd3 ha hc
  have m1 := mul_bd3 hb hd
  have r := rnd_bd3 (t := a * c + b * d) (by omega)
  refine ⟨?_, r⟩
  unfold dotV
  rw [if_neg (by simp), dotS_cons, dotS_cons, dotS_nil, Int.add_zero]
  unfold fitV inI
  rw [if_pos (by simp only [Bool.and_eq_true, decide_eq_true_eq]; omega)]
theorem cross_dir {y : Sgt} (h : sgOk y = true) {i : Nat} (hi : i < 3) : -4294967296 ≤ vcrossF y.b y.a i ∧ vcrossF y.b y.a i ≤ 4294967296 := by
  simp only [sgOk, Bool.and_eq_true, decide_eq_true_eq] at h
  have ha := dirB_bd h.1
  have hb := dirB_bd h.2.1
  have key : ∀ i, i < 3 → -4294967296 ≤ crossX y.b y.a i ∧ crossX y.b y.a i ≤ 4294967296 := fun i hi => by
    unfold crossX twoV
    apply rnd_bd3
    have m0 := mul_bd3 (hb ((i + 1) % 3) (by omega)) (ha ((i + 2) % 3) (by omega))
    have m1 := mul_bd3 (hb ((i + 2) % 3) (by omega)) (ha ((i + 1) % 3) (by omega))
    rw [dotS_cons, dotS_cons, dotS_nil, Int.neg_mul]
    omega
  unfold vcrossF
  split
  · split
    · exact key i hi
    · exact ⟨by show (-4294967296 : Int) ≤ 0; omega, by show (0 : Int) ≤ 4294967296; omega⟩
  · exact ⟨by show (-4294967296 : Int) ≤ 0; omega, by show (0 : Int) ≤ 4294967296; omega⟩
theorem entL_bd {y : Sgt} (h : sgOk y = true) {lo hi : Nat} (hl : lo ≤ hi) (hh : hi < 4) : -8589934592 ≤ entL y lo hi ∧ entL y lo hi ≤ 8589934592 := by
  have d := vdot_dir h
  unfold entL
  split
  · omega
  · split
    · have := cross_dir h (i := hi - 1) (by omega); omega
    · simp only [sgOk, Bool.and_eq_true, decide_eq_true_eq] at h
      obtain ⟨e, b1, b2⟩ := dot2_dir (dirB_bd h.1 (lo - 1) (by omega)) (dirB_bd h.1 (hi - 1) (by omega)) (dirB_bd h.2.1 (hi - 1) (by omega)) (dirB_bd h.2.1 (lo - 1) (by omega))
      rw [e]
      split <;> omega
theorem entF_bd {y : Sgt} (h : sgOk y = true) {i k : Nat} (hi : i < 4) (hk : k < 4) : -8589934592 ≤ entF y i k ∧ entF y i k ≤ 8589934592 := by
  unfold entF; split
  · exact entL_bd h (by omega) hi
  · exact entL_bd h (by omega) hk
set_option maxRecDepth 100000 in
set_option maxHeartbeats 8000000 in
theorem sent_le (y : Sgt) (LO HI : Nat) (w : World) (h : sgOk y = true) (hhi : HI < 4) (hlo : LO ≤ HI) : Calls Try.prog 67 #[.agg (sgc y), .int .i64 LO, .int .i64 HI] w fun e w' => e = .returned (.int .i64 (entL y LO HI)) ∧ Below w.heap.size w w' := by
  have DO := Lib.hid (fun w => vdot_any y.a y.b w)
  have dB := vdot_dir h
  have hs : decide ((HI : Int) < LO) = false := decide_eq_false (by omega)
  have hs' : decide (HI < LO) = false := decide_eq_false (by omega)
  have h0 := h
  simp only [sgOk, Bool.and_eq_true, decide_eq_true_eq] at h0
  by_cases c0 : HI = 0
  · subst c0
    have e0 : entL y LO 0 = vdotV y.a y.b := by unfold entL; rw [if_pos rfl]
    rw [e0]
    clear hlo hhi
    generalize vdotV y.a y.b = D at *
    generalize vdotE y.a y.b = DE at *
    go_enter Try.func67, Try.ntmps67
    go_upto_region 1 with (fail)
    have s : blk (w.alloc (.cells (sgc y) 36)) w.heap.size (sgc y) 36 := blk.new _ _ _
    have hB : Below w.heap.size w (w.alloc (.cells (sgc y) 36)) := by go_grown
    generalize (w.alloc (.cells (sgc y) 36)) = w0 at *
    have lt_s := s.lt
    have hW0 : w.heap.size ≤ w0.heap.size := by have := hB.size; first | exact this | simpa using this
    apply wp_region_Q 10 [0, 1, 3, 7, 15, 31, 63, 127, 255, 511] [] [_, _, _, _, _, _, _, _, _, _] (fun p L w' => w0.heap.size ≤ w'.heap.size ∧ Below w.heap.size w w' ∧ blk w' w.heap.size (sgc y) 36) _ [(0, 14), (1, 15), (2, 16), (3, 17), (4, 18), (5, 13), (6, 19), (7, 20), (8, 7), (9, 8)] [0, 1, 2, 3, 4, 5, 6, 7, 8, 9]
    case hn => rfl
    case hB => kernel_rfl
    case hds => kernel_rfl
    case hA => (intro p; simp only [putsD, Act.put, List.setIfInBounds_toArray, List.set_cons_zero, List.set_cons_succ, List.getD_cons_zero, List.getD_cons_succ]; exact rfl)
    case h0 => exact fun p => ⟨Nat.le_refl _, hB, s⟩
    case hmore => exact fun p L w1 w2 ⟨hsz, hB, s⟩ hm => ⟨Nat.le_trans hsz hm.size, hB.trans (hm.mono (Nat.le_trans hW0 hsz)), s.below hm s.lt⟩
    case hs =>
      intro more
      refine stepV _ rfl rfl (fun _ _ _ h => h) (by intros; go_simp; exact ⟨rfl, rfl⟩) ?_
      refine stepV 1 rfl rfl (fun _ _ _ h => h) ?_ ?_
      · rintro p L w1 ⟨hsz, hB, s⟩ hk
        exact valR_part _ _ rfl _ 0 rfl _ _ s (vfn y.a) (sg_a y) _ Try.underlying31 rfl (by rw [vfn_size]; kernel_rfl) rfl
      refine stepV _ rfl rfl (fun _ _ _ h => h) (by intros; go_simp; exact ⟨rfl, rfl⟩) ?_
      refine stepV 3 rfl rfl (fun _ _ _ h => h) ?_ ?_
      · rintro p L w1 ⟨hsz, hB, s⟩ hk
        exact valR_part _ _ rfl _ 3 rfl _ _ s (vfn y.b) (sg_b y) _ Try.underlying31 rfl (by rw [vfn_size]; kernel_rfl) rfl
      refine stepD 4 rfl (fun p => rfl) (fun _ _ _ h => h) more ?_ ?_
      · rintro p L w1 ⟨hsz, hB, s⟩ hk
        go_simp
        refine (DO.out _).mono ?_
        rintro e w2 ⟨rfl, h2⟩
        first | exact ⟨rfl, h2⟩ | (subst h2; exact ⟨rfl, Below.refl _ _⟩)
      iterate 5 (refine stepV _ rfl rfl (fun _ _ _ h => h) (by intros; go_simp; exact ⟨rfl, rfl⟩) ?_)
      exact AllI.nil
    case hV0 => exact fun p q => AllI.nil
    case he =>
    clear hB s
    rintro p w0r ⟨hsz, hB, s⟩
    clear lt_s
    clear hsz hW0
    clear DO
    go_wp2_with (fail)
    go_ret
    exact ⟨rfl, hB⟩
  have hz0 : decide ((HI : Int) = 0) = false := decide_eq_false (by omega)
  have hz0' : ((HI : Int) == 0) = false := by simp; omega
  by_cases c1 : LO = 0
  · skip
    have CR := Lib.hid (fun w => vcross_any y.b y.a w)
    have e0 : entL y LO HI = vcrossF y.b y.a (HI - 1) := by unfold entL; rw [if_neg c0, if_pos c1]
    rw [e0]
    have hz1 : decide ((LO : Int) = 0) = true := decide_eq_true (by omega)
    have hz1' : ((LO : Int) == 0) = true := by simp; omega
    obtain ⟨J, hJ⟩ : ∃ J, HI - 1 = J := ⟨_, rfl⟩
    rw [hJ]
    have hj3 : J < 3 := by omega
    have hw1 : IntKind.i64.wrap ((HI : Int) - 1) = (J : Int) := by rw [IntKind.wrap_i64]; omega
    have hd3 : decide ((J : Int) < 3) = true := decide_eq_true (by omega)
    have hd3' : decide (J < 3) = true := decide_eq_true hj3
    have hd3i : (J : Int) < 3 := by omega
    generalize vdotV y.a y.b = D at *
    generalize vdotE y.a y.b = DE at *
    generalize vcrossF y.b y.a = C at *
    generalize vcrossE y.b y.a = CE at *
    replace hlo := Lib.hid hlo
    replace hhi := Lib.hid hhi
    replace c1 := Lib.hid c1
    replace c0 := Lib.hid c0
    clear h h0
    go_enter Try.func67, Try.ntmps67
    go_upto_region 1 with (fail)
    have s : blk (w.alloc (.cells (sgc y) 36)) w.heap.size (sgc y) 36 := blk.new _ _ _
    have hB : Below w.heap.size w (w.alloc (.cells (sgc y) 36)) := by go_grown
    generalize (w.alloc (.cells (sgc y) 36)) = w0 at *
    have lt_s := s.lt
    have hW0 : w.heap.size ≤ w0.heap.size := by have := hB.size; first | exact this | simpa using this
    apply wp_region_Q 10 [0, 1, 3, 7, 15, 31, 63, 127, 255, 511] [] [_, _, _, _, _, _, _, _, _, _] (fun p L w' => w0.heap.size ≤ w'.heap.size ∧ Below w.heap.size w w' ∧ blk w' w.heap.size (sgc y) 36) _ [(0, 14), (1, 15), (2, 16), (3, 17), (4, 18), (5, 13), (6, 19), (7, 20), (8, 7), (9, 8)] [0, 1, 2, 3, 4, 5, 6, 7, 8, 9]
    case hn => rfl
    case hB => kernel_rfl
    case hds => kernel_rfl
    case hA => (intro p; simp only [putsD, Act.put, List.setIfInBounds_toArray, List.set_cons_zero, List.set_cons_succ, List.getD_cons_zero, List.getD_cons_succ]; exact rfl)
    case h0 => exact fun p => ⟨Nat.le_refl _, hB, s⟩
    case hmore => exact fun p L w1 w2 ⟨hsz, hB, s⟩ hm => ⟨Nat.le_trans hsz hm.size, hB.trans (hm.mono (Nat.le_trans hW0 hsz)), s.below hm s.lt⟩
    case hs =>
      intro more
      refine stepV _ rfl rfl (fun _ _ _ h => h) (by intros; go_simp; exact ⟨rfl, rfl⟩) ?_
      refine stepV 1 rfl rfl (fun _ _ _ h => h) ?_ ?_
      · rintro p L w1 ⟨hsz, hB, s⟩ hk
        exact valR_part _ _ rfl _ 0 rfl _ _ s (vfn y.a) (sg_a y) _ Try.underlying31 rfl (by rw [vfn_size]; kernel_rfl) rfl
      refine stepV _ rfl rfl (fun _ _ _ h => h) (by intros; go_simp; exact ⟨rfl, rfl⟩) ?_
      refine stepV 3 rfl rfl (fun _ _ _ h => h) ?_ ?_
      · rintro p L w1 ⟨hsz, hB, s⟩ hk
        exact valR_part _ _ rfl _ 3 rfl _ _ s (vfn y.b) (sg_b y) _ Try.underlying31 rfl (by rw [vfn_size]; kernel_rfl) rfl
      refine stepD 4 rfl (fun p => rfl) (fun _ _ _ h => h) more ?_ ?_
      · rintro p L w1 ⟨hsz, hB, s⟩ hk
        go_simp
        refine (DO.out _).mono ?_
        rintro e w2 ⟨rfl, h2⟩
        first | exact ⟨rfl, h2⟩ | (subst h2; exact ⟨rfl, Below.refl _ _⟩)
      iterate 5 (refine stepV _ rfl rfl (fun _ _ _ h => h) (by intros; go_simp; exact ⟨rfl, rfl⟩) ?_)
      exact AllI.nil
    case hV0 => exact fun p q => AllI.nil
    case he =>
    clear hB s
    rintro p w0r ⟨hsz, hB, s⟩
    clear lt_s
    clear hsz hW0
    clear DO
    go_upto_region 7 with (fail)
    have lt_s := s.lt
    have hW0 : w.heap.size ≤ w0r.heap.size := by have := hB.size; first | exact this | simpa using this
    apply wp_region_Q 11 [0, 1, 3, 7, 15, 31, 63, 127, 255, 511, 1023] [8] [_, _, _, _, _, _, _, _, (fun p => .pointer (some ⟨p 8, 0, none⟩)), (fun _ => undef), _] (fun p L w' => w0r.heap.size ≤ w'.heap.size ∧ Below w.heap.size w w' ∧ blk w' w.heap.size (sgc y) 36 ∧ (L 8 = true → w0r.heap.size ≤ p 8 ∧ blk w' (p 8) (bif L 9 then (vfn C) else (vfn fun _ => 0)) 31)) _ [(0, 34), (1, 35), (2, 36), (3, 37), (4, 38), (5, 33), (6, 39), (7, 40), (8, 9), (10, 10)] [0, 1, 2, 3, 4, 5, 6, 7, 8, 9, 10]
    case hn => rfl
    case hB => kernel_rfl
    case hds => kernel_rfl
    case hA => (intro p; simp only [putsD, Act.put, List.setIfInBounds_toArray, List.set_cons_zero, List.set_cons_succ, List.getD_cons_zero, List.getD_cons_succ]; exact rfl)
    case h0 => exact fun p => ⟨Nat.le_refl _, hB, s, fun h => absurd h (by decide)⟩
    case hmore => exact fun p L w1 w2 ⟨hsz, hB, s, h_x⟩ hm => ⟨Nat.le_trans hsz hm.size, hB.trans (hm.mono (Nat.le_trans hW0 hsz)), s.below hm s.lt, fun hl => ⟨(h_x hl).1, (h_x hl).2.below hm (h_x hl).2.lt⟩⟩
    case hs =>
      intro more
      refine stepV _ rfl rfl (fun _ _ _ h => h) (by intros; go_simp; exact ⟨rfl, rfl⟩) ?_
      refine stepV 1 rfl rfl (fun _ _ _ h => h) ?_ ?_
      · rintro p L w1 ⟨hsz, hB, s, h_x⟩ hk
        have L9 : L 9 = false := hk.2.2 9 rfl
        exact valR_part _ _ rfl _ 3 rfl _ _ s (vfn y.b) (sg_b y) _ Try.underlying31 rfl (by rw [vfn_size]; kernel_rfl) rfl
      refine stepV _ rfl rfl (fun _ _ _ h => h) (by intros; go_simp; exact ⟨rfl, rfl⟩) ?_
      refine stepV 3 rfl rfl (fun _ _ _ h => h) ?_ ?_
      · rintro p L w1 ⟨hsz, hB, s, h_x⟩ hk
        have L9 : L 9 = false := hk.2.2 9 rfl
        exact valR_part _ _ rfl _ 0 rfl _ _ s (vfn y.a) (sg_a y) _ Try.underlying31 rfl (by rw [vfn_size]; kernel_rfl) rfl
      refine stepD 4 rfl (fun p => rfl) (fun _ _ _ h => h) more ?_ ?_
      · rintro p L w1 ⟨hsz, hB, s, h_x⟩ hk
        go_simp
        refine (CR.out _).mono ?_
        rintro e w2 ⟨rfl, h2⟩
        first | exact ⟨rfl, h2⟩ | (subst h2; exact ⟨rfl, Below.refl _ _⟩)
      iterate 3 (refine stepV _ rfl rfl (fun _ _ _ h => h) (by intros; go_simp; exact ⟨rfl, rfl⟩) ?_)
      refine AllI.cons ?_ ?_
      · refine stepI_alloc 8 rfl (fun p => rfl) rfl (vfn fun _ => 0) 31 (fun p => rfl) ?_ ?_
        · intro p w1
          go_simp
          first | rfl | rw [zero_vec]
        rintro p L w1 ⟨hsz, hB, s, h_x⟩ hk
        have L9 : L 9 = false := hk.2.2 9 rfl
        refine ⟨Nat.le_trans hsz (by simp), hB.alloc (Nat.le_trans (by first | exact hW0 | (have := hB.size; simp at this ⊢; omega)) hsz) _, s.alloc _, fun _ => ⟨hsz, ?_⟩⟩
        rw [show upL L 8 9 = false from L9]
        exact blk.new _ _ _
      refine AllI.cons ?_ ?_
      · refine stepI_store 9 rfl (fun p => rfl) (fun p => rfl) _ _ _ rfl (fun p => p 8) 0 (fun p => rfl) (fun p => (vfn C)) (fun p => rfl) (fun p => (vfn fun _ => 0)) (fun p => (vfn C)) 31 (fun p => over_v' _ _) (fun p => by first | (rw [vfn_size, vfn_size]; decide) | simp [vfn_size, vfn_size]) (fun p => by rw [vfn_size]; kernel_rfl) (fun p => vfn_one _) ?_ ?_
        · rintro p L w1 ⟨hsz, hB, s, h_x⟩ hk
          have L9 : L 9 = false := hk.1
          have hh := (h_x (hk.2.1 8 rfl)).2
          rw [L9] at hh
          try simp only [cond_true, cond_false] at hh
          exact hh
        · rintro p L w1 ⟨hsz, hB, s, h_x⟩ hk
          have L9 : L 9 = false := hk.1
          skip
          have hp := h_x (hk.2.1 8 rfl)
          refine ⟨(by simpa using hsz), Below.setRow hB (by first | exact Nat.le_trans hW0 hp.1 | exact ge_x | omega | (have := hB.size; simp at this ⊢; omega)) _, s.rowOther (by first | exact Nat.ne_of_lt (Nat.lt_of_lt_of_le lt_s hp.1) | omega) _, fun _ => ⟨hp.1, ?_⟩⟩
          rw [show upL L 9 9 = true from rfl]
          exact hp.2.row _
      refine stepV _ rfl rfl (fun _ _ _ h => h) (by intros; go_simp; exact ⟨rfl, rfl⟩) ?_
      exact AllI.nil
    case hV0 =>
      intro p q
      refine AllI.cons ?_ ?_
      · skip
        iterate 11 (refine AllI.cons (by first | exact .inl rfl | (refine .inr ?_; simp only [List.getD_cons_zero, List.getD_cons_succ]; done) | exact .inr rfl) ?_)
        exact AllI.nil
      exact AllI.nil
    case he =>
    clear hB s
    rintro p w0rr ⟨hsz, hB, s, h_x⟩
    obtain ⟨le_x, x⟩ := h_x rfl
    clear h_x
    replace x : blk w0rr (p 8) (vfn C) 31 := x
    have ne_s_x : w.heap.size ≠ p 8 := Nat.ne_of_lt (Nat.lt_of_lt_of_le lt_s le_x)
    have ge_x : w.heap.size ≤ p 8 := Nat.le_trans hW0 le_x
    generalize p 8 = x_b at *
    clear lt_s
    clear hsz hW0
    clear CR
    have hc : w0rr.cell? ⟨x_b, J, none⟩ = some (.int .i64 (C J)) := x.cellIs (vfn_get _ hj3)
    go_wp2_with (fail)
    go_ret
    exact ⟨rfl, hB⟩
  have hz1 : decide ((LO : Int) = 0) = false := decide_eq_false (by omega)
  have hz1' : ((LO : Int) == 0) = false := by simp; omega
  have e0 : entL y LO HI = dotV [y.a (LO - 1), y.a (HI - 1)] [y.b (HI - 1), y.b (LO - 1)] - (if LO = HI then vdotV y.a y.b else 0) := by unfold entL; rw [if_neg c0, if_neg c1]
  rw [e0]
  obtain ⟨I, hI⟩ : ∃ I, LO - 1 = I := ⟨_, rfl⟩
  obtain ⟨J, hJ⟩ : ∃ J, HI - 1 = J := ⟨_, rfl⟩
  rw [hI, hJ]
  have hi3 : I < 3 := by omega
  have hj3 : J < 3 := by omega
  have hw0 : IntKind.i64.wrap ((LO : Int) - 1) = (I : Int) := by rw [IntKind.wrap_i64]; omega
  have hw1 : IntKind.i64.wrap ((HI : Int) - 1) = (J : Int) := by rw [IntKind.wrap_i64]; omega
  have hd3 : decide ((J : Int) < 3) = true := decide_eq_true (by omega)
  have hd3' : decide (J < 3) = true := decide_eq_true hj3
  have hd3i : (J : Int) < 3 := by omega
  have hd4 : decide ((I : Int) < 3) = true := decide_eq_true (by omega)
  have hd4' : decide (I < 3) = true := decide_eq_true hi3
  have hd4i : (I : Int) < 3 := by omega
  have ba := dirB_bd h0.1 I hi3
  have bb := dirB_bd h0.1 J hj3
  have bc := dirB_bd h0.2.1 J hj3
  have bd := dirB_bd h0.2.1 I hi3
  obtain ⟨e2, e3, e4⟩ := dot2_dir ba bb bc bd
  have DT := Lib.hid (fun x1 y1 w t p q => dot2k_any (y.a I) (y.a J) (y.b J) (y.b I) x1 y1 w t ⟨by omega, by omega⟩ ⟨by omega, by omega⟩ ⟨by omega, by omega⟩ ⟨by omega, by omega⟩ p q)
  rw [← e2] at e3 e4
  generalize dotV [y.a I, y.a J] [y.b J, y.b I] = T at *
  generalize dotE [y.a I, y.a J] [y.b J, y.b I] = TE at *
  generalize vdotV y.a y.b = D at *
  generalize vdotE y.a y.b = DE at *
  have hsub : IntKind.i64.wrap (T - D) = T - D := by rw [IntKind.wrap_i64]; omega
  obtain ⟨b, hb⟩ : ∃ b, decide ((LO : Int) = (HI : Int)) = b := ⟨_, rfl⟩
  have hq2 : (if LO = HI then D else 0) = (bif b then D else 0) := by
    rw [← hb]; by_cases e : LO = HI
    · rw [if_pos e, decide_eq_true (show (LO : Int) = (HI : Int) by omega)]; rfl
    · rw [if_neg e, decide_eq_false (show ¬ (LO : Int) = (HI : Int) by omega)]; rfl
  rw [hq2]
  have hb2 : decide (LO = HI) = b := by rw [← hb]; by_cases e : LO = HI <;> simp [e]; omega
  have hb3 : ((LO : Int) == (HI : Int)) = b := by rw [← hb]; rfl
  clear e0 e2 hq2 ba bb bc bd e3 e4 dB h h0
  replace hlo := Lib.hid hlo
  replace hhi := Lib.hid hhi
  replace hI := Lib.hid hI
  replace hJ := Lib.hid hJ
  replace c1 := Lib.hid c1
  replace c0 := Lib.hid c0
  go_enter Try.func67, Try.ntmps67
  go_upto_region 1 with (fail)
  have s : blk (w.alloc (.cells (sgc y) 36)) w.heap.size (sgc y) 36 := blk.new _ _ _
  have hB : Below w.heap.size w (w.alloc (.cells (sgc y) 36)) := by go_grown
  generalize (w.alloc (.cells (sgc y) 36)) = w0 at *
  have lt_s := s.lt
  have hW0 : w.heap.size ≤ w0.heap.size := by have := hB.size; first | exact this | simpa using this
  apply wp_region_Q 10 [0, 1, 3, 7, 15, 31, 63, 127, 255, 511] [] [_, _, _, _, _, _, _, _, _, _] (fun p L w' => w0.heap.size ≤ w'.heap.size ∧ Below w.heap.size w w' ∧ blk w' w.heap.size (sgc y) 36) _ [(0, 14), (1, 15), (2, 16), (3, 17), (4, 18), (5, 13), (6, 19), (7, 20), (8, 7), (9, 8)] [0, 1, 2, 3, 4, 5, 6, 7, 8, 9]
  case hn => rfl
  case hB => kernel_rfl
  case hds => kernel_rfl
  case hA => (intro p; simp only [putsD, Act.put, List.setIfInBounds_toArray, List.set_cons_zero, List.set_cons_succ, List.getD_cons_zero, List.getD_cons_succ]; exact rfl)
  case h0 => exact fun p => ⟨Nat.le_refl _, hB, s⟩
  case hmore => exact fun p L w1 w2 ⟨hsz, hB, s⟩ hm => ⟨Nat.le_trans hsz hm.size, hB.trans (hm.mono (Nat.le_trans hW0 hsz)), s.below hm s.lt⟩
  case hs =>
    intro more
    refine stepV _ rfl rfl (fun _ _ _ h => h) (by intros; go_simp; exact ⟨rfl, rfl⟩) ?_
    refine stepV 1 rfl rfl (fun _ _ _ h => h) ?_ ?_
    · rintro p L w1 ⟨hsz, hB, s⟩ hk
      exact valR_part _ _ rfl _ 0 rfl _ _ s (vfn y.a) (sg_a y) _ Try.underlying31 rfl (by rw [vfn_size]; kernel_rfl) rfl
    refine stepV _ rfl rfl (fun _ _ _ h => h) (by intros; go_simp; exact ⟨rfl, rfl⟩) ?_
    refine stepV 3 rfl rfl (fun _ _ _ h => h) ?_ ?_
    · rintro p L w1 ⟨hsz, hB, s⟩ hk
      exact valR_part _ _ rfl _ 3 rfl _ _ s (vfn y.b) (sg_b y) _ Try.underlying31 rfl (by rw [vfn_size]; kernel_rfl) rfl
    refine stepD 4 rfl (fun p => rfl) (fun _ _ _ h => h) more ?_ ?_
    · rintro p L w1 ⟨hsz, hB, s⟩ hk
      go_simp
      refine (DO.out _).mono ?_
      rintro e w2 ⟨rfl, h2⟩
      first | exact ⟨rfl, h2⟩ | (subst h2; exact ⟨rfl, Below.refl _ _⟩)
    iterate 5 (refine stepV _ rfl rfl (fun _ _ _ h => h) (by intros; go_simp; exact ⟨rfl, rfl⟩) ?_)
    exact AllI.nil
  case hV0 => exact fun p q => AllI.nil
  case he =>
  clear hB s
  rintro p w0r ⟨hsz, hB, s⟩
  clear lt_s
  clear hsz hW0
  clear DO
  go_upto_region 9 with (fail)
  have lt_s := s.lt
  have hW0 : w.heap.size ≤ w0r.heap.size := by have := hB.size; first | exact this | simpa using this
  apply wp_region_I 28 [0, 1, 0, 7, 15, 0, 32, 0, 224, 480, 1023, 0, 2048, 0, 14336, 30720, 0, 65536, 0, 458752, 983040, 2095104, 4194303, 8388607, 16777215, 16777215, 33554431, 134217727] [10, 21] [_, _, _, _, _, _, _, _, _, _, (fun p => (fun b => .slice (some ⟨b, 0, none⟩) 2 2) (p 10)), _, _, _, _, _, _, _, _, _, _, (fun p => (fun b => .slice (some ⟨b, 0, none⟩) 2 2) (p 21)), _, _, _, _, _, _] (fun p L w' => w0r.heap.size ≤ w'.heap.size ∧ Below w.heap.size w w' ∧ blk w' w.heap.size (sgc y) 36 ∧ (L 10 = true → w0r.heap.size ≤ p 10 ∧ blk w' (p 10) #[.int .i64 (y.a I), .int .i64 (y.a J)] 2) ∧ (L 21 = true → w0r.heap.size ≤ p 21 ∧ blk w' (p 21) #[.int .i64 (y.b J), .int .i64 (y.b I)] 2) ∧ (L 10 = true → L 21 = true → p 10 ≠ p 21)) _ [(0, 46), (1, 47), (2, 48), (3, 49), (4, 50), (5, 51), (6, 52), (7, 53), (8, 54), (9, 55), (10, 56), (11, 57), (12, 58), (13, 59), (14, 60), (15, 61), (16, 62), (17, 63), (18, 64), (19, 65), (20, 66), (21, 67), (22, 68), (23, 45), (24, 69), (25, 70), (26, 11), (27, 12)] [0, 1, 2, 3, 4, 5, 6, 7, 8, 9, 10, 11, 12, 13, 14, 15, 16, 17, 18, 19, 20, 21, 22, 23, 24, 25, 26, 27]
  case hn => rfl
  case hm => kernel_rfl
  case hB => kernel_rfl
  case hds => kernel_rfl
  case hA => (intro p; simp only [putsD, Act.put, List.setIfInBounds_toArray, List.set_cons_zero, List.set_cons_succ, List.getD_cons_zero, List.getD_cons_succ]; exact rfl)
  case h0 => exact fun p => ⟨Nat.le_refl _, hB.drew, s.drew, fun h => absurd h (by decide), fun h => absurd h (by decide), fun h => absurd h (by decide)⟩
  case hmore => exact fun p L w1 w2 ⟨hsz, hB, s, h_l1, h_l2, hne_l1_l2⟩ hm => ⟨Nat.le_trans hsz hm.size, hB.trans (hm.mono (Nat.le_trans hW0 hsz)), s.below hm s.lt, fun hl => ⟨(h_l1 hl).1, (h_l1 hl).2.below hm (h_l1 hl).2.lt⟩, fun hl => ⟨(h_l2 hl).1, (h_l2 hl).2.below hm (h_l2 hl).2.lt⟩, hne_l1_l2⟩
  case hs =>
    intro more
    iterate 4 (refine stepV _ rfl rfl (fun _ _ _ h => h) (by intros; go_simp; exact ⟨rfl, rfl⟩) ?_)
    refine stepV 4 rfl rfl (fun _ _ _ h => h) ?_ ?_
    · rintro p L w1 ⟨hsz, hB, s, h_l1, h_l2, hne_l1_l2⟩ hk
      have hc : w1.cell? ⟨w.heap.size, I, none⟩ = some (.int .i64 (y.a I)) := s.cellIs (by have := (sg_a y I (by rw [vfn_size]; exact hi3)).trans (vfn_get _ hi3); rwa [Nat.zero_add] at this)
      go_simp
      exact ⟨rfl, rfl⟩
    iterate 4 (refine stepV _ rfl rfl (fun _ _ _ h => h) (by intros; go_simp; exact ⟨rfl, rfl⟩) ?_)
    refine stepV 9 rfl rfl (fun _ _ _ h => h) ?_ ?_
    · rintro p L w1 ⟨hsz, hB, s, h_l1, h_l2, hne_l1_l2⟩ hk
      have hc : w1.cell? ⟨w.heap.size, J, none⟩ = some (.int .i64 (y.a J)) := s.cellIs (by have := (sg_a y J (by rw [vfn_size]; exact hj3)).trans (vfn_get _ hj3); rwa [Nat.zero_add] at this)
      go_simp
      exact ⟨rfl, rfl⟩
    refine AllI.cons ?_ ?_
    · refine stepI_fresh 10 rfl (fun p => rfl) rfl (fun b => .slice (some ⟨b, 0, none⟩) 2 2) (fun p => #[.int .i64 (y.a I), .int .i64 (y.a J)]) 2 (fun p => rfl) ?_ ?_
      · intro p w1
        simp only [vfn, qfn]
        go_simp
        try rfl
      rintro p L w1 ⟨hsz, hB, s, h_l1, h_l2, hne_l1_l2⟩ hk
      refine ⟨Nat.le_trans hsz (by simp), hB.alloc (Nat.le_trans (by first | exact hW0 | (have := hB.size; simp at this ⊢; omega)) hsz) _, s.alloc _, fun _ => ⟨hsz, ?_⟩, fun hl => ⟨(h_l2 hl).1, (h_l2 hl).2.alloc _⟩, fun _ hl => Nat.ne_of_gt (h_l2 hl).2.lt⟩
      exact blk.new _ _ _
    iterate 4 (refine stepV _ rfl rfl (fun _ _ _ h => h) (by intros; go_simp; exact ⟨rfl, rfl⟩) ?_)
    refine stepV 15 rfl rfl (fun _ _ _ h => h) ?_ ?_
    · rintro p L w1 ⟨hsz, hB, s, h_l1, h_l2, hne_l1_l2⟩ hk
      have hc : w1.cell? ⟨w.heap.size, 3 + J, none⟩ = some (.int .i64 (y.b J)) := s.cellIs ((sg_b y J (by rw [vfn_size]; exact hj3)).trans (vfn_get _ hj3))
      go_simp
      exact ⟨rfl, rfl⟩
    iterate 4 (refine stepV _ rfl rfl (fun _ _ _ h => h) (by intros; go_simp; exact ⟨rfl, rfl⟩) ?_)
    refine stepV 20 rfl rfl (fun _ _ _ h => h) ?_ ?_
    · rintro p L w1 ⟨hsz, hB, s, h_l1, h_l2, hne_l1_l2⟩ hk
      have hc : w1.cell? ⟨w.heap.size, 3 + I, none⟩ = some (.int .i64 (y.b I)) := s.cellIs ((sg_b y I (by rw [vfn_size]; exact hi3)).trans (vfn_get _ hi3))
      go_simp
      exact ⟨rfl, rfl⟩
    refine AllI.cons ?_ ?_
    · refine stepI_fresh 21 rfl (fun p => rfl) rfl (fun b => .slice (some ⟨b, 0, none⟩) 2 2) (fun p => #[.int .i64 (y.b J), .int .i64 (y.b I)]) 2 (fun p => rfl) ?_ ?_
      · intro p w1
        simp only [vfn, qfn]
        go_simp
        try rfl
      rintro p L w1 ⟨hsz, hB, s, h_l1, h_l2, hne_l1_l2⟩ hk
      refine ⟨Nat.le_trans hsz (by simp), hB.alloc (Nat.le_trans (by first | exact hW0 | (have := hB.size; simp at this ⊢; omega)) hsz) _, s.alloc _, fun hl => ⟨(h_l1 hl).1, (h_l1 hl).2.alloc _⟩, fun _ => ⟨hsz, ?_⟩, fun hl _ => Nat.ne_of_lt (h_l1 hl).2.lt⟩
      exact blk.new _ _ _
    refine stepD 22 rfl (fun p => rfl) (fun _ _ _ h => h) more ?_ ?_
    · rintro p L w1 ⟨hsz, hB, s, h_l1, h_l2, hne_l1_l2⟩ hk
      have hh_l1 := (h_l1 (hk.2.1 10 rfl)).2
      have hh_l2 := (h_l2 (hk.2.1 21 rfl)).2
      go_simp
      refine (DT.out _ _ _ _ hh_l1 hh_l2).mono ?_
      rintro e w2 ⟨rfl, h2⟩
      first | exact ⟨rfl, h2⟩ | (subst h2; exact ⟨rfl, Below.refl _ _⟩)
    iterate 5 (refine stepV _ rfl rfl (fun _ _ _ h => h) (by intros; go_simp; exact ⟨rfl, rfl⟩) ?_)
    exact AllI.nil
  case hV0 =>
    intro p q
    refine AllI.cons ?_ ?_
    · skip
      iterate 28 (refine AllI.cons (by first | exact .inl rfl | (refine .inr ?_; simp only [List.getD_cons_zero, List.getD_cons_succ]; done) | exact .inr rfl) ?_)
      exact AllI.nil
    refine AllI.cons ?_ ?_
    · skip
      iterate 28 (refine AllI.cons (by first | exact .inl rfl | (refine .inr ?_; simp only [List.getD_cons_zero, List.getD_cons_succ]; done) | exact .inr rfl) ?_)
      exact AllI.nil
    exact AllI.nil
  case he =>
  clear hB s
  rintro p w0rr ⟨hsz, hB, s, h_l1, h_l2, hne_l1_l2⟩
  obtain ⟨le_l1, l1⟩ := h_l1 rfl
  clear h_l1
  obtain ⟨le_l2, l2⟩ := h_l2 rfl
  clear h_l2
  have ne_l1_l2 : p 10 ≠ p 21 := hne_l1_l2 rfl rfl
  clear hne_l1_l2
  replace l1 : blk w0rr (p 10) #[.int .i64 (y.a I), .int .i64 (y.a J)] 2 := l1
  replace l2 : blk w0rr (p 21) #[.int .i64 (y.b J), .int .i64 (y.b I)] 2 := l2
  have ne_s_l1 : w.heap.size ≠ p 10 := Nat.ne_of_lt (Nat.lt_of_lt_of_le lt_s le_l1)
  have ge_l1 : w.heap.size ≤ p 10 := Nat.le_trans hW0 le_l1
  have ne_s_l2 : w.heap.size ≠ p 21 := Nat.ne_of_lt (Nat.lt_of_lt_of_le lt_s le_l2)
  have ge_l2 : w.heap.size ≤ p 21 := Nat.le_trans hW0 le_l2
  generalize p 10 = l1_b at *
  generalize p 21 = l2_b at *
  clear lt_s
  clear hsz hW0
  clear DT
  cases b
  all_goals
    go_wp2_with (fail)
    go_ret
    exact ⟨by first | rfl | simp, hB⟩
set_option maxRecDepth 100000 in
set_option maxHeartbeats 8000000 in
theorem sent_gt (y : Sgt) (LO HI : Nat) (w : World) (h : sgOk y = true) (hhi : HI < 4) (hlo : LO < HI) : Calls Try.prog 67 #[.agg (sgc y), .int .i64 HI, .int .i64 LO] w fun e w' => e = .returned (.int .i64 (entL y LO HI)) ∧ Below w.heap.size w w' := by
  have DO := Lib.hid (fun w => vdot_any y.a y.b w)
  have dB := vdot_dir h
  have hs : decide ((LO : Int) < HI) = true := decide_eq_true (by omega)
  have hs' : decide (LO < HI) = true := decide_eq_true (by omega)
  have h0 := h
  simp only [sgOk, Bool.and_eq_true, decide_eq_true_eq] at h0
  by_cases c0 : HI = 0
  · omega
  have hz0 : decide ((HI : Int) = 0) = false := decide_eq_false (by omega)
  have hz0' : ((HI : Int) == 0) = false := by simp; omega
  by_cases c1 : LO = 0
  · skip
    have CR := Lib.hid (fun w => vcross_any y.b y.a w)
    have e0 : entL y LO HI = vcrossF y.b y.a (HI - 1) := by unfold entL; rw [if_neg c0, if_pos c1]
    rw [e0]
    have hz1 : decide ((LO : Int) = 0) = true := decide_eq_true (by omega)
    have hz1' : ((LO : Int) == 0) = true := by simp; omega
    obtain ⟨J, hJ⟩ : ∃ J, HI - 1 = J := ⟨_, rfl⟩
    rw [hJ]
    have hj3 : J < 3 := by omega
    have hw1 : IntKind.i64.wrap ((HI : Int) - 1) = (J : Int) := by rw [IntKind.wrap_i64]; omega
    have hd3 : decide ((J : Int) < 3) = true := decide_eq_true (by omega)
    have hd3' : decide (J < 3) = true := decide_eq_true hj3
    have hd3i : (J : Int) < 3 := by omega
    generalize vdotV y.a y.b = D at *
    generalize vdotE y.a y.b = DE at *
    generalize vcrossF y.b y.a = C at *
    generalize vcrossE y.b y.a = CE at *
    replace hlo := Lib.hid hlo
    replace hhi := Lib.hid hhi
    replace c1 := Lib.hid c1
    replace c0 := Lib.hid c0
    clear h h0
    go_enter Try.func67, Try.ntmps67
    go_upto_region 1 with (fail)
    have s : blk (w.alloc (.cells (sgc y) 36)) w.heap.size (sgc y) 36 := blk.new _ _ _
    have hB : Below w.heap.size w (w.alloc (.cells (sgc y) 36)) := by go_grown
    generalize (w.alloc (.cells (sgc y) 36)) = w0 at *
    have lt_s := s.lt
    have hW0 : w.heap.size ≤ w0.heap.size := by have := hB.size; first | exact this | simpa using this
    apply wp_region_Q 10 [0, 1, 3, 7, 15, 31, 63, 127, 255, 511] [] [_, _, _, _, _, _, _, _, _, _] (fun p L w' => w0.heap.size ≤ w'.heap.size ∧ Below w.heap.size w w' ∧ blk w' w.heap.size (sgc y) 36) _ [(0, 14), (1, 15), (2, 16), (3, 17), (4, 18), (5, 13), (6, 19), (7, 20), (8, 7), (9, 8)] [0, 1, 2, 3, 4, 5, 6, 7, 8, 9]
    case hn => rfl
    case hB => kernel_rfl
    case hds => kernel_rfl
    case hA => (intro p; simp only [putsD, Act.put, List.setIfInBounds_toArray, List.set_cons_zero, List.set_cons_succ, List.getD_cons_zero, List.getD_cons_succ]; exact rfl)
    case h0 => exact fun p => ⟨Nat.le_refl _, hB, s⟩
    case hmore => exact fun p L w1 w2 ⟨hsz, hB, s⟩ hm => ⟨Nat.le_trans hsz hm.size, hB.trans (hm.mono (Nat.le_trans hW0 hsz)), s.below hm s.lt⟩
    case hs =>
      intro more
      refine stepV _ rfl rfl (fun _ _ _ h => h) (by intros; go_simp; exact ⟨rfl, rfl⟩) ?_
      refine stepV 1 rfl rfl (fun _ _ _ h => h) ?_ ?_
      · rintro p L w1 ⟨hsz, hB, s⟩ hk
        exact valR_part _ _ rfl _ 0 rfl _ _ s (vfn y.a) (sg_a y) _ Try.underlying31 rfl (by rw [vfn_size]; kernel_rfl) rfl
      refine stepV _ rfl rfl (fun _ _ _ h => h) (by intros; go_simp; exact ⟨rfl, rfl⟩) ?_
      refine stepV 3 rfl rfl (fun _ _ _ h => h) ?_ ?_
      · rintro p L w1 ⟨hsz, hB, s⟩ hk
        exact valR_part _ _ rfl _ 3 rfl _ _ s (vfn y.b) (sg_b y) _ Try.underlying31 rfl (by rw [vfn_size]; kernel_rfl) rfl
      refine stepD 4 rfl (fun p => rfl) (fun _ _ _ h => h) more ?_ ?_
      · rintro p L w1 ⟨hsz, hB, s⟩ hk
        go_simp
        refine (DO.out _).mono ?_
        rintro e w2 ⟨rfl, h2⟩
        first | exact ⟨rfl, h2⟩ | (subst h2; exact ⟨rfl, Below.refl _ _⟩)
      iterate 5 (refine stepV _ rfl rfl (fun _ _ _ h => h) (by intros; go_simp; exact ⟨rfl, rfl⟩) ?_)
      exact AllI.nil
    case hV0 => exact fun p q => AllI.nil
    case he =>
    clear hB s
    rintro p w0r ⟨hsz, hB, s⟩
    clear lt_s
    clear hsz hW0
    clear DO
    go_upto_region 7 with (fail)
    have lt_s := s.lt
    have hW0 : w.heap.size ≤ w0r.heap.size := by have := hB.size; first | exact this | simpa using this
    apply wp_region_Q 11 [0, 1, 3, 7, 15, 31, 63, 127, 255, 511, 1023] [8] [_, _, _, _, _, _, _, _, (fun p => .pointer (some ⟨p 8, 0, none⟩)), (fun _ => undef), _] (fun p L w' => w0r.heap.size ≤ w'.heap.size ∧ Below w.heap.size w w' ∧ blk w' w.heap.size (sgc y) 36 ∧ (L 8 = true → w0r.heap.size ≤ p 8 ∧ blk w' (p 8) (bif L 9 then (vfn C) else (vfn fun _ => 0)) 31)) _ [(0, 34), (1, 35), (2, 36), (3, 37), (4, 38), (5, 33), (6, 39), (7, 40), (8, 9), (10, 10)] [0, 1, 2, 3, 4, 5, 6, 7, 8, 9, 10]
    case hn => rfl
    case hB => kernel_rfl
    case hds => kernel_rfl
    case hA => (intro p; simp only [putsD, Act.put, List.setIfInBounds_toArray, List.set_cons_zero, List.set_cons_succ, List.getD_cons_zero, List.getD_cons_succ]; exact rfl)
    case h0 => exact fun p => ⟨Nat.le_refl _, hB, s, fun h => absurd h (by decide)⟩
    case hmore => exact fun p L w1 w2 ⟨hsz, hB, s, h_x⟩ hm => ⟨Nat.le_trans hsz hm.size, hB.trans (hm.mono (Nat.le_trans hW0 hsz)), s.below hm s.lt, fun hl => ⟨(h_x hl).1, (h_x hl).2.below hm (h_x hl).2.lt⟩⟩
    case hs =>
      intro more
      refine stepV _ rfl rfl (fun _ _ _ h => h) (by intros; go_simp; exact ⟨rfl, rfl⟩) ?_
      refine stepV 1 rfl rfl (fun _ _ _ h => h) ?_ ?_
      · rintro p L w1 ⟨hsz, hB, s, h_x⟩ hk
        have L9 : L 9 = false := hk.2.2 9 rfl
        exact valR_part _ _ rfl _ 3 rfl _ _ s (vfn y.b) (sg_b y) _ Try.underlying31 rfl (by rw [vfn_size]; kernel_rfl) rfl
      refine stepV _ rfl rfl (fun _ _ _ h => h) (by intros; go_simp; exact ⟨rfl, rfl⟩) ?_
      refine stepV 3 rfl rfl (fun _ _ _ h => h) ?_ ?_
      · rintro p L w1 ⟨hsz, hB, s, h_x⟩ hk
        have L9 : L 9 = false := hk.2.2 9 rfl
        exact valR_part _ _ rfl _ 0 rfl _ _ s (vfn y.a) (sg_a y) _ Try.underlying31 rfl (by rw [vfn_size]; kernel_rfl) rfl
      refine stepD 4 rfl (fun p => rfl) (fun _ _ _ h => h) more ?_ ?_
      · rintro p L w1 ⟨hsz, hB, s, h_x⟩ hk
        go_simp
        refine (CR.out _).mono ?_
        rintro e w2 ⟨rfl, h2⟩
        first | exact ⟨rfl, h2⟩ | (subst h2; exact ⟨rfl, Below.refl _ _⟩)
      iterate 3 (refine stepV _ rfl rfl (fun _ _ _ h => h) (by intros; go_simp; exact ⟨rfl, rfl⟩) ?_)
      refine AllI.cons ?_ ?_
      · refine stepI_alloc 8 rfl (fun p => rfl) rfl (vfn fun _ => 0) 31 (fun p => rfl) ?_ ?_
        · intro p w1
          go_simp
          first | rfl | rw [zero_vec]
        rintro p L w1 ⟨hsz, hB, s, h_x⟩ hk
        have L9 : L 9 = false := hk.2.2 9 rfl
        refine ⟨Nat.le_trans hsz (by simp), hB.alloc (Nat.le_trans (by first | exact hW0 | (have := hB.size; simp at this ⊢; omega)) hsz) _, s.alloc _, fun _ => ⟨hsz, ?_⟩⟩
        rw [show upL L 8 9 = false from L9]
        exact blk.new _ _ _
      refine AllI.cons ?_ ?_
      · refine stepI_store 9 rfl (fun p => rfl) (fun p => rfl) _ _ _ rfl (fun p => p 8) 0 (fun p => rfl) (fun p => (vfn C)) (fun p => rfl) (fun p => (vfn fun _ => 0)) (fun p => (vfn C)) 31 (fun p => over_v' _ _) (fun p => by first | (rw [vfn_size, vfn_size]; decide) | simp [vfn_size, vfn_size]) (fun p => by rw [vfn_size]; kernel_rfl) (fun p => vfn_one _) ?_ ?_
        · rintro p L w1 ⟨hsz, hB, s, h_x⟩ hk
          have L9 : L 9 = false := hk.1
          have hh := (h_x (hk.2.1 8 rfl)).2
          rw [L9] at hh
          try simp only [cond_true, cond_false] at hh
          exact hh
        · rintro p L w1 ⟨hsz, hB, s, h_x⟩ hk
          have L9 : L 9 = false := hk.1
          skip
          have hp := h_x (hk.2.1 8 rfl)
          refine ⟨(by simpa using hsz), Below.setRow hB (by first | exact Nat.le_trans hW0 hp.1 | exact ge_x | omega | (have := hB.size; simp at this ⊢; omega)) _, s.rowOther (by first | exact Nat.ne_of_lt (Nat.lt_of_lt_of_le lt_s hp.1) | omega) _, fun _ => ⟨hp.1, ?_⟩⟩
          rw [show upL L 9 9 = true from rfl]
          exact hp.2.row _
      refine stepV _ rfl rfl (fun _ _ _ h => h) (by intros; go_simp; exact ⟨rfl, rfl⟩) ?_
      exact AllI.nil
    case hV0 =>
      intro p q
      refine AllI.cons ?_ ?_
      · skip
        iterate 11 (refine AllI.cons (by first | exact .inl rfl | (refine .inr ?_; simp only [List.getD_cons_zero, List.getD_cons_succ]; done) | exact .inr rfl) ?_)
        exact AllI.nil
      exact AllI.nil
    case he =>
    clear hB s
    rintro p w0rr ⟨hsz, hB, s, h_x⟩
    obtain ⟨le_x, x⟩ := h_x rfl
    clear h_x
    replace x : blk w0rr (p 8) (vfn C) 31 := x
    have ne_s_x : w.heap.size ≠ p 8 := Nat.ne_of_lt (Nat.lt_of_lt_of_le lt_s le_x)
    have ge_x : w.heap.size ≤ p 8 := Nat.le_trans hW0 le_x
    generalize p 8 = x_b at *
    clear lt_s
    clear hsz hW0
    clear CR
    have hc : w0rr.cell? ⟨x_b, J, none⟩ = some (.int .i64 (C J)) := x.cellIs (vfn_get _ hj3)
    go_wp2_with (fail)
    go_ret
    exact ⟨rfl, hB⟩
  have hz1 : decide ((LO : Int) = 0) = false := decide_eq_false (by omega)
  have hz1' : ((LO : Int) == 0) = false := by simp; omega
  have e0 : entL y LO HI = dotV [y.a (LO - 1), y.a (HI - 1)] [y.b (HI - 1), y.b (LO - 1)] - (if LO = HI then vdotV y.a y.b else 0) := by unfold entL; rw [if_neg c0, if_neg c1]
  rw [e0]
  obtain ⟨I, hI⟩ : ∃ I, LO - 1 = I := ⟨_, rfl⟩
  obtain ⟨J, hJ⟩ : ∃ J, HI - 1 = J := ⟨_, rfl⟩
  rw [hI, hJ]
  have hi3 : I < 3 := by omega
  have hj3 : J < 3 := by omega
  have hw0 : IntKind.i64.wrap ((LO : Int) - 1) = (I : Int) := by rw [IntKind.wrap_i64]; omega
  have hw1 : IntKind.i64.wrap ((HI : Int) - 1) = (J : Int) := by rw [IntKind.wrap_i64]; omega
  have hd3 : decide ((J : Int) < 3) = true := decide_eq_true (by omega)
  have hd3' : decide (J < 3) = true := decide_eq_true hj3
  have hd3i : (J : Int) < 3 := by omega
  have hd4 : decide ((I : Int) < 3) = true := decide_eq_true (by omega)
  have hd4' : decide (I < 3) = true := decide_eq_true hi3
  have hd4i : (I : Int) < 3 := by omega
  have ba := dirB_bd h0.1 I hi3
  have bb := dirB_bd h0.1 J hj3
  have bc := dirB_bd h0.2.1 J hj3
  have bd := dirB_bd h0.2.1 I hi3
  obtain ⟨e2, e3, e4⟩ := dot2_dir ba bb bc bd
  have DT := Lib.hid (fun x1 y1 w t p q => dot2k_any (y.a I) (y.a J) (y.b J) (y.b I) x1 y1 w t ⟨by omega, by omega⟩ ⟨by omega, by omega⟩ ⟨by omega, by omega⟩ ⟨by omega, by omega⟩ p q)
  rw [← e2] at e3 e4
  generalize dotV [y.a I, y.a J] [y.b J, y.b I] = T at *
  generalize dotE [y.a I, y.a J] [y.b J, y.b I] = TE at *
  generalize vdotV y.a y.b = D at *
  generalize vdotE y.a y.b = DE at *
  have hsub : IntKind.i64.wrap (T - D) = T - D := by rw [IntKind.wrap_i64]; omega
  obtain ⟨b, hb⟩ : ∃ b, decide ((LO : Int) = (HI : Int)) = b := ⟨_, rfl⟩
  have hq2 : (if LO = HI then D else 0) = (bif b then D else 0) := by
    rw [← hb]; by_cases e : LO = HI
    · rw [if_pos e, decide_eq_true (show (LO : Int) = (HI : Int) by omega)]; rfl
    · rw [if_neg e, decide_eq_false (show ¬ (LO : Int) = (HI : Int) by omega)]; rfl
  rw [hq2]
  have hb2 : decide (LO = HI) = b := by rw [← hb]; by_cases e : LO = HI <;> simp [e]; omega
  have hb3 : ((LO : Int) == (HI : Int)) = b := by rw [← hb]; rfl
  clear e0 e2 hq2 ba bb bc bd e3 e4 dB h h0
  replace hlo := Lib.hid hlo
  replace hhi := Lib.hid hhi
  replace hI := Lib.hid hI
  replace hJ := Lib.hid hJ
  replace c1 := Lib.hid c1
  replace c0 := Lib.hid c0
  go_enter Try.func67, Try.ntmps67
  go_upto_region 1 with (fail)
  have s : blk (w.alloc (.cells (sgc y) 36)) w.heap.size (sgc y) 36 := blk.new _ _ _
  have hB : Below w.heap.size w (w.alloc (.cells (sgc y) 36)) := by go_grown
  generalize (w.alloc (.cells (sgc y) 36)) = w0 at *
  have lt_s := s.lt
  have hW0 : w.heap.size ≤ w0.heap.size := by have := hB.size; first | exact this | simpa using this
  apply wp_region_Q 10 [0, 1, 3, 7, 15, 31, 63, 127, 255, 511] [] [_, _, _, _, _, _, _, _, _, _] (fun p L w' => w0.heap.size ≤ w'.heap.size ∧ Below w.heap.size w w' ∧ blk w' w.heap.size (sgc y) 36) _ [(0, 14), (1, 15), (2, 16), (3, 17), (4, 18), (5, 13), (6, 19), (7, 20), (8, 7), (9, 8)] [0, 1, 2, 3, 4, 5, 6, 7, 8, 9]
  case hn => rfl
  case hB => kernel_rfl
  case hds => kernel_rfl
  case hA => (intro p; simp only [putsD, Act.put, List.setIfInBounds_toArray, List.set_cons_zero, List.set_cons_succ, List.getD_cons_zero, List.getD_cons_succ]; exact rfl)
  case h0 => exact fun p => ⟨Nat.le_refl _, hB, s⟩
  case hmore => exact fun p L w1 w2 ⟨hsz, hB, s⟩ hm => ⟨Nat.le_trans hsz hm.size, hB.trans (hm.mono (Nat.le_trans hW0 hsz)), s.below hm s.lt⟩
  case hs =>
    intro more
    refine stepV _ rfl rfl (fun _ _ _ h => h) (by intros; go_simp; exact ⟨rfl, rfl⟩) ?_
    refine stepV 1 rfl rfl (fun _ _ _ h => h) ?_ ?_
    · rintro p L w1 ⟨hsz, hB, s⟩ hk
      exact valR_part _ _ rfl _ 0 rfl _ _ s (vfn y.a) (sg_a y) _ Try.underlying31 rfl (by rw [vfn_size]; kernel_rfl) rfl
    refine stepV _ rfl rfl (fun _ _ _ h => h) (by intros; go_simp; exact ⟨rfl, rfl⟩) ?_
    refine stepV 3 rfl rfl (fun _ _ _ h => h) ?_ ?_
    · rintro p L w1 ⟨hsz, hB, s⟩ hk
      exact valR_part _ _ rfl _ 3 rfl _ _ s (vfn y.b) (sg_b y) _ Try.underlying31 rfl (by rw [vfn_size]; kernel_rfl) rfl
    refine stepD 4 rfl (fun p => rfl) (fun _ _ _ h => h) more ?_ ?_
    · rintro p L w1 ⟨hsz, hB, s⟩ hk
      go_simp
      refine (DO.out _).mono ?_
      rintro e w2 ⟨rfl, h2⟩
      first | exact ⟨rfl, h2⟩ | (subst h2; exact ⟨rfl, Below.refl _ _⟩)
    iterate 5 (refine stepV _ rfl rfl (fun _ _ _ h => h) (by intros; go_simp; exact ⟨rfl, rfl⟩) ?_)
    exact AllI.nil
  case hV0 => exact fun p q => AllI.nil
  case he =>
  clear hB s
  rintro p w0r ⟨hsz, hB, s⟩
  clear lt_s
  clear hsz hW0
  clear DO
  go_upto_region 9 with (fail)
  have lt_s := s.lt
  have hW0 : w.heap.size ≤ w0r.heap.size := by have := hB.size; first | exact this | simpa using this
  apply wp_region_I 28 [0, 1, 0, 7, 15, 0, 32, 0, 224, 480, 1023, 0, 2048, 0, 14336, 30720, 0, 65536, 0, 458752, 983040, 2095104, 4194303, 8388607, 16777215, 16777215, 33554431, 134217727] [10, 21] [_, _, _, _, _, _, _, _, _, _, (fun p => (fun b => .slice (some ⟨b, 0, none⟩) 2 2) (p 10)), _, _, _, _, _, _, _, _, _, _, (fun p => (fun b => .slice (some ⟨b, 0, none⟩) 2 2) (p 21)), _, _, _, _, _, _] (fun p L w' => w0r.heap.size ≤ w'.heap.size ∧ Below w.heap.size w w' ∧ blk w' w.heap.size (sgc y) 36 ∧ (L 10 = true → w0r.heap.size ≤ p 10 ∧ blk w' (p 10) #[.int .i64 (y.a I), .int .i64 (y.a J)] 2) ∧ (L 21 = true → w0r.heap.size ≤ p 21 ∧ blk w' (p 21) #[.int .i64 (y.b J), .int .i64 (y.b I)] 2) ∧ (L 10 = true → L 21 = true → p 10 ≠ p 21)) _ [(0, 46), (1, 47), (2, 48), (3, 49), (4, 50), (5, 51), (6, 52), (7, 53), (8, 54), (9, 55), (10, 56), (11, 57), (12, 58), (13, 59), (14, 60), (15, 61), (16, 62), (17, 63), (18, 64), (19, 65), (20, 66), (21, 67), (22, 68), (23, 45), (24, 69), (25, 70), (26, 11), (27, 12)] [0, 1, 2, 3, 4, 5, 6, 7, 8, 9, 10, 11, 12, 13, 14, 15, 16, 17, 18, 19, 20, 21, 22, 23, 24, 25, 26, 27]
  case hn => rfl
  case hm => kernel_rfl
  case hB => kernel_rfl
  case hds => kernel_rfl
  case hA => (intro p; simp only [putsD, Act.put, List.setIfInBounds_toArray, List.set_cons_zero, List.set_cons_succ, List.getD_cons_zero, List.getD_cons_succ]; exact rfl)
  case h0 => exact fun p => ⟨Nat.le_refl _, hB.drew, s.drew, fun h => absurd h (by decide), fun h => absurd h (by decide), fun h => absurd h (by decide)⟩
  case hmore => exact fun p L w1 w2 ⟨hsz, hB, s, h_l1, h_l2, hne_l1_l2⟩ hm => ⟨Nat.le_trans hsz hm.size, hB.trans (hm.mono (Nat.le_trans hW0 hsz)), s.below hm s.lt, fun hl => ⟨(h_l1 hl).1, (h_l1 hl).2.below hm (h_l1 hl).2.lt⟩, fun hl => ⟨(h_l2 hl).1, (h_l2 hl).2.below hm (h_l2 hl).2.lt⟩, hne_l1_l2⟩
  case hs =>
    intro more
    iterate 4 (refine stepV _ rfl rfl (fun _ _ _ h => h) (by intros; go_simp; exact ⟨rfl, rfl⟩) ?_)
    refine stepV 4 rfl rfl (fun _ _ _ h => h) ?_ ?_
    · rintro p L w1 ⟨hsz, hB, s, h_l1, h_l2, hne_l1_l2⟩ hk
      have hc : w1.cell? ⟨w.heap.size, I, none⟩ = some (.int .i64 (y.a I)) := s.cellIs (by have := (sg_a y I (by rw [vfn_size]; exact hi3)).trans (vfn_get _ hi3); rwa [Nat.zero_add] at this)
      go_simp
      exact ⟨rfl, rfl⟩
    iterate 4 (refine stepV _ rfl rfl (fun _ _ _ h => h) (by intros; go_simp; exact ⟨rfl, rfl⟩) ?_)
    refine stepV 9 rfl rfl (fun _ _ _ h => h) ?_ ?_
    · rintro p L w1 ⟨hsz, hB, s, h_l1, h_l2, hne_l1_l2⟩ hk
      have hc : w1.cell? ⟨w.heap.size, J, none⟩ = some (.int .i64 (y.a J)) := s.cellIs (by have := (sg_a y J (by rw [vfn_size]; exact hj3)).trans (vfn_get _ hj3); rwa [Nat.zero_add] at this)
      go_simp
      exact ⟨rfl, rfl⟩
    refine AllI.cons ?_ ?_
    · refine stepI_fresh 10 rfl (fun p => rfl) rfl (fun b => .slice (some ⟨b, 0, none⟩) 2 2) (fun p => #[.int .i64 (y.a I), .int .i64 (y.a J)]) 2 (fun p => rfl) ?_ ?_
      · intro p w1
        simp only [vfn, qfn]
        go_simp
        try rfl
      rintro p L w1 ⟨hsz, hB, s, h_l1, h_l2, hne_l1_l2⟩ hk
      refine ⟨Nat.le_trans hsz (by simp), hB.alloc (Nat.le_trans (by first | exact hW0 | (have := hB.size; simp at this ⊢; omega)) hsz) _, s.alloc _, fun _ => ⟨hsz, ?_⟩, fun hl => ⟨(h_l2 hl).1, (h_l2 hl).2.alloc _⟩, fun _ hl => Nat.ne_of_gt (h_l2 hl).2.lt⟩
      exact blk.new _ _ _
    iterate 4 (refine stepV _ rfl rfl (fun _ _ _ h => h) (by intros; go_simp; exact ⟨rfl, rfl⟩) ?_)
    refine stepV 15 rfl rfl (fun _ _ _ h => h) ?_ ?_
    · rintro p L w1 ⟨hsz, hB, s, h_l1, h_l2, hne_l1_l2⟩ hk
      have hc : w1.cell? ⟨w.heap.size, 3 + J, none⟩ = some (.int .i64 (y.b J)) := s.cellIs ((sg_b y J (by rw [vfn_size]; exact hj3)).trans (vfn_get _ hj3))
      go_simp
      exact ⟨rfl, rfl⟩
    iterate 4 (refine stepV _ rfl rfl (fun _ _ _ h => h) (by intros; go_simp; exact ⟨rfl, rfl⟩) ?_)
    refine stepV 20 rfl rfl (fun _ _ _ h => h) ?_ ?_
    · rintro p L w1 ⟨hsz, hB, s, h_l1, h_l2, hne_l1_l2⟩ hk
      have hc : w1.cell? ⟨w.heap.size, 3 + I, none⟩ = some (.int .i64 (y.b I)) := s.cellIs ((sg_b y I (by rw [vfn_size]; exact hi3)).trans (vfn_get _ hi3))
      go_simp
      exact ⟨rfl, rfl⟩
    refine AllI.cons ?_ ?_
    · refine stepI_fresh 21 rfl (fun p => rfl) rfl (fun b => .slice (some ⟨b, 0, none⟩) 2 2) (fun p => #[.int .i64 (y.b J), .int .i64 (y.b I)]) 2 (fun p => rfl) ?_ ?_
      · intro p w1
        simp only [vfn, qfn]
        go_simp
        try rfl
      rintro p L w1 ⟨hsz, hB, s, h_l1, h_l2, hne_l1_l2⟩ hk
      refine ⟨Nat.le_trans hsz (by simp), hB.alloc (Nat.le_trans (by first | exact hW0 | (have := hB.size; simp at this ⊢; omega)) hsz) _, s.alloc _, fun hl => ⟨(h_l1 hl).1, (h_l1 hl).2.alloc _⟩, fun _ => ⟨hsz, ?_⟩, fun hl _ => Nat.ne_of_lt (h_l1 hl).2.lt⟩
      exact blk.new _ _ _
    refine stepD 22 rfl (fun p => rfl) (fun _ _ _ h => h) more ?_ ?_
    · rintro p L w1 ⟨hsz, hB, s, h_l1, h_l2, hne_l1_l2⟩ hk
      have hh_l1 := (h_l1 (hk.2.1 10 rfl)).2
      have hh_l2 := (h_l2 (hk.2.1 21 rfl)).2
      go_simp
      refine (DT.out _ _ _ _ hh_l1 hh_l2).mono ?_
      rintro e w2 ⟨rfl, h2⟩
      first | exact ⟨rfl, h2⟩ | (subst h2; exact ⟨rfl, Below.refl _ _⟩)
    iterate 5 (refine stepV _ rfl rfl (fun _ _ _ h => h) (by intros; go_simp; exact ⟨rfl, rfl⟩) ?_)
    exact AllI.nil
  case hV0 =>
    intro p q
    refine AllI.cons ?_ ?_
    · skip
      iterate 28 (refine AllI.cons (by first | exact .inl rfl | (refine .inr ?_; simp only [List.getD_cons_zero, List.getD_cons_succ]; done) | exact .inr rfl) ?_)
      exact AllI.nil
    refine AllI.cons ?_ ?_
    · skip
      iterate 28 (refine AllI.cons (by first | exact .inl rfl | (refine .inr ?_; simp only [List.getD_cons_zero, List.getD_cons_succ]; done) | exact .inr rfl) ?_)
      exact AllI.nil
    exact AllI.nil
  case he =>
  clear hB s
  rintro p w0rr ⟨hsz, hB, s, h_l1, h_l2, hne_l1_l2⟩
  obtain ⟨le_l1, l1⟩ := h_l1 rfl
  clear h_l1
  obtain ⟨le_l2, l2⟩ := h_l2 rfl
  clear h_l2
  have ne_l1_l2 : p 10 ≠ p 21 := hne_l1_l2 rfl rfl
  clear hne_l1_l2
  replace l1 : blk w0rr (p 10) #[.int .i64 (y.a I), .int .i64 (y.a J)] 2 := l1
  replace l2 : blk w0rr (p 21) #[.int .i64 (y.b J), .int .i64 (y.b I)] 2 := l2
  have ne_s_l1 : w.heap.size ≠ p 10 := Nat.ne_of_lt (Nat.lt_of_lt_of_le lt_s le_l1)
  have ge_l1 : w.heap.size ≤ p 10 := Nat.le_trans hW0 le_l1
  have ne_s_l2 : w.heap.size ≠ p 21 := Nat.ne_of_lt (Nat.lt_of_lt_of_le lt_s le_l2)
  have ge_l2 : w.heap.size ≤ p 21 := Nat.le_trans hW0 le_l2
  generalize p 10 = l1_b at *
  generalize p 21 = l2_b at *
  clear lt_s
  clear hsz hW0
  clear DT
  cases b
  all_goals
    go_wp2_with (fail)
    go_ret
    exact ⟨by first | rfl | simp, hB⟩
theorem sent_any (y : Sgt) (i k : Nat) (w : World) (h : sgOk y = true) (hi : i < 4) (hk : k < 4) : Calls Try.prog 67 #[.agg (sgc y), .int .i64 i, .int .i64 k] w fun e w' => e = .returned (.int .i64 (entF y i k)) ∧ Below w.heap.size w w' := by
  unfold entF
  by_cases c : k < i
  · rw [if_pos c]; exact sent_gt y k i w h hi c
  · rw [if_neg c]; exact sent_le y i k w h hk (by omega)
end Go.Proofs.Ytkmelddejdikgaa
