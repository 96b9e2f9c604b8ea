/-
  The matrix of a quaternion, in the package.
-/
import Derived.Test.YtjnocbjngojigaaQuatD
import Derived.Test.YtjnocbjngojigaaVecO
import Derived.Test.YtjnocbjngojigaaBase
import Derived.Test.YtjnocbjngojigaaQEq
set_option linter.unusedSimpArgs false
set_option linter.unusedVariables false
namespace Go.Proofs.Ytjnocbjngojigaa
open Go.RowKit PM Dt
/-- Is a number at most 2^41 in absolute value? -/
abbrev Wd (a : Int) : Prop := -2199023255552 ≤ a ∧ a ≤ 2199023255552
theorem Wd.I {a : Int} (h : Wd a) : I64 a := ⟨by have := h.1; omega, by have := h.2; omega⟩
theorem wd_prod {a b : Int} (ha : Wd a) (hb : Wd b) : -4835703278458516698824704 ≤ a * b ∧ a * b ≤ 4835703278458516698824704 :=
  bmul (P := 2199023255552) (R := 2199023255552) ha.1 ha.2 hb.1 hb.2
theorem list_W4 {a b c d : Int} (ha : Wd a) (hb : Wd b) (hc : Wd c) (hd : Wd d) : ∀ k, k < [a, b, c, d].length → I64 ([a, b, c, d].getD k 0) := by
  intro k hk
  rcases k with _ | _ | _ | _ | k
  · exact ha.I
  · exact hb.I
  · exact hc.I
  · exact hd.I
  · simp at hk; omega
theorem intsW4 {w : World} {b : Nat} {a0 a1 a2 a3 : Int} {t : TypeId} (h : blk w b #[.int .i64 a0, .int .i64 a1, .int .i64 a2, .int .i64 a3] t) : Ints w (.slice (some ⟨b, 0, none⟩) 4 4) [a0, a1, a2, a3] :=
  Or.inr ⟨by simp, b, 0, 4, rfl, h.lt, fun k hk => by
    rcases k with _ | _ | _ | _ | k
    · exact h.cellIs rfl
    · exact h.cellIs rfl
    · exact h.cellIs rfl
    · exact h.cellIs rfl
    · simp at hk; omega⟩
theorem fit4 {a0 a1 a2 a3 b0 b1 b2 b3 : Int} (ha0 : Wd a0) (ha1 : Wd a1) (ha2 : Wd a2) (ha3 : Wd a3) (hb0 : Wd b0) (hb1 : Wd b1) (hb2 : Wd b2) (hb3 : Wd b3) :
    dotV [a0, a1, a2, a3] [b0, b1, b2, b3] = rnd (dotS [a0, a1, a2, a3] [b0, b1, b2, b3]) ∧ dotE [a0, a1, a2, a3] [b0, b1, b2, b3] = 0 := by
  have p0 := wd_prod ha0 hb0
  have p1 := wd_prod ha1 hb1
  have p2 := wd_prod ha2 hb2
  have p3 := wd_prod ha3 hb3
  have e : dotS [a0, a1, a2, a3] [b0, b1, b2, b3] = a0 * b0 + (a1 * b1 + (a2 * b2 + (a3 * b3 + 0))) := by rw [dotS_cons, dotS_cons, dotS_cons, dotS_cons, dotS_nil]
  have := dotOK (S := dotS [a0, a1, a2, a3] [b0, b1, b2, b3]) (by rw [e]; omega) (by rw [e]; omega)
  unfold dotV dotE
  rw [if_neg (by simp), if_neg (by simp)]
  exact this
theorem fit2 {a0 a1 b0 b1 : Int} (ha0 : Wd a0) (ha1 : Wd a1) (hb0 : Wd b0) (hb1 : Wd b1) :
    dotV [a0, a1] [b0, b1] = rnd (dotS [a0, a1] [b0, b1]) ∧ dotE [a0, a1] [b0, b1] = 0 := by
  have p0 := wd_prod ha0 hb0
  have p1 := wd_prod ha1 hb1
  have e : dotS [a0, a1] [b0, b1] = a0 * b0 + (a1 * b1 + 0) := by rw [dotS_cons, dotS_cons, dotS_nil]
  have := dotOK (S := dotS [a0, a1] [b0, b1]) (by rw [e]; omega) (by rw [e]; omega)
  unfold dotV dotE
  rw [if_neg (by simp), if_neg (by simp)]
  exact this
theorem dq4 {a0 a1 a2 a3 b0 b1 b2 b3 : Int} (ha0 : Wd a0) (ha1 : Wd a1) (ha2 : Wd a2) (ha3 : Wd a3) (hb0 : Wd b0) (hb1 : Wd b1) (hb2 : Wd b2) (hb3 : Wd b3) (X : Int) (hX : rnd (dotS [a0, a1, a2, a3] [b0, b1, b2, b3]) = X) (x y : Nat) (w : World) (t : TypeId)
    (p : blk w x #[.int .i64 a0, .int .i64 a1, .int .i64 a2, .int .i64 a3] t) (q : blk w y #[.int .i64 b0, .int .i64 b1, .int .i64 b2, .int .i64 b3] t) :
    Calls Try.prog 112 #[.slice (some ⟨x, 0, none⟩) 4 4, .slice (some ⟨y, 0, none⟩) 4 4] w fun e w' => e = .returned (.tuple #[.int .i64 X, .int .i64 0]) ∧ Below w.heap.size w w' :=
  (dot_any [a0, a1, a2, a3] [b0, b1, b2, b3] _ _ w (intsW4 p) (intsW4 q) (list_W4 ha0 ha1 ha2 ha3) (list_W4 hb0 hb1 hb2 hb3)).mono fun e w' h => ⟨h.1.trans (by rw [(fit4 ha0 ha1 ha2 ha3 hb0 hb1 hb2 hb3).1, (fit4 ha0 ha1 ha2 ha3 hb0 hb1 hb2 hb3).2, hX]), h.2⟩
theorem dq2 {a0 a1 b0 b1 : Int} (ha0 : Wd a0) (ha1 : Wd a1) (hb0 : Wd b0) (hb1 : Wd b1) (X : Int) (hX : rnd (dotS [a0, a1] [b0, b1]) = X) (x y : Nat) (w : World) (t : TypeId)
    (p : blk w x #[.int .i64 a0, .int .i64 a1] t) (q : blk w y #[.int .i64 b0, .int .i64 b1] t) :
    Calls Try.prog 112 #[.slice (some ⟨x, 0, none⟩) 2 2, .slice (some ⟨y, 0, none⟩) 2 2] w fun e w' => e = .returned (.tuple #[.int .i64 X, .int .i64 0]) ∧ Below w.heap.size w w' :=
  (dot_any [a0, a1] [b0, b1] _ _ w (intsJ2 p) (intsJ2 q) (list_J2 ha0.I ha1.I) (list_J2 hb0.I hb1.I)).mono fun e w' h => ⟨h.1.trans (by rw [(fit2 ha0 ha1 hb0 hb1).1, (fit2 ha0 ha1 hb0 hb1).2, hX]), h.2⟩
/-- The entries of the matrix, as integers ahead of rounding. -/
def qent (f : Nat → Int) : Nat → Int
  | 0 => f 0 * f 0 + f 1 * f 1 - f 2 * f 2 - f 3 * f 3
  | 1 => 2 * (f 1 * f 2) - 2 * (f 0 * f 3)
  | 2 => 2 * (f 1 * f 3) + 2 * (f 0 * f 2)
  | 3 => 2 * (f 1 * f 2) + 2 * (f 0 * f 3)
  | 4 => f 0 * f 0 - f 1 * f 1 + f 2 * f 2 - f 3 * f 3
  | 5 => 2 * (f 2 * f 3) - 2 * (f 0 * f 1)
  | 6 => 2 * (f 1 * f 3) - 2 * (f 0 * f 2)
  | 7 => 2 * (f 2 * f 3) + 2 * (f 0 * f 1)
  | _ => f 0 * f 0 - f 1 * f 1 - f 2 * f 2 + f 3 * f 3
def qmatX (f : Nat → Int) (j : Nat) : Int := rnd (qent f j)
theorem ds4 (a0 a1 a2 a3 b0 b1 b2 b3 : Int) : dotS [a0, a1, a2, a3] [b0, b1, b2, b3] = a0 * b0 + (a1 * b1 + (a2 * b2 + (a3 * b3 + 0))) := by rw [dotS_cons, dotS_cons, dotS_cons, dotS_cons, dotS_nil]
theorem ds2 (a0 a1 b0 b1 : Int) : dotS [a0, a1] [b0, b1] = a0 * b0 + (a1 * b1 + 0) := by rw [dotS_cons, dotS_cons, dotS_nil]
def qmatF (f : Nat → Int) : Nat → Int := if validQ f then qmatX f else fun _ => 0
def qmatE (f : Nat → Int) : Int := if validQ f then 0 else 2
def mpre (x : Nat → Int) (n : Nat) : Nat → Int := fun j => if j < n then x j else 0
theorem mpre_step {x : Nat → Int} {k j : Nat} (h : j ≠ k) : mpre x k j = mpre x (k + 1) j := by
  have : (j < k + 1) = (j < k) := propext (by omega)
  simp only [mpre, this]
theorem pent0 (f : Nat → Int) : dotS [f 0, f 1, -f 2, -f 3] [f 0, f 1, f 2, f 3] = qent f 0 := by
  rw [ds4]; show _ = _; simp only [qent, Int.neg_mul]; omega
theorem pent1 (f : Nat → Int) : dotS [2 * f 1, -2 * f 0] [f 2, f 3] = qent f 1 := by
  rw [ds2]; show _ = _; simp only [qent, Int.mul_assoc, Int.neg_mul]
  have c1 := Int.mul_comm (f 1) (f 2)
  have c2 := Int.mul_comm (f 1) (f 3)
  have c3 := Int.mul_comm (f 2) (f 3)
  omega
theorem pent2 (f : Nat → Int) : dotS [2 * f 1, 2 * f 0] [f 3, f 2] = qent f 2 := by
  rw [ds2]; show _ = _; simp only [qent, Int.mul_assoc, Int.neg_mul]
  have c1 := Int.mul_comm (f 1) (f 2)
  have c2 := Int.mul_comm (f 1) (f 3)
  have c3 := Int.mul_comm (f 2) (f 3)
  omega
theorem pent3 (f : Nat → Int) : dotS [2 * f 2, 2 * f 0] [f 1, f 3] = qent f 3 := by
  rw [ds2]; show _ = _; simp only [qent, Int.mul_assoc, Int.neg_mul]
  have c1 := Int.mul_comm (f 1) (f 2)
  have c2 := Int.mul_comm (f 1) (f 3)
  have c3 := Int.mul_comm (f 2) (f 3)
  omega
theorem pent4 (f : Nat → Int) : dotS [f 0, f 2, -f 3, -f 1] [f 0, f 2, f 3, f 1] = qent f 4 := by
  rw [ds4]; show _ = _; simp only [qent, Int.neg_mul]; omega
theorem pent5 (f : Nat → Int) : dotS [2 * f 2, -2 * f 0] [f 3, f 1] = qent f 5 := by
  rw [ds2]; show _ = _; simp only [qent, Int.mul_assoc, Int.neg_mul]
  have c1 := Int.mul_comm (f 1) (f 2)
  have c2 := Int.mul_comm (f 1) (f 3)
  have c3 := Int.mul_comm (f 2) (f 3)
  omega
theorem pent6 (f : Nat → Int) : dotS [2 * f 3, -2 * f 0] [f 1, f 2] = qent f 6 := by
  rw [ds2]; show _ = _; simp only [qent, Int.mul_assoc, Int.neg_mul]
  have c1 := Int.mul_comm (f 1) (f 2)
  have c2 := Int.mul_comm (f 1) (f 3)
  have c3 := Int.mul_comm (f 2) (f 3)
  omega
theorem pent7 (f : Nat → Int) : dotS [2 * f 3, 2 * f 0] [f 2, f 1] = qent f 7 := by
  rw [ds2]; show _ = _; simp only [qent, Int.mul_assoc, Int.neg_mul]
  have c1 := Int.mul_comm (f 1) (f 2)
  have c2 := Int.mul_comm (f 1) (f 3)
  have c3 := Int.mul_comm (f 2) (f 3)
  omega
theorem pent8 (f : Nat → Int) : dotS [f 0, f 3, -f 1, -f 2] [f 0, f 3, f 1, f 2] = qent f 8 := by
  rw [ds4]; show _ = _; simp only [qent, Int.neg_mul]; omega
theorem wd_of {f : Nat → Int} (h : okQ f = true) {i : Nat} (hi : i < 4) : Wd (f i) ∧ Wd (-f i) ∧ Wd (2 * f i) ∧ Wd (-2 * f i) := by
  have := (vb_iff _).1 ((okQ_iff f).1 h i hi)
  unfold Wd
  omega
set_option maxRecDepth 100000 in
set_option maxHeartbeats 8000000 in
theorem qmat_any (f : Nat → Int) (w : World) (hI : ∀ i, i < 4 → I64 (f i)) : Calls Try.prog 76 #[.agg (qfn f)] w fun e w' => e = .returned (.tuple #[.agg (mfn (qmatF f)), .int .i64 (qmatE f)]) ∧ Below w.heap.size w w' := by
  have V := Lib.hid (fun w => qvalid_any f w hI)
  unfold qmatF qmatE
  obtain ⟨bv, hv⟩ : ∃ b, validQ f = b := ⟨_, rfl⟩
  rw [hv] at V ⊢
  have HV := Lib.hid hv
  obtain ⟨X, hX⟩ : ∃ X, X = qmatX f := ⟨_, rfl⟩
  rw [← hX]
  have HX0 := Lib.hid hX
  clear hv hX
  go_enter Try.func76, Try.ntmps76
  go_upto_region 1 with (fail)
  rw [zero_mat]
  have p : blk ((w.alloc (.cells (qfn f) 23)).alloc (.cells (mfn fun _ => 0) 105)) w.heap.size (qfn f) 23 := (blk.new _ _ _).alloc _
  have r : blk ((w.alloc (.cells (qfn f) 23)).alloc (.cells (mfn fun _ => 0) 105)) (w.heap.size + 1) (mfn fun _ => 0) 105 := blk.new' (by simp)
  have hB : Below w.heap.size w ((w.alloc (.cells (qfn f) 23)).alloc (.cells (mfn fun _ => 0) 105)) := by go_grown
  generalize (w.alloc (.cells (qfn f) 23)).alloc (.cells (mfn fun _ => 0) 105) = w0 at *
  cases bv
  · go_wp2_with (first
      | (refine wpList_load_rowG ?hw _ _ rfl _ rfl _ _ _ _ p Try.underlying23 rfl ?hi ?_; (case hw => (first | rfl | (simp [Region.wanted, yielded]; done))); (case hi => (rw [qfn_size]; kernel_rfl)))
      | (go_at_call 30; with_reducible refine (V.out _).mono ?_; rintro e w1 ⟨rfl, hb⟩; replace hB := hB.trans (hb.mono hB.size); replace p := p.below hb p.lt; replace r := r.below hb r.lt; clear hb)
      | (rw [zero_mat]; refine wpList_store_row rfl _ _ _ rfl _ rfl _ rfl _ _ r (by rw [mfn_size]; kernel_rfl) (by simp only [mfn_size]) (mfn_one _) ?_))
    refine bodyPost_ret (results_vec rfl _ _ _ _ _ _ _ rfl (r.row (mfn (fun _ => 0))) Try.underlying105 rfl (by rw [mfn_size]; kernel_rfl)) rfl ?_; refine ⟨?_, Below.setRow hB (by omega) _⟩
    rfl
  have ho := validQ_ok hI HV.out
  have D0 : Hid (∀ x y w, blk w x #[.int .i64 (f 0), .int .i64 (f 1), .int .i64 (-f 2), .int .i64 (-f 3)] 2 → blk w y #[.int .i64 (f 0), .int .i64 (f 1), .int .i64 (f 2), .int .i64 (f 3)] 2 → Calls Try.prog 112 #[.slice (some ⟨x, 0, none⟩) 4 4, .slice (some ⟨y, 0, none⟩) 4 4] w fun e w' => e = .returned (.tuple #[.int .i64 (qmatX f 0), .int .i64 0]) ∧ Below w.heap.size w w') := fun x y w h1 h2 => dq4 (wd_of ho (i := 0) (by omega)).1 (wd_of ho (i := 1) (by omega)).1 (wd_of ho (i := 2) (by omega)).2.1 (wd_of ho (i := 3) (by omega)).2.1 (wd_of ho (i := 0) (by omega)).1 (wd_of ho (i := 1) (by omega)).1 (wd_of ho (i := 2) (by omega)).1 (wd_of ho (i := 3) (by omega)).1 (qmatX f 0) (by rw [pent0]; rfl) x y w _ h1 h2
  have D1 : Hid (∀ x y w, blk w x #[.int .i64 (2 * f 1), .int .i64 (-2 * f 0)] 2 → blk w y #[.int .i64 (f 2), .int .i64 (f 3)] 2 → Calls Try.prog 112 #[.slice (some ⟨x, 0, none⟩) 2 2, .slice (some ⟨y, 0, none⟩) 2 2] w fun e w' => e = .returned (.tuple #[.int .i64 (qmatX f 1), .int .i64 0]) ∧ Below w.heap.size w w') := fun x y w h1 h2 => dq2 (wd_of ho (i := 1) (by omega)).2.2.1 (wd_of ho (i := 0) (by omega)).2.2.2 (wd_of ho (i := 2) (by omega)).1 (wd_of ho (i := 3) (by omega)).1 (qmatX f 1) (by rw [pent1]; rfl) x y w _ h1 h2
  have D2 : Hid (∀ x y w, blk w x #[.int .i64 (2 * f 1), .int .i64 (2 * f 0)] 2 → blk w y #[.int .i64 (f 3), .int .i64 (f 2)] 2 → Calls Try.prog 112 #[.slice (some ⟨x, 0, none⟩) 2 2, .slice (some ⟨y, 0, none⟩) 2 2] w fun e w' => e = .returned (.tuple #[.int .i64 (qmatX f 2), .int .i64 0]) ∧ Below w.heap.size w w') := fun x y w h1 h2 => dq2 (wd_of ho (i := 1) (by omega)).2.2.1 (wd_of ho (i := 0) (by omega)).2.2.1 (wd_of ho (i := 3) (by omega)).1 (wd_of ho (i := 2) (by omega)).1 (qmatX f 2) (by rw [pent2]; rfl) x y w _ h1 h2
  have D3 : Hid (∀ x y w, blk w x #[.int .i64 (2 * f 2), .int .i64 (2 * f 0)] 2 → blk w y #[.int .i64 (f 1), .int .i64 (f 3)] 2 → Calls Try.prog 112 #[.slice (some ⟨x, 0, none⟩) 2 2, .slice (some ⟨y, 0, none⟩) 2 2] w fun e w' => e = .returned (.tuple #[.int .i64 (qmatX f 3), .int .i64 0]) ∧ Below w.heap.size w w') := fun x y w h1 h2 => dq2 (wd_of ho (i := 2) (by omega)).2.2.1 (wd_of ho (i := 0) (by omega)).2.2.1 (wd_of ho (i := 1) (by omega)).1 (wd_of ho (i := 3) (by omega)).1 (qmatX f 3) (by rw [pent3]; rfl) x y w _ h1 h2
  have D4 : Hid (∀ x y w, blk w x #[.int .i64 (f 0), .int .i64 (f 2), .int .i64 (-f 3), .int .i64 (-f 1)] 2 → blk w y #[.int .i64 (f 0), .int .i64 (f 2), .int .i64 (f 3), .int .i64 (f 1)] 2 → Calls Try.prog 112 #[.slice (some ⟨x, 0, none⟩) 4 4, .slice (some ⟨y, 0, none⟩) 4 4] w fun e w' => e = .returned (.tuple #[.int .i64 (qmatX f 4), .int .i64 0]) ∧ Below w.heap.size w w') := fun x y w h1 h2 => dq4 (wd_of ho (i := 0) (by omega)).1 (wd_of ho (i := 2) (by omega)).1 (wd_of ho (i := 3) (by omega)).2.1 (wd_of ho (i := 1) (by omega)).2.1 (wd_of ho (i := 0) (by omega)).1 (wd_of ho (i := 2) (by omega)).1 (wd_of ho (i := 3) (by omega)).1 (wd_of ho (i := 1) (by omega)).1 (qmatX f 4) (by rw [pent4]; rfl) x y w _ h1 h2
  have D5 : Hid (∀ x y w, blk w x #[.int .i64 (2 * f 2), .int .i64 (-2 * f 0)] 2 → blk w y #[.int .i64 (f 3), .int .i64 (f 1)] 2 → Calls Try.prog 112 #[.slice (some ⟨x, 0, none⟩) 2 2, .slice (some ⟨y, 0, none⟩) 2 2] w fun e w' => e = .returned (.tuple #[.int .i64 (qmatX f 5), .int .i64 0]) ∧ Below w.heap.size w w') := fun x y w h1 h2 => dq2 (wd_of ho (i := 2) (by omega)).2.2.1 (wd_of ho (i := 0) (by omega)).2.2.2 (wd_of ho (i := 3) (by omega)).1 (wd_of ho (i := 1) (by omega)).1 (qmatX f 5) (by rw [pent5]; rfl) x y w _ h1 h2
  have D6 : Hid (∀ x y w, blk w x #[.int .i64 (2 * f 3), .int .i64 (-2 * f 0)] 2 → blk w y #[.int .i64 (f 1), .int .i64 (f 2)] 2 → Calls Try.prog 112 #[.slice (some ⟨x, 0, none⟩) 2 2, .slice (some ⟨y, 0, none⟩) 2 2] w fun e w' => e = .returned (.tuple #[.int .i64 (qmatX f 6), .int .i64 0]) ∧ Below w.heap.size w w') := fun x y w h1 h2 => dq2 (wd_of ho (i := 3) (by omega)).2.2.1 (wd_of ho (i := 0) (by omega)).2.2.2 (wd_of ho (i := 1) (by omega)).1 (wd_of ho (i := 2) (by omega)).1 (qmatX f 6) (by rw [pent6]; rfl) x y w _ h1 h2
  have D7 : Hid (∀ x y w, blk w x #[.int .i64 (2 * f 3), .int .i64 (2 * f 0)] 2 → blk w y #[.int .i64 (f 2), .int .i64 (f 1)] 2 → Calls Try.prog 112 #[.slice (some ⟨x, 0, none⟩) 2 2, .slice (some ⟨y, 0, none⟩) 2 2] w fun e w' => e = .returned (.tuple #[.int .i64 (qmatX f 7), .int .i64 0]) ∧ Below w.heap.size w w') := fun x y w h1 h2 => dq2 (wd_of ho (i := 3) (by omega)).2.2.1 (wd_of ho (i := 0) (by omega)).2.2.1 (wd_of ho (i := 2) (by omega)).1 (wd_of ho (i := 1) (by omega)).1 (qmatX f 7) (by rw [pent7]; rfl) x y w _ h1 h2
  have D8 : Hid (∀ x y w, blk w x #[.int .i64 (f 0), .int .i64 (f 3), .int .i64 (-f 1), .int .i64 (-f 2)] 2 → blk w y #[.int .i64 (f 0), .int .i64 (f 3), .int .i64 (f 1), .int .i64 (f 2)] 2 → Calls Try.prog 112 #[.slice (some ⟨x, 0, none⟩) 4 4, .slice (some ⟨y, 0, none⟩) 4 4] w fun e w' => e = .returned (.tuple #[.int .i64 (qmatX f 8), .int .i64 0]) ∧ Below w.heap.size w w') := fun x y w h1 h2 => dq4 (wd_of ho (i := 0) (by omega)).1 (wd_of ho (i := 3) (by omega)).1 (wd_of ho (i := 1) (by omega)).2.1 (wd_of ho (i := 2) (by omega)).2.1 (wd_of ho (i := 0) (by omega)).1 (wd_of ho (i := 3) (by omega)).1 (wd_of ho (i := 1) (by omega)).1 (wd_of ho (i := 2) (by omega)).1 (qmatX f 8) (by rw [pent8]; rfl) x y w _ h1 h2
  have wn1 : IntKind.i64.wrap (-f 1) = -f 1 := by have := (vb_iff _).1 ((okQ_iff f).1 ho 1 (by omega)); rw [IntKind.wrap_i64]; omega
  have wn2 : IntKind.i64.wrap (-f 2) = -f 2 := by have := (vb_iff _).1 ((okQ_iff f).1 ho 2 (by omega)); rw [IntKind.wrap_i64]; omega
  have wn3 : IntKind.i64.wrap (-f 3) = -f 3 := by have := (vb_iff _).1 ((okQ_iff f).1 ho 3 (by omega)); rw [IntKind.wrap_i64]; omega
  have wt1 : IntKind.i64.wrap (2 * f 1) = 2 * f 1 := by have := (vb_iff _).1 ((okQ_iff f).1 ho 1 (by omega)); rw [IntKind.wrap_i64]; omega
  have wt2 : IntKind.i64.wrap (2 * f 2) = 2 * f 2 := by have := (vb_iff _).1 ((okQ_iff f).1 ho 2 (by omega)); rw [IntKind.wrap_i64]; omega
  have wt3 : IntKind.i64.wrap (2 * f 3) = 2 * f 3 := by have := (vb_iff _).1 ((okQ_iff f).1 ho 3 (by omega)); rw [IntKind.wrap_i64]; omega
  have wt0 : IntKind.i64.wrap (2 * f 0) = 2 * f 0 := by have := (vb_iff _).1 ((okQ_iff f).1 ho 0 (by omega)); rw [IntKind.wrap_i64]; omega
  have wm0 : IntKind.i64.wrap (-2 * f 0) = -2 * f 0 := by have := (vb_iff _).1 ((okQ_iff f).1 ho 0 (by omega)); rw [IntKind.wrap_i64]; omega
  rw [← HX0.out] at D0 D1 D2 D3 D4 D5 D6 D7 D8
  clear hI HV ho HX0
  go_upto_region 3 with (first
      | (refine wpList_load_rowG ?hw _ _ rfl _ rfl _ _ _ _ p Try.underlying23 rfl ?hi ?_; (case hw => (first | rfl | (simp [Region.wanted, yielded]; done))); (case hi => (rw [qfn_size]; kernel_rfl)))
      | (go_at_call 30; with_reducible refine (V.out _).mono ?_; rintro e w1 ⟨rfl, hb⟩; replace hB := hB.trans (hb.mono hB.size); replace p := p.below hb p.lt; replace r := r.below hb r.lt; clear hb))
  have a0 : w1.cell? ⟨w.heap.size, 0, none⟩ = some (.int .i64 (f 0)) := p.cellIs (qfn_get f (by omega))
  go_upto_region 5 with (fail)
  rw [zero_mat]
  have m := blk.new w1 (mfn fun _ => 0) 105
  have mb1 : w.heap.size + 1 < w1.heap.size := r.lt
  replace p := p.alloc (.cells (mfn fun _ => 0) 105)
  replace r := r.alloc (.cells (mfn fun _ => 0) 105)
  replace hB := hB.alloc hB.size (.cells (mfn fun _ => 0) 105)
  clear a0
  generalize w1.alloc (.cells (mfn fun _ => 0) 105) = w2 at *
  generalize w1.heap.size = mb at *
  go_wp2_with (fail)
  go_loopw [18] (fun iv wr => ∃ i : Int, 0 ≤ i ∧ i ≤ 3 ∧ iv = .int .i64 i ∧ blk wr w.heap.size (qfn f) 23 ∧ blk wr (w.heap.size + 1) (mfn fun _ => 0) 105 ∧ blk wr mb (mfn (mpre X (3 * i.toNat))) 105 ∧ Below w.heap.size w wr) (fun iv _ => 3 - (intOf iv).toNat)
  case atStart => exact ⟨0, by omega, by omega, rfl, p, r, by rw [show mfn (mpre X (3 * (0 : Int).toNat)) = mfn (fun _ => 0) from mfn_congr fun i _ => by simp [mpre]]; exact m, hB⟩
  case round =>
    clear p r m hB
    obtain ⟨i, hi0, hi3, rfl, p, r, m, hB⟩ := hrel
    have hcase : i = 0 ∨ i = 1 ∨ i = 2 ∨ i = 3 := by omega
    rcases hcase with rfl | rfl | rfl | rfl
    · go_wp2_with (fail)
      obtain ⟨wo, rfl⟩ : ∃ wo : World, wo = wr := ⟨_, rfl⟩
      go_loopw [21] (fun kv wi => ∃ k : Int, 0 ≤ k ∧ k ≤ 3 ∧ kv = .int .i64 k ∧ blk wi w.heap.size (qfn f) 23 ∧ blk wi (w.heap.size + 1) (mfn fun _ => 0) 105 ∧ blk wi mb (mfn (mpre X (0 + k.toNat))) 105 ∧ Below w.heap.size w wi) (fun kv _ => 3 - (intOf kv).toNat)
      case atStart => exact ⟨0, by omega, by omega, rfl, p, r, m, hB⟩
      case round =>
        clear p r m hB
        obtain ⟨k, hk0, hk3, rfl, p, r, m, hB⟩ := hrel
        have hcase : k = 0 ∨ k = 1 ∨ k = 2 ∨ k = 3 := by omega
        rcases hcase with rfl | rfl | rfl | rfl
        · go_upto_region 11 with (fail)
          refine wp_region_X 9 (by kernel_rfl) (by kernel_rfl) ?_
          replace p := p.drew
          replace r := r.drew
          replace m := m.drew
          replace hB : Below w.heap.size w wr.drew := hB.drew
          generalize wr.drew = wd at *
          refine wpX_take 0 (.int .i64 0) rfl rfl (by kernel_rfl) (fun w1 h1 => by go_simp; exact ⟨rfl, Below.refl _ _⟩) ?_
          simp only [Act.put, List.setIfInBounds_toArray, List.set_cons_zero, List.set_cons_succ]
          refine wpX_take 1 (.int .i64 1) rfl rfl (by kernel_rfl) (fun w1 h1 => by go_simp; exact ⟨rfl, Below.refl _ _⟩) ?_
          simp only [Act.put, List.setIfInBounds_toArray, List.set_cons_zero, List.set_cons_succ]
          refine wpX_take 2 (.pointer (some ⟨w.heap.size, 1, none⟩)) rfl rfl (by kernel_rfl) (fun w1 h1 => by go_simp; exact ⟨rfl, Below.refl _ _⟩) ?_
          simp only [Act.put, List.setIfInBounds_toArray, List.set_cons_zero, List.set_cons_succ]
          refine wpX_take 3 (.int .i64 (f 1)) rfl rfl (by kernel_rfl) (fun w1 h1 => by have hc : w1.cell? ⟨w.heap.size, 1, none⟩ = some (.int .i64 (f 1)) := (p.below h1 p.lt).cellIs (qfn_get _ (by omega)); go_simp; exact ⟨rfl, Below.refl _ _⟩) ?_
          simp only [Act.put, List.setIfInBounds_toArray, List.set_cons_zero, List.set_cons_succ]
          refine wpX_take 4 (.int .i64 0) rfl rfl (by kernel_rfl) (fun w1 h1 => by go_simp; exact ⟨rfl, Below.refl _ _⟩) ?_
          simp only [Act.put, List.setIfInBounds_toArray, List.set_cons_zero, List.set_cons_succ]
          refine wpX_take 5 (.int .i64 1) rfl rfl (by kernel_rfl) (fun w1 h1 => by go_simp; exact ⟨rfl, Below.refl _ _⟩) ?_
          simp only [Act.put, List.setIfInBounds_toArray, List.set_cons_zero, List.set_cons_succ]
          refine wpX_take 6 (.pointer (some ⟨w.heap.size, 1, none⟩)) rfl rfl (by kernel_rfl) (fun w1 h1 => by go_simp; exact ⟨rfl, Below.refl _ _⟩) ?_
          simp only [Act.put, List.setIfInBounds_toArray, List.set_cons_zero, List.set_cons_succ]
          refine wpX_take 7 (.int .i64 (f 1)) rfl rfl (by kernel_rfl) (fun w1 h1 => by have hc : w1.cell? ⟨w.heap.size, 1, none⟩ = some (.int .i64 (f 1)) := (p.below h1 p.lt).cellIs (qfn_get _ (by omega)); go_simp; exact ⟨rfl, Below.refl _ _⟩) ?_
          simp only [Act.put, List.setIfInBounds_toArray, List.set_cons_zero, List.set_cons_succ]
          refine wpX_take 8 (.int .i64 (f 1)) rfl rfl (by kernel_rfl) (fun w1 h1 => by go_simp; exact ⟨rfl, Below.refl _ _⟩) ?_
          simp only [Act.put, List.setIfInBounds_toArray, List.set_cons_zero, List.set_cons_succ]
          refine wpX_tail (by kernel_rfl) (fun wt ht => ?_)
          simp only [List.drop_succ_cons, List.drop_zero]
          replace hB := hB.trans (ht.mono hB.size)
          replace p := p.below ht p.lt
          replace r := r.below ht r.lt
          replace m := m.below ht m.lt
          clear ht
          go_upto_region 15 with (fail)
          refine wp_region_X 13 (by kernel_rfl) (by kernel_rfl) ?_
          replace p := p.drew
          replace r := r.drew
          replace m := m.drew
          replace hB : Below w.heap.size w wt.drew := hB.drew
          generalize wt.drew = we at *
          refine wpX_take 0 (.int .i64 0) rfl rfl (by kernel_rfl) (fun w1 h1 => by go_simp; exact ⟨rfl, Below.refl _ _⟩) ?_
          simp only [Act.put, List.setIfInBounds_toArray, List.set_cons_zero, List.set_cons_succ]
          refine wpX_take 1 (.int .i64 1) rfl rfl (by kernel_rfl) (fun w1 h1 => by go_simp; exact ⟨rfl, Below.refl _ _⟩) ?_
          simp only [Act.put, List.setIfInBounds_toArray, List.set_cons_zero, List.set_cons_succ]
          refine wpX_take 2 (.int .i64 1) rfl rfl (by kernel_rfl) (fun w1 h1 => by go_simp; exact ⟨rfl, Below.refl _ _⟩) ?_
          simp only [Act.put, List.setIfInBounds_toArray, List.set_cons_zero, List.set_cons_succ]
          refine wpX_take 3 (.int .i64 2) rfl rfl (by kernel_rfl) (fun w1 h1 => by go_simp; exact ⟨rfl, Below.refl _ _⟩) ?_
          simp only [Act.put, List.setIfInBounds_toArray, List.set_cons_zero, List.set_cons_succ]
          refine wpX_take 4 (.pointer (some ⟨w.heap.size, 2, none⟩)) rfl rfl (by kernel_rfl) (fun w1 h1 => by go_simp; exact ⟨rfl, Below.refl _ _⟩) ?_
          simp only [Act.put, List.setIfInBounds_toArray, List.set_cons_zero, List.set_cons_succ]
          refine wpX_take 5 (.int .i64 (f 2)) rfl rfl (by kernel_rfl) (fun w1 h1 => by have hc : w1.cell? ⟨w.heap.size, 2, none⟩ = some (.int .i64 (f 2)) := (p.below h1 p.lt).cellIs (qfn_get _ (by omega)); go_simp; exact ⟨rfl, Below.refl _ _⟩) ?_
          simp only [Act.put, List.setIfInBounds_toArray, List.set_cons_zero, List.set_cons_succ]
          refine wpX_take 6 (.int .i64 0) rfl rfl (by kernel_rfl) (fun w1 h1 => by go_simp; exact ⟨rfl, Below.refl _ _⟩) ?_
          simp only [Act.put, List.setIfInBounds_toArray, List.set_cons_zero, List.set_cons_succ]
          refine wpX_take 7 (.int .i64 2) rfl rfl (by kernel_rfl) (fun w1 h1 => by go_simp; exact ⟨rfl, Below.refl _ _⟩) ?_
          simp only [Act.put, List.setIfInBounds_toArray, List.set_cons_zero, List.set_cons_succ]
          refine wpX_take 8 (.int .i64 2) rfl rfl (by kernel_rfl) (fun w1 h1 => by go_simp; exact ⟨rfl, Below.refl _ _⟩) ?_
          simp only [Act.put, List.setIfInBounds_toArray, List.set_cons_zero, List.set_cons_succ]
          refine wpX_take 9 (.int .i64 3) rfl rfl (by kernel_rfl) (fun w1 h1 => by go_simp; exact ⟨rfl, Below.refl _ _⟩) ?_
          simp only [Act.put, List.setIfInBounds_toArray, List.set_cons_zero, List.set_cons_succ]
          refine wpX_take 10 (.pointer (some ⟨w.heap.size, 3, none⟩)) rfl rfl (by kernel_rfl) (fun w1 h1 => by go_simp; exact ⟨rfl, Below.refl _ _⟩) ?_
          simp only [Act.put, List.setIfInBounds_toArray, List.set_cons_zero, List.set_cons_succ]
          refine wpX_take 11 (.int .i64 (f 3)) rfl rfl (by kernel_rfl) (fun w1 h1 => by have hc : w1.cell? ⟨w.heap.size, 3, none⟩ = some (.int .i64 (f 3)) := (p.below h1 p.lt).cellIs (qfn_get _ (by omega)); go_simp; exact ⟨rfl, Below.refl _ _⟩) ?_
          simp only [Act.put, List.setIfInBounds_toArray, List.set_cons_zero, List.set_cons_succ]
          refine wpX_take 12 (.int .i64 (f 2)) rfl rfl (by kernel_rfl) (fun w1 h1 => by go_simp; exact ⟨rfl, Below.refl _ _⟩) ?_
          simp only [Act.put, List.setIfInBounds_toArray, List.set_cons_zero, List.set_cons_succ]
          refine wpX_tail (by kernel_rfl) (fun wu ht => ?_)
          simp only [List.drop_succ_cons, List.drop_zero]
          replace hB := hB.trans (ht.mono hB.size)
          replace p := p.below ht p.lt
          replace r := r.below ht r.lt
          replace m := m.below ht m.lt
          clear ht
          go_upto_region 16 with (fail)
          refine wp_region_Y 20 21 rfl (by kernel_rfl) ?_
          replace p := p.drew
          replace r := r.drew
          replace m := m.drew
          replace hB : Below w.heap.size w wu.drew := hB.drew
          generalize wu.drew = wo2 at *
          refine wpY_takeB 0 (.int .i64 0) rfl rfl (by kernel_rfl) (fun w1 => by go_simp; exact ⟨rfl, Below.refl _ _⟩) ?_
          simp only [Act.put, List.setIfInBounds_toArray, List.set_cons_zero, List.set_cons_succ]
          refine wpY_takeB 1 (.int .i64 0) rfl rfl (by kernel_rfl) (fun w1 => by go_simp; exact ⟨rfl, Below.refl _ _⟩) ?_
          simp only [Act.put, List.setIfInBounds_toArray, List.set_cons_zero, List.set_cons_succ]
          refine wpY_takeB 2 (.int .i64 (f 0)) rfl rfl (by kernel_rfl) (fun w1 => by go_simp; exact ⟨rfl, Below.refl _ _⟩) ?_
          simp only [Act.put, List.setIfInBounds_toArray, List.set_cons_zero, List.set_cons_succ]
          refine wpY_takeB 3 (.int .i64 (f 1)) rfl rfl (by kernel_rfl) (fun w1 => by go_simp; exact ⟨rfl, Below.refl _ _⟩) ?_
          simp only [Act.put, List.setIfInBounds_toArray, List.set_cons_zero, List.set_cons_succ]
          refine wpY_takeB 4 (.int .i64 (f 2)) rfl rfl (by kernel_rfl) (fun w1 => by go_simp; exact ⟨rfl, Below.refl _ _⟩) ?_
          simp only [Act.put, List.setIfInBounds_toArray, List.set_cons_zero, List.set_cons_succ]
          refine wpY_takeB 5 (.int .i64 (-f 2)) rfl rfl (by kernel_rfl) (fun w1 => by go_simp; exact ⟨by first | rfl | (rw [wn2]; done), Below.refl _ _⟩) ?_
          simp only [Act.put, List.setIfInBounds_toArray, List.set_cons_zero, List.set_cons_succ]
          refine wpY_takeB 6 (.int .i64 (f 3)) rfl rfl (by kernel_rfl) (fun w1 => by go_simp; exact ⟨rfl, Below.refl _ _⟩) ?_
          simp only [Act.put, List.setIfInBounds_toArray, List.set_cons_zero, List.set_cons_succ]
          refine wpY_takeB 7 (.int .i64 (-f 3)) rfl rfl (by kernel_rfl) (fun w1 => by go_simp; exact ⟨by first | rfl | (rw [wn3]; done), Below.refl _ _⟩) ?_
          simp only [Act.put, List.setIfInBounds_toArray, List.set_cons_zero, List.set_cons_succ]
          refine wpY_takeB 9 (.int .i64 (f 0)) rfl rfl (by kernel_rfl) (fun w1 => by go_simp; exact ⟨rfl, Below.refl _ _⟩) ?_
          simp only [Act.put, List.setIfInBounds_toArray, List.set_cons_zero, List.set_cons_succ]
          refine wpY_takeB 10 (.int .i64 (f 1)) rfl rfl (by kernel_rfl) (fun w1 => by go_simp; exact ⟨rfl, Below.refl _ _⟩) ?_
          simp only [Act.put, List.setIfInBounds_toArray, List.set_cons_zero, List.set_cons_succ]
          refine wpY_takeB 11 (.int .i64 (f 2)) rfl rfl (by kernel_rfl) (fun w1 => by go_simp; exact ⟨rfl, Below.refl _ _⟩) ?_
          simp only [Act.put, List.setIfInBounds_toArray, List.set_cons_zero, List.set_cons_succ]
          refine wpY_takeB 12 (.int .i64 (f 3)) rfl rfl (by kernel_rfl) (fun w1 => by go_simp; exact ⟨rfl, Below.refl _ _⟩) ?_
          simp only [Act.put, List.setIfInBounds_toArray, List.set_cons_zero, List.set_cons_succ]
          refine wpY_takeB 18 (.pointer (some ⟨mb, 0, none⟩)) rfl rfl (by kernel_rfl) (fun w1 => by go_simp; exact ⟨rfl, Below.refl _ _⟩) ?_
          simp only [Act.put, List.setIfInBounds_toArray, List.set_cons_zero, List.set_cons_succ]
          refine wpY_allocs 8 13 rfl rfl rfl rfl (by decide) (by kernel_rfl) (by kernel_rfl) (by kernel_rfl) (by decide) (alloc4 (n0 := f 0) (n1 := f 1) (n2 := -f 2) (n3 := -f 3) rfl rfl rfl rfl rfl Try.underlying116 (by kernel_rfl) (by kernel_rfl)) (alloc4 (n0 := f 0) (n1 := f 1) (n2 := f 2) (n3 := f 3) rfl rfl rfl rfl rfl Try.underlying116 (by kernel_rfl) (by kernel_rfl)) (fun u => alloc4 (n0 := f 0) (n1 := f 1) (n2 := -f 2) (n3 := -f 3) rfl rfl rfl rfl rfl Try.underlying116 (by kernel_rfl) (by kernel_rfl)) (fun u => alloc4 (n0 := f 0) (n1 := f 1) (n2 := f 2) (n3 := f 3) rfl rfl rfl rfl rfl Try.underlying116 (by kernel_rfl) (by kernel_rfl)) (fun b1 b2 w4 hm n1 n2 => ?_)
          simp only [Act.put, List.setIfInBounds_toArray, List.set_cons_zero, List.set_cons_succ]
          refine wpY_takeA 14 (.tuple #[.int .i64 (X 0), .int .i64 0]) rfl rfl (by kernel_rfl) (by kernel_rfl) (fun w1 h1 => ?_) ?_
          · go_simp
            refine (D0.out _ _ _ (n1.below h1 n1.lt) (n2.below h1 n2.lt)).mono ?_
            rintro e w5 ⟨rfl, h5⟩
            exact ⟨rfl, h5⟩
          simp only [Act.put, List.setIfInBounds_toArray, List.set_cons_zero, List.set_cons_succ]
          refine wpY_takeB 15 (.tuple #[.int .i64 (X 0), .int .i64 0]) rfl rfl (by kernel_rfl) (fun w1 => by go_simp; exact ⟨rfl, Below.refl _ _⟩) ?_
          simp only [Act.put, List.setIfInBounds_toArray, List.set_cons_zero, List.set_cons_succ]
          refine wpY_takeB 16 (.int .i64 (X 0)) rfl rfl (by kernel_rfl) (fun w1 => by go_simp; exact ⟨rfl, Below.refl _ _⟩) ?_
          simp only [Act.put, List.setIfInBounds_toArray, List.set_cons_zero, List.set_cons_succ]
          refine wpY_takeB 17 (.int .i64 0) rfl rfl (by kernel_rfl) (fun w1 => by go_simp; exact ⟨rfl, Below.refl _ _⟩) ?_
          simp only [Act.put, List.setIfInBounds_toArray, List.set_cons_zero, List.set_cons_succ]
          refine wpY_takeB 19 (.pointer (some ⟨mb, 0, none⟩)) rfl rfl (by kernel_rfl) (fun w1 => by go_simp; exact ⟨rfl, Below.refl _ _⟩) ?_
          simp only [Act.put, List.setIfInBounds_toArray, List.set_cons_zero, List.set_cons_succ]
          refine wpY_one rfl rfl (by kernel_rfl) (fun w6 h6 => ?_)
          replace hm := More.trans hm h6
          replace p := p.below hm p.lt
          replace r := r.below hm r.lt
          replace m := m.below hm m.lt
          replace hB := hB.trans (hm.mono hB.size)
          clear hm h6 n1 n2
          have fz : w6.frozen? ⟨mb, 0, none⟩ = false := m.free _
          have cz : w6.cell? ⟨mb, 0, none⟩ = some (.int .i64 (mpre X 0 0)) := m.cellIs (mfn_get _ (by omega))
          go_simp
          replace p := p.setOther (a := ⟨mb, 0, none⟩) (by simp; omega) (.int .i64 (X 0))
          replace r := r.setOther (a := ⟨mb, 0, none⟩) (by simp; omega) (.int .i64 (X 0))
          replace m : blk (w6.setCell ⟨mb, 0, none⟩ (.int .i64 (X 0))) mb (mfn (mpre X 1)) 105 := m.set' (mfn_set (by omega) (by simp [mpre]) (by intro j hj hne; exact mpre_step hne))
          replace hB := hB.setCell (p := ⟨mb, 0, none⟩) (by simp; omega) (.int .i64 (X 0))
          clear fz cz
          generalize w6.setCell ⟨mb, 0, none⟩ (.int .i64 (X 0)) = w7 at *
          refine wpY_end (by kernel_rfl) (fun w8 h8 => ?_)
          replace p := p.below h8 p.lt
          replace r := r.below h8 r.lt
          replace m := m.below h8 m.lt
          replace hB := hB.trans (h8.mono hB.size)
          clear h8
          go_wp2_with (fail)
          go_roundw
          case rel => exact ⟨1, by omega, by omega, rfl, p, r, m, hB⟩
          case measure => simp [intOf]
        · go_upto_region 11 with (fail)
          refine wp_region_X 9 (by kernel_rfl) (by kernel_rfl) ?_
          replace p := p.drew
          replace r := r.drew
          replace m := m.drew
          replace hB : Below w.heap.size w wr.drew := hB.drew
          generalize wr.drew = wd at *
          refine wpX_take 0 (.int .i64 0) rfl rfl (by kernel_rfl) (fun w1 h1 => by go_simp; exact ⟨rfl, Below.refl _ _⟩) ?_
          simp only [Act.put, List.setIfInBounds_toArray, List.set_cons_zero, List.set_cons_succ]
          refine wpX_take 1 (.int .i64 1) rfl rfl (by kernel_rfl) (fun w1 h1 => by go_simp; exact ⟨rfl, Below.refl _ _⟩) ?_
          simp only [Act.put, List.setIfInBounds_toArray, List.set_cons_zero, List.set_cons_succ]
          refine wpX_take 2 (.pointer (some ⟨w.heap.size, 1, none⟩)) rfl rfl (by kernel_rfl) (fun w1 h1 => by go_simp; exact ⟨rfl, Below.refl _ _⟩) ?_
          simp only [Act.put, List.setIfInBounds_toArray, List.set_cons_zero, List.set_cons_succ]
          refine wpX_take 3 (.int .i64 (f 1)) rfl rfl (by kernel_rfl) (fun w1 h1 => by have hc : w1.cell? ⟨w.heap.size, 1, none⟩ = some (.int .i64 (f 1)) := (p.below h1 p.lt).cellIs (qfn_get _ (by omega)); go_simp; exact ⟨rfl, Below.refl _ _⟩) ?_
          simp only [Act.put, List.setIfInBounds_toArray, List.set_cons_zero, List.set_cons_succ]
          refine wpX_take 4 (.int .i64 1) rfl rfl (by kernel_rfl) (fun w1 h1 => by go_simp; exact ⟨rfl, Below.refl _ _⟩) ?_
          simp only [Act.put, List.setIfInBounds_toArray, List.set_cons_zero, List.set_cons_succ]
          refine wpX_take 5 (.int .i64 2) rfl rfl (by kernel_rfl) (fun w1 h1 => by go_simp; exact ⟨rfl, Below.refl _ _⟩) ?_
          simp only [Act.put, List.setIfInBounds_toArray, List.set_cons_zero, List.set_cons_succ]
          refine wpX_take 6 (.pointer (some ⟨w.heap.size, 2, none⟩)) rfl rfl (by kernel_rfl) (fun w1 h1 => by go_simp; exact ⟨rfl, Below.refl _ _⟩) ?_
          simp only [Act.put, List.setIfInBounds_toArray, List.set_cons_zero, List.set_cons_succ]
          refine wpX_take 7 (.int .i64 (f 2)) rfl rfl (by kernel_rfl) (fun w1 h1 => by have hc : w1.cell? ⟨w.heap.size, 2, none⟩ = some (.int .i64 (f 2)) := (p.below h1 p.lt).cellIs (qfn_get _ (by omega)); go_simp; exact ⟨rfl, Below.refl _ _⟩) ?_
          simp only [Act.put, List.setIfInBounds_toArray, List.set_cons_zero, List.set_cons_succ]
          refine wpX_take 8 (.int .i64 (f 1)) rfl rfl (by kernel_rfl) (fun w1 h1 => by go_simp; exact ⟨rfl, Below.refl _ _⟩) ?_
          simp only [Act.put, List.setIfInBounds_toArray, List.set_cons_zero, List.set_cons_succ]
          refine wpX_tail (by kernel_rfl) (fun wt ht => ?_)
          simp only [List.drop_succ_cons, List.drop_zero]
          replace hB := hB.trans (ht.mono hB.size)
          replace p := p.below ht p.lt
          replace r := r.below ht r.lt
          replace m := m.below ht m.lt
          clear ht
          go_upto_region 18 with (fail)
          refine wp_region_Y 21 22 rfl (by kernel_rfl) ?_
          replace p := p.drew
          replace r := r.drew
          replace m := m.drew
          replace hB : Below w.heap.size w wt.drew := hB.drew
          generalize wt.drew = wo2 at *
          refine wpY_takeB 0 (.int .i64 0) rfl rfl (by kernel_rfl) (fun w1 => by go_simp; exact ⟨rfl, Below.refl _ _⟩) ?_
          simp only [Act.put, List.setIfInBounds_toArray, List.set_cons_zero, List.set_cons_succ]
          refine wpY_takeB 1 (.int .i64 1) rfl rfl (by kernel_rfl) (fun w1 => by go_simp; exact ⟨rfl, Below.refl _ _⟩) ?_
          simp only [Act.put, List.setIfInBounds_toArray, List.set_cons_zero, List.set_cons_succ]
          refine wpY_takeB 2 (.int .i64 (f 1)) rfl rfl (by kernel_rfl) (fun w1 => by go_simp; exact ⟨rfl, Below.refl _ _⟩) ?_
          simp only [Act.put, List.setIfInBounds_toArray, List.set_cons_zero, List.set_cons_succ]
          refine wpY_takeB 3 (.int .i64 (2 * f 1)) rfl rfl (by kernel_rfl) (fun w1 => by go_simp; exact ⟨by first | rfl | (rw [wt1]; done), Below.refl _ _⟩) ?_
          simp only [Act.put, List.setIfInBounds_toArray, List.set_cons_zero, List.set_cons_succ]
          refine wpY_takeB 4 (.int .i64 (f 0)) rfl rfl (by kernel_rfl) (fun w1 => by go_simp; exact ⟨rfl, Below.refl _ _⟩) ?_
          simp only [Act.put, List.setIfInBounds_toArray, List.set_cons_zero, List.set_cons_succ]
          refine wpY_takeB 5 (.int .i64 (-2 * f 0)) rfl rfl (by kernel_rfl) (fun w1 => by go_simp; exact ⟨by first | rfl | (rw [wm0]; done), Below.refl _ _⟩) ?_
          simp only [Act.put, List.setIfInBounds_toArray, List.set_cons_zero, List.set_cons_succ]
          refine wpY_takeB 7 (.int .i64 (f 2)) rfl rfl (by kernel_rfl) (fun w1 => by go_simp; exact ⟨rfl, Below.refl _ _⟩) ?_
          simp only [Act.put, List.setIfInBounds_toArray, List.set_cons_zero, List.set_cons_succ]
          refine wpY_takeB 8 (.int .i64 0) rfl rfl (by kernel_rfl) (fun w1 => by go_simp; exact ⟨rfl, Below.refl _ _⟩) ?_
          simp only [Act.put, List.setIfInBounds_toArray, List.set_cons_zero, List.set_cons_succ]
          refine wpY_takeB 9 (.int .i64 2) rfl rfl (by kernel_rfl) (fun w1 => by go_simp; exact ⟨rfl, Below.refl _ _⟩) ?_
          simp only [Act.put, List.setIfInBounds_toArray, List.set_cons_zero, List.set_cons_succ]
          refine wpY_takeB 10 (.int .i64 2) rfl rfl (by kernel_rfl) (fun w1 => by go_simp; exact ⟨rfl, Below.refl _ _⟩) ?_
          simp only [Act.put, List.setIfInBounds_toArray, List.set_cons_zero, List.set_cons_succ]
          refine wpY_takeB 11 (.int .i64 3) rfl rfl (by kernel_rfl) (fun w1 => by go_simp; exact ⟨rfl, Below.refl _ _⟩) ?_
          simp only [Act.put, List.setIfInBounds_toArray, List.set_cons_zero, List.set_cons_succ]
          refine wpY_takeB 12 (.pointer (some ⟨w.heap.size, 3, none⟩)) rfl rfl (by kernel_rfl) (fun w1 => by go_simp; exact ⟨rfl, Below.refl _ _⟩) ?_
          simp only [Act.put, List.setIfInBounds_toArray, List.set_cons_zero, List.set_cons_succ]
          refine wpY_takeA 13 (.int .i64 (f 3)) rfl rfl (by kernel_rfl) (by kernel_rfl) (fun w1 h1 => by have hc : w1.cell? ⟨w.heap.size, 3, none⟩ = some (.int .i64 (f 3)) := (p.below h1 p.lt).cellIs (qfn_get _ (by omega)); go_simp; exact ⟨rfl, Below.refl _ _⟩) ?_
          simp only [Act.put, List.setIfInBounds_toArray, List.set_cons_zero, List.set_cons_succ]
          refine wpY_takeB 19 (.pointer (some ⟨mb, 0, none⟩)) rfl rfl (by kernel_rfl) (fun w1 => by go_simp; exact ⟨rfl, Below.refl _ _⟩) ?_
          simp only [Act.put, List.setIfInBounds_toArray, List.set_cons_zero, List.set_cons_succ]
          refine wpY_allocs 6 14 rfl rfl rfl rfl (by decide) (by kernel_rfl) (by kernel_rfl) (by kernel_rfl) (by decide) (alloc2 (n0 := 2 * f 1) (n1 := -2 * f 0) rfl rfl rfl Try.underlying116 (by kernel_rfl) (by kernel_rfl)) (alloc2 (n0 := f 2) (n1 := f 3) rfl rfl rfl Try.underlying116 (by kernel_rfl) (by kernel_rfl)) (fun u => alloc2 (n0 := 2 * f 1) (n1 := -2 * f 0) rfl rfl rfl Try.underlying116 (by kernel_rfl) (by kernel_rfl)) (fun u => alloc2 (n0 := f 2) (n1 := f 3) rfl rfl rfl Try.underlying116 (by kernel_rfl) (by kernel_rfl)) (fun b1 b2 w4 hm n1 n2 => ?_)
          simp only [Act.put, List.setIfInBounds_toArray, List.set_cons_zero, List.set_cons_succ]
          refine wpY_takeA 15 (.tuple #[.int .i64 (X 1), .int .i64 0]) rfl rfl (by kernel_rfl) (by kernel_rfl) (fun w1 h1 => ?_) ?_
          · go_simp
            refine (D1.out _ _ _ (n1.below h1 n1.lt) (n2.below h1 n2.lt)).mono ?_
            rintro e w5 ⟨rfl, h5⟩
            exact ⟨rfl, h5⟩
          simp only [Act.put, List.setIfInBounds_toArray, List.set_cons_zero, List.set_cons_succ]
          refine wpY_takeB 16 (.tuple #[.int .i64 (X 1), .int .i64 0]) rfl rfl (by kernel_rfl) (fun w1 => by go_simp; exact ⟨rfl, Below.refl _ _⟩) ?_
          simp only [Act.put, List.setIfInBounds_toArray, List.set_cons_zero, List.set_cons_succ]
          refine wpY_takeB 17 (.int .i64 (X 1)) rfl rfl (by kernel_rfl) (fun w1 => by go_simp; exact ⟨rfl, Below.refl _ _⟩) ?_
          simp only [Act.put, List.setIfInBounds_toArray, List.set_cons_zero, List.set_cons_succ]
          refine wpY_takeB 18 (.int .i64 0) rfl rfl (by kernel_rfl) (fun w1 => by go_simp; exact ⟨rfl, Below.refl _ _⟩) ?_
          simp only [Act.put, List.setIfInBounds_toArray, List.set_cons_zero, List.set_cons_succ]
          refine wpY_takeB 20 (.pointer (some ⟨mb, 1, none⟩)) rfl rfl (by kernel_rfl) (fun w1 => by go_simp; exact ⟨rfl, Below.refl _ _⟩) ?_
          simp only [Act.put, List.setIfInBounds_toArray, List.set_cons_zero, List.set_cons_succ]
          refine wpY_one rfl rfl (by kernel_rfl) (fun w6 h6 => ?_)
          replace hm := More.trans hm h6
          replace p := p.below hm p.lt
          replace r := r.below hm r.lt
          replace m := m.below hm m.lt
          replace hB := hB.trans (hm.mono hB.size)
          clear hm h6 n1 n2
          have fz : w6.frozen? ⟨mb, 1, none⟩ = false := m.free _
          have cz : w6.cell? ⟨mb, 1, none⟩ = some (.int .i64 (mpre X 1 1)) := m.cellIs (mfn_get _ (by omega))
          go_simp
          replace p := p.setOther (a := ⟨mb, 1, none⟩) (by simp; omega) (.int .i64 (X 1))
          replace r := r.setOther (a := ⟨mb, 1, none⟩) (by simp; omega) (.int .i64 (X 1))
          replace m : blk (w6.setCell ⟨mb, 1, none⟩ (.int .i64 (X 1))) mb (mfn (mpre X 2)) 105 := m.set' (mfn_set (by omega) (by simp [mpre]) (by intro j hj hne; exact mpre_step hne))
          replace hB := hB.setCell (p := ⟨mb, 1, none⟩) (by simp; omega) (.int .i64 (X 1))
          clear fz cz
          generalize w6.setCell ⟨mb, 1, none⟩ (.int .i64 (X 1)) = w7 at *
          refine wpY_end (by kernel_rfl) (fun w8 h8 => ?_)
          replace p := p.below h8 p.lt
          replace r := r.below h8 r.lt
          replace m := m.below h8 m.lt
          replace hB := hB.trans (h8.mono hB.size)
          clear h8
          go_wp2_with (fail)
          go_roundw
          case rel => exact ⟨2, by omega, by omega, rfl, p, r, m, hB⟩
          case measure => simp [intOf]
        · go_upto_region 11 with (fail)
          refine wp_region_X 9 (by kernel_rfl) (by kernel_rfl) ?_
          replace p := p.drew
          replace r := r.drew
          replace m := m.drew
          replace hB : Below w.heap.size w wr.drew := hB.drew
          generalize wr.drew = wd at *
          refine wpX_take 0 (.int .i64 0) rfl rfl (by kernel_rfl) (fun w1 h1 => by go_simp; exact ⟨rfl, Below.refl _ _⟩) ?_
          simp only [Act.put, List.setIfInBounds_toArray, List.set_cons_zero, List.set_cons_succ]
          refine wpX_take 1 (.int .i64 1) rfl rfl (by kernel_rfl) (fun w1 h1 => by go_simp; exact ⟨rfl, Below.refl _ _⟩) ?_
          simp only [Act.put, List.setIfInBounds_toArray, List.set_cons_zero, List.set_cons_succ]
          refine wpX_take 2 (.pointer (some ⟨w.heap.size, 1, none⟩)) rfl rfl (by kernel_rfl) (fun w1 h1 => by go_simp; exact ⟨rfl, Below.refl _ _⟩) ?_
          simp only [Act.put, List.setIfInBounds_toArray, List.set_cons_zero, List.set_cons_succ]
          refine wpX_take 3 (.int .i64 (f 1)) rfl rfl (by kernel_rfl) (fun w1 h1 => by have hc : w1.cell? ⟨w.heap.size, 1, none⟩ = some (.int .i64 (f 1)) := (p.below h1 p.lt).cellIs (qfn_get _ (by omega)); go_simp; exact ⟨rfl, Below.refl _ _⟩) ?_
          simp only [Act.put, List.setIfInBounds_toArray, List.set_cons_zero, List.set_cons_succ]
          refine wpX_take 4 (.int .i64 2) rfl rfl (by kernel_rfl) (fun w1 h1 => by go_simp; exact ⟨rfl, Below.refl _ _⟩) ?_
          simp only [Act.put, List.setIfInBounds_toArray, List.set_cons_zero, List.set_cons_succ]
          refine wpX_take 5 (.int .i64 3) rfl rfl (by kernel_rfl) (fun w1 h1 => by go_simp; exact ⟨rfl, Below.refl _ _⟩) ?_
          simp only [Act.put, List.setIfInBounds_toArray, List.set_cons_zero, List.set_cons_succ]
          refine wpX_take 6 (.pointer (some ⟨w.heap.size, 3, none⟩)) rfl rfl (by kernel_rfl) (fun w1 h1 => by go_simp; exact ⟨rfl, Below.refl _ _⟩) ?_
          simp only [Act.put, List.setIfInBounds_toArray, List.set_cons_zero, List.set_cons_succ]
          refine wpX_take 7 (.int .i64 (f 3)) rfl rfl (by kernel_rfl) (fun w1 h1 => by have hc : w1.cell? ⟨w.heap.size, 3, none⟩ = some (.int .i64 (f 3)) := (p.below h1 p.lt).cellIs (qfn_get _ (by omega)); go_simp; exact ⟨rfl, Below.refl _ _⟩) ?_
          simp only [Act.put, List.setIfInBounds_toArray, List.set_cons_zero, List.set_cons_succ]
          refine wpX_take 8 (.int .i64 (f 1)) rfl rfl (by kernel_rfl) (fun w1 h1 => by go_simp; exact ⟨rfl, Below.refl _ _⟩) ?_
          simp only [Act.put, List.setIfInBounds_toArray, List.set_cons_zero, List.set_cons_succ]
          refine wpX_tail (by kernel_rfl) (fun wt ht => ?_)
          simp only [List.drop_succ_cons, List.drop_zero]
          replace hB := hB.trans (ht.mono hB.size)
          replace p := p.below ht p.lt
          replace r := r.below ht r.lt
          replace m := m.below ht m.lt
          clear ht
          go_upto_region 13 with (fail)
          refine wp_region_Y 21 22 rfl (by kernel_rfl) ?_
          replace p := p.drew
          replace r := r.drew
          replace m := m.drew
          replace hB : Below w.heap.size w wt.drew := hB.drew
          generalize wt.drew = wo2 at *
          refine wpY_takeB 0 (.int .i64 0) rfl rfl (by kernel_rfl) (fun w1 => by go_simp; exact ⟨rfl, Below.refl _ _⟩) ?_
          simp only [Act.put, List.setIfInBounds_toArray, List.set_cons_zero, List.set_cons_succ]
          refine wpY_takeB 1 (.int .i64 2) rfl rfl (by kernel_rfl) (fun w1 => by go_simp; exact ⟨rfl, Below.refl _ _⟩) ?_
          simp only [Act.put, List.setIfInBounds_toArray, List.set_cons_zero, List.set_cons_succ]
          refine wpY_takeB 2 (.int .i64 (f 1)) rfl rfl (by kernel_rfl) (fun w1 => by go_simp; exact ⟨rfl, Below.refl _ _⟩) ?_
          simp only [Act.put, List.setIfInBounds_toArray, List.set_cons_zero, List.set_cons_succ]
          refine wpY_takeB 3 (.int .i64 (2 * f 1)) rfl rfl (by kernel_rfl) (fun w1 => by go_simp; exact ⟨by first | rfl | (rw [wt1]; done), Below.refl _ _⟩) ?_
          simp only [Act.put, List.setIfInBounds_toArray, List.set_cons_zero, List.set_cons_succ]
          refine wpY_takeB 4 (.int .i64 (f 0)) rfl rfl (by kernel_rfl) (fun w1 => by go_simp; exact ⟨rfl, Below.refl _ _⟩) ?_
          simp only [Act.put, List.setIfInBounds_toArray, List.set_cons_zero, List.set_cons_succ]
          refine wpY_takeB 5 (.int .i64 (2 * f 0)) rfl rfl (by kernel_rfl) (fun w1 => by go_simp; exact ⟨by first | rfl | (rw [wt0]; done), Below.refl _ _⟩) ?_
          simp only [Act.put, List.setIfInBounds_toArray, List.set_cons_zero, List.set_cons_succ]
          refine wpY_takeB 7 (.int .i64 (f 3)) rfl rfl (by kernel_rfl) (fun w1 => by go_simp; exact ⟨rfl, Below.refl _ _⟩) ?_
          simp only [Act.put, List.setIfInBounds_toArray, List.set_cons_zero, List.set_cons_succ]
          refine wpY_takeB 8 (.int .i64 0) rfl rfl (by kernel_rfl) (fun w1 => by go_simp; exact ⟨rfl, Below.refl _ _⟩) ?_
          simp only [Act.put, List.setIfInBounds_toArray, List.set_cons_zero, List.set_cons_succ]
          refine wpY_takeB 9 (.int .i64 1) rfl rfl (by kernel_rfl) (fun w1 => by go_simp; exact ⟨rfl, Below.refl _ _⟩) ?_
          simp only [Act.put, List.setIfInBounds_toArray, List.set_cons_zero, List.set_cons_succ]
          refine wpY_takeB 10 (.int .i64 1) rfl rfl (by kernel_rfl) (fun w1 => by go_simp; exact ⟨rfl, Below.refl _ _⟩) ?_
          simp only [Act.put, List.setIfInBounds_toArray, List.set_cons_zero, List.set_cons_succ]
          refine wpY_takeB 11 (.int .i64 2) rfl rfl (by kernel_rfl) (fun w1 => by go_simp; exact ⟨rfl, Below.refl _ _⟩) ?_
          simp only [Act.put, List.setIfInBounds_toArray, List.set_cons_zero, List.set_cons_succ]
          refine wpY_takeB 12 (.pointer (some ⟨w.heap.size, 2, none⟩)) rfl rfl (by kernel_rfl) (fun w1 => by go_simp; exact ⟨rfl, Below.refl _ _⟩) ?_
          simp only [Act.put, List.setIfInBounds_toArray, List.set_cons_zero, List.set_cons_succ]
          refine wpY_takeA 13 (.int .i64 (f 2)) rfl rfl (by kernel_rfl) (by kernel_rfl) (fun w1 h1 => by have hc : w1.cell? ⟨w.heap.size, 2, none⟩ = some (.int .i64 (f 2)) := (p.below h1 p.lt).cellIs (qfn_get _ (by omega)); go_simp; exact ⟨rfl, Below.refl _ _⟩) ?_
          simp only [Act.put, List.setIfInBounds_toArray, List.set_cons_zero, List.set_cons_succ]
          refine wpY_takeB 19 (.pointer (some ⟨mb, 0, none⟩)) rfl rfl (by kernel_rfl) (fun w1 => by go_simp; exact ⟨rfl, Below.refl _ _⟩) ?_
          simp only [Act.put, List.setIfInBounds_toArray, List.set_cons_zero, List.set_cons_succ]
          refine wpY_allocs 6 14 rfl rfl rfl rfl (by decide) (by kernel_rfl) (by kernel_rfl) (by kernel_rfl) (by decide) (alloc2 (n0 := 2 * f 1) (n1 := 2 * f 0) rfl rfl rfl Try.underlying116 (by kernel_rfl) (by kernel_rfl)) (alloc2 (n0 := f 3) (n1 := f 2) rfl rfl rfl Try.underlying116 (by kernel_rfl) (by kernel_rfl)) (fun u => alloc2 (n0 := 2 * f 1) (n1 := 2 * f 0) rfl rfl rfl Try.underlying116 (by kernel_rfl) (by kernel_rfl)) (fun u => alloc2 (n0 := f 3) (n1 := f 2) rfl rfl rfl Try.underlying116 (by kernel_rfl) (by kernel_rfl)) (fun b1 b2 w4 hm n1 n2 => ?_)
          simp only [Act.put, List.setIfInBounds_toArray, List.set_cons_zero, List.set_cons_succ]
          refine wpY_takeA 15 (.tuple #[.int .i64 (X 2), .int .i64 0]) rfl rfl (by kernel_rfl) (by kernel_rfl) (fun w1 h1 => ?_) ?_
          · go_simp
            refine (D2.out _ _ _ (n1.below h1 n1.lt) (n2.below h1 n2.lt)).mono ?_
            rintro e w5 ⟨rfl, h5⟩
            exact ⟨rfl, h5⟩
          simp only [Act.put, List.setIfInBounds_toArray, List.set_cons_zero, List.set_cons_succ]
          refine wpY_takeB 16 (.tuple #[.int .i64 (X 2), .int .i64 0]) rfl rfl (by kernel_rfl) (fun w1 => by go_simp; exact ⟨rfl, Below.refl _ _⟩) ?_
          simp only [Act.put, List.setIfInBounds_toArray, List.set_cons_zero, List.set_cons_succ]
          refine wpY_takeB 17 (.int .i64 (X 2)) rfl rfl (by kernel_rfl) (fun w1 => by go_simp; exact ⟨rfl, Below.refl _ _⟩) ?_
          simp only [Act.put, List.setIfInBounds_toArray, List.set_cons_zero, List.set_cons_succ]
          refine wpY_takeB 18 (.int .i64 0) rfl rfl (by kernel_rfl) (fun w1 => by go_simp; exact ⟨rfl, Below.refl _ _⟩) ?_
          simp only [Act.put, List.setIfInBounds_toArray, List.set_cons_zero, List.set_cons_succ]
          refine wpY_takeB 20 (.pointer (some ⟨mb, 2, none⟩)) rfl rfl (by kernel_rfl) (fun w1 => by go_simp; exact ⟨rfl, Below.refl _ _⟩) ?_
          simp only [Act.put, List.setIfInBounds_toArray, List.set_cons_zero, List.set_cons_succ]
          refine wpY_one rfl rfl (by kernel_rfl) (fun w6 h6 => ?_)
          replace hm := More.trans hm h6
          replace p := p.below hm p.lt
          replace r := r.below hm r.lt
          replace m := m.below hm m.lt
          replace hB := hB.trans (hm.mono hB.size)
          clear hm h6 n1 n2
          have fz : w6.frozen? ⟨mb, 2, none⟩ = false := m.free _
          have cz : w6.cell? ⟨mb, 2, none⟩ = some (.int .i64 (mpre X 2 2)) := m.cellIs (mfn_get _ (by omega))
          go_simp
          replace p := p.setOther (a := ⟨mb, 2, none⟩) (by simp; omega) (.int .i64 (X 2))
          replace r := r.setOther (a := ⟨mb, 2, none⟩) (by simp; omega) (.int .i64 (X 2))
          replace m : blk (w6.setCell ⟨mb, 2, none⟩ (.int .i64 (X 2))) mb (mfn (mpre X 3)) 105 := m.set' (mfn_set (by omega) (by simp [mpre]) (by intro j hj hne; exact mpre_step hne))
          replace hB := hB.setCell (p := ⟨mb, 2, none⟩) (by simp; omega) (.int .i64 (X 2))
          clear fz cz
          generalize w6.setCell ⟨mb, 2, none⟩ (.int .i64 (X 2)) = w7 at *
          refine wpY_end (by kernel_rfl) (fun w8 h8 => ?_)
          replace p := p.below h8 p.lt
          replace r := r.below h8 r.lt
          replace m := m.below h8 m.lt
          replace hB := hB.trans (h8.mono hB.size)
          clear h8
          go_wp2_with (fail)
          go_roundw
          case rel => exact ⟨3, by omega, by omega, rfl, p, r, m, hB⟩
          case measure => simp [intOf]
        · go_wp2_with (fail)
          go_roundw
          case rel => exact ⟨1, by omega, by omega, rfl, p, r, m, hB⟩
          case measure => simp [intOf]
    · go_wp2_with (fail)
      obtain ⟨wo, rfl⟩ : ∃ wo : World, wo = wr := ⟨_, rfl⟩
      go_loopw [21] (fun kv wi => ∃ k : Int, 0 ≤ k ∧ k ≤ 3 ∧ kv = .int .i64 k ∧ blk wi w.heap.size (qfn f) 23 ∧ blk wi (w.heap.size + 1) (mfn fun _ => 0) 105 ∧ blk wi mb (mfn (mpre X (3 + k.toNat))) 105 ∧ Below w.heap.size w wi) (fun kv _ => 3 - (intOf kv).toNat)
      case atStart => exact ⟨0, by omega, by omega, rfl, p, r, m, hB⟩
      case round =>
        clear p r m hB
        obtain ⟨k, hk0, hk3, rfl, p, r, m, hB⟩ := hrel
        have hcase : k = 0 ∨ k = 1 ∨ k = 2 ∨ k = 3 := by omega
        rcases hcase with rfl | rfl | rfl | rfl
        · go_upto_region 11 with (fail)
          refine wp_region_X 9 (by kernel_rfl) (by kernel_rfl) ?_
          replace p := p.drew
          replace r := r.drew
          replace m := m.drew
          replace hB : Below w.heap.size w wr.drew := hB.drew
          generalize wr.drew = wd at *
          refine wpX_take 0 (.int .i64 1) rfl rfl (by kernel_rfl) (fun w1 h1 => by go_simp; exact ⟨rfl, Below.refl _ _⟩) ?_
          simp only [Act.put, List.setIfInBounds_toArray, List.set_cons_zero, List.set_cons_succ]
          refine wpX_take 1 (.int .i64 2) rfl rfl (by kernel_rfl) (fun w1 h1 => by go_simp; exact ⟨rfl, Below.refl _ _⟩) ?_
          simp only [Act.put, List.setIfInBounds_toArray, List.set_cons_zero, List.set_cons_succ]
          refine wpX_take 2 (.pointer (some ⟨w.heap.size, 2, none⟩)) rfl rfl (by kernel_rfl) (fun w1 h1 => by go_simp; exact ⟨rfl, Below.refl _ _⟩) ?_
          simp only [Act.put, List.setIfInBounds_toArray, List.set_cons_zero, List.set_cons_succ]
          refine wpX_take 3 (.int .i64 (f 2)) rfl rfl (by kernel_rfl) (fun w1 h1 => by have hc : w1.cell? ⟨w.heap.size, 2, none⟩ = some (.int .i64 (f 2)) := (p.below h1 p.lt).cellIs (qfn_get _ (by omega)); go_simp; exact ⟨rfl, Below.refl _ _⟩) ?_
          simp only [Act.put, List.setIfInBounds_toArray, List.set_cons_zero, List.set_cons_succ]
          refine wpX_take 4 (.int .i64 0) rfl rfl (by kernel_rfl) (fun w1 h1 => by go_simp; exact ⟨rfl, Below.refl _ _⟩) ?_
          simp only [Act.put, List.setIfInBounds_toArray, List.set_cons_zero, List.set_cons_succ]
          refine wpX_take 5 (.int .i64 1) rfl rfl (by kernel_rfl) (fun w1 h1 => by go_simp; exact ⟨rfl, Below.refl _ _⟩) ?_
          simp only [Act.put, List.setIfInBounds_toArray, List.set_cons_zero, List.set_cons_succ]
          refine wpX_take 6 (.pointer (some ⟨w.heap.size, 1, none⟩)) rfl rfl (by kernel_rfl) (fun w1 h1 => by go_simp; exact ⟨rfl, Below.refl _ _⟩) ?_
          simp only [Act.put, List.setIfInBounds_toArray, List.set_cons_zero, List.set_cons_succ]
          refine wpX_take 7 (.int .i64 (f 1)) rfl rfl (by kernel_rfl) (fun w1 h1 => by have hc : w1.cell? ⟨w.heap.size, 1, none⟩ = some (.int .i64 (f 1)) := (p.below h1 p.lt).cellIs (qfn_get _ (by omega)); go_simp; exact ⟨rfl, Below.refl _ _⟩) ?_
          simp only [Act.put, List.setIfInBounds_toArray, List.set_cons_zero, List.set_cons_succ]
          refine wpX_take 8 (.int .i64 (f 2)) rfl rfl (by kernel_rfl) (fun w1 h1 => by go_simp; exact ⟨rfl, Below.refl _ _⟩) ?_
          simp only [Act.put, List.setIfInBounds_toArray, List.set_cons_zero, List.set_cons_succ]
          refine wpX_tail (by kernel_rfl) (fun wt ht => ?_)
          simp only [List.drop_succ_cons, List.drop_zero]
          replace hB := hB.trans (ht.mono hB.size)
          replace p := p.below ht p.lt
          replace r := r.below ht r.lt
          replace m := m.below ht m.lt
          clear ht
          go_upto_region 13 with (fail)
          refine wp_region_Y 21 22 rfl (by kernel_rfl) ?_
          replace p := p.drew
          replace r := r.drew
          replace m := m.drew
          replace hB : Below w.heap.size w wt.drew := hB.drew
          generalize wt.drew = wo2 at *
          refine wpY_takeB 0 (.int .i64 1) rfl rfl (by kernel_rfl) (fun w1 => by go_simp; exact ⟨rfl, Below.refl _ _⟩) ?_
          simp only [Act.put, List.setIfInBounds_toArray, List.set_cons_zero, List.set_cons_succ]
          refine wpY_takeB 1 (.int .i64 0) rfl rfl (by kernel_rfl) (fun w1 => by go_simp; exact ⟨rfl, Below.refl _ _⟩) ?_
          simp only [Act.put, List.setIfInBounds_toArray, List.set_cons_zero, List.set_cons_succ]
          refine wpY_takeB 2 (.int .i64 (f 2)) rfl rfl (by kernel_rfl) (fun w1 => by go_simp; exact ⟨rfl, Below.refl _ _⟩) ?_
          simp only [Act.put, List.setIfInBounds_toArray, List.set_cons_zero, List.set_cons_succ]
          refine wpY_takeB 3 (.int .i64 (2 * f 2)) rfl rfl (by kernel_rfl) (fun w1 => by go_simp; exact ⟨by first | rfl | (rw [wt2]; done), Below.refl _ _⟩) ?_
          simp only [Act.put, List.setIfInBounds_toArray, List.set_cons_zero, List.set_cons_succ]
          refine wpY_takeB 4 (.int .i64 (f 0)) rfl rfl (by kernel_rfl) (fun w1 => by go_simp; exact ⟨rfl, Below.refl _ _⟩) ?_
          simp only [Act.put, List.setIfInBounds_toArray, List.set_cons_zero, List.set_cons_succ]
          refine wpY_takeB 5 (.int .i64 (2 * f 0)) rfl rfl (by kernel_rfl) (fun w1 => by go_simp; exact ⟨by first | rfl | (rw [wt0]; done), Below.refl _ _⟩) ?_
          simp only [Act.put, List.setIfInBounds_toArray, List.set_cons_zero, List.set_cons_succ]
          refine wpY_takeB 7 (.int .i64 (f 1)) rfl rfl (by kernel_rfl) (fun w1 => by go_simp; exact ⟨rfl, Below.refl _ _⟩) ?_
          simp only [Act.put, List.setIfInBounds_toArray, List.set_cons_zero, List.set_cons_succ]
          refine wpY_takeB 8 (.int .i64 1) rfl rfl (by kernel_rfl) (fun w1 => by go_simp; exact ⟨rfl, Below.refl _ _⟩) ?_
          simp only [Act.put, List.setIfInBounds_toArray, List.set_cons_zero, List.set_cons_succ]
          refine wpY_takeB 9 (.int .i64 2) rfl rfl (by kernel_rfl) (fun w1 => by go_simp; exact ⟨rfl, Below.refl _ _⟩) ?_
          simp only [Act.put, List.setIfInBounds_toArray, List.set_cons_zero, List.set_cons_succ]
          refine wpY_takeB 10 (.int .i64 2) rfl rfl (by kernel_rfl) (fun w1 => by go_simp; exact ⟨rfl, Below.refl _ _⟩) ?_
          simp only [Act.put, List.setIfInBounds_toArray, List.set_cons_zero, List.set_cons_succ]
          refine wpY_takeB 11 (.int .i64 3) rfl rfl (by kernel_rfl) (fun w1 => by go_simp; exact ⟨rfl, Below.refl _ _⟩) ?_
          simp only [Act.put, List.setIfInBounds_toArray, List.set_cons_zero, List.set_cons_succ]
          refine wpY_takeB 12 (.pointer (some ⟨w.heap.size, 3, none⟩)) rfl rfl (by kernel_rfl) (fun w1 => by go_simp; exact ⟨rfl, Below.refl _ _⟩) ?_
          simp only [Act.put, List.setIfInBounds_toArray, List.set_cons_zero, List.set_cons_succ]
          refine wpY_takeA 13 (.int .i64 (f 3)) rfl rfl (by kernel_rfl) (by kernel_rfl) (fun w1 h1 => by have hc : w1.cell? ⟨w.heap.size, 3, none⟩ = some (.int .i64 (f 3)) := (p.below h1 p.lt).cellIs (qfn_get _ (by omega)); go_simp; exact ⟨rfl, Below.refl _ _⟩) ?_
          simp only [Act.put, List.setIfInBounds_toArray, List.set_cons_zero, List.set_cons_succ]
          refine wpY_takeB 19 (.pointer (some ⟨mb, 3, none⟩)) rfl rfl (by kernel_rfl) (fun w1 => by go_simp; exact ⟨rfl, Below.refl _ _⟩) ?_
          simp only [Act.put, List.setIfInBounds_toArray, List.set_cons_zero, List.set_cons_succ]
          refine wpY_allocs 6 14 rfl rfl rfl rfl (by decide) (by kernel_rfl) (by kernel_rfl) (by kernel_rfl) (by decide) (alloc2 (n0 := 2 * f 2) (n1 := 2 * f 0) rfl rfl rfl Try.underlying116 (by kernel_rfl) (by kernel_rfl)) (alloc2 (n0 := f 1) (n1 := f 3) rfl rfl rfl Try.underlying116 (by kernel_rfl) (by kernel_rfl)) (fun u => alloc2 (n0 := 2 * f 2) (n1 := 2 * f 0) rfl rfl rfl Try.underlying116 (by kernel_rfl) (by kernel_rfl)) (fun u => alloc2 (n0 := f 1) (n1 := f 3) rfl rfl rfl Try.underlying116 (by kernel_rfl) (by kernel_rfl)) (fun b1 b2 w4 hm n1 n2 => ?_)
          simp only [Act.put, List.setIfInBounds_toArray, List.set_cons_zero, List.set_cons_succ]
          refine wpY_takeA 15 (.tuple #[.int .i64 (X 3), .int .i64 0]) rfl rfl (by kernel_rfl) (by kernel_rfl) (fun w1 h1 => ?_) ?_
          · go_simp
            refine (D3.out _ _ _ (n1.below h1 n1.lt) (n2.below h1 n2.lt)).mono ?_
            rintro e w5 ⟨rfl, h5⟩
            exact ⟨rfl, h5⟩
          simp only [Act.put, List.setIfInBounds_toArray, List.set_cons_zero, List.set_cons_succ]
          refine wpY_takeB 16 (.tuple #[.int .i64 (X 3), .int .i64 0]) rfl rfl (by kernel_rfl) (fun w1 => by go_simp; exact ⟨rfl, Below.refl _ _⟩) ?_
          simp only [Act.put, List.setIfInBounds_toArray, List.set_cons_zero, List.set_cons_succ]
          refine wpY_takeB 17 (.int .i64 (X 3)) rfl rfl (by kernel_rfl) (fun w1 => by go_simp; exact ⟨rfl, Below.refl _ _⟩) ?_
          simp only [Act.put, List.setIfInBounds_toArray, List.set_cons_zero, List.set_cons_succ]
          refine wpY_takeB 18 (.int .i64 0) rfl rfl (by kernel_rfl) (fun w1 => by go_simp; exact ⟨rfl, Below.refl _ _⟩) ?_
          simp only [Act.put, List.setIfInBounds_toArray, List.set_cons_zero, List.set_cons_succ]
          refine wpY_takeB 20 (.pointer (some ⟨mb, 3, none⟩)) rfl rfl (by kernel_rfl) (fun w1 => by go_simp; exact ⟨rfl, Below.refl _ _⟩) ?_
          simp only [Act.put, List.setIfInBounds_toArray, List.set_cons_zero, List.set_cons_succ]
          refine wpY_one rfl rfl (by kernel_rfl) (fun w6 h6 => ?_)
          replace hm := More.trans hm h6
          replace p := p.below hm p.lt
          replace r := r.below hm r.lt
          replace m := m.below hm m.lt
          replace hB := hB.trans (hm.mono hB.size)
          clear hm h6 n1 n2
          have fz : w6.frozen? ⟨mb, 3, none⟩ = false := m.free _
          have cz : w6.cell? ⟨mb, 3, none⟩ = some (.int .i64 (mpre X 3 3)) := m.cellIs (mfn_get _ (by omega))
          go_simp
          replace p := p.setOther (a := ⟨mb, 3, none⟩) (by simp; omega) (.int .i64 (X 3))
          replace r := r.setOther (a := ⟨mb, 3, none⟩) (by simp; omega) (.int .i64 (X 3))
          replace m : blk (w6.setCell ⟨mb, 3, none⟩ (.int .i64 (X 3))) mb (mfn (mpre X 4)) 105 := m.set' (mfn_set (by omega) (by simp [mpre]) (by intro j hj hne; exact mpre_step hne))
          replace hB := hB.setCell (p := ⟨mb, 3, none⟩) (by simp; omega) (.int .i64 (X 3))
          clear fz cz
          generalize w6.setCell ⟨mb, 3, none⟩ (.int .i64 (X 3)) = w7 at *
          refine wpY_end (by kernel_rfl) (fun w8 h8 => ?_)
          replace p := p.below h8 p.lt
          replace r := r.below h8 r.lt
          replace m := m.below h8 m.lt
          replace hB := hB.trans (h8.mono hB.size)
          clear h8
          go_wp2_with (fail)
          go_roundw
          case rel => exact ⟨1, by omega, by omega, rfl, p, r, m, hB⟩
          case measure => simp [intOf]
        · go_upto_region 11 with (fail)
          refine wp_region_X 9 (by kernel_rfl) (by kernel_rfl) ?_
          replace p := p.drew
          replace r := r.drew
          replace m := m.drew
          replace hB : Below w.heap.size w wr.drew := hB.drew
          generalize wr.drew = wd at *
          refine wpX_take 0 (.int .i64 1) rfl rfl (by kernel_rfl) (fun w1 h1 => by go_simp; exact ⟨rfl, Below.refl _ _⟩) ?_
          simp only [Act.put, List.setIfInBounds_toArray, List.set_cons_zero, List.set_cons_succ]
          refine wpX_take 1 (.int .i64 2) rfl rfl (by kernel_rfl) (fun w1 h1 => by go_simp; exact ⟨rfl, Below.refl _ _⟩) ?_
          simp only [Act.put, List.setIfInBounds_toArray, List.set_cons_zero, List.set_cons_succ]
          refine wpX_take 2 (.pointer (some ⟨w.heap.size, 2, none⟩)) rfl rfl (by kernel_rfl) (fun w1 h1 => by go_simp; exact ⟨rfl, Below.refl _ _⟩) ?_
          simp only [Act.put, List.setIfInBounds_toArray, List.set_cons_zero, List.set_cons_succ]
          refine wpX_take 3 (.int .i64 (f 2)) rfl rfl (by kernel_rfl) (fun w1 h1 => by have hc : w1.cell? ⟨w.heap.size, 2, none⟩ = some (.int .i64 (f 2)) := (p.below h1 p.lt).cellIs (qfn_get _ (by omega)); go_simp; exact ⟨rfl, Below.refl _ _⟩) ?_
          simp only [Act.put, List.setIfInBounds_toArray, List.set_cons_zero, List.set_cons_succ]
          refine wpX_take 4 (.int .i64 1) rfl rfl (by kernel_rfl) (fun w1 h1 => by go_simp; exact ⟨rfl, Below.refl _ _⟩) ?_
          simp only [Act.put, List.setIfInBounds_toArray, List.set_cons_zero, List.set_cons_succ]
          refine wpX_take 5 (.int .i64 2) rfl rfl (by kernel_rfl) (fun w1 h1 => by go_simp; exact ⟨rfl, Below.refl _ _⟩) ?_
          simp only [Act.put, List.setIfInBounds_toArray, List.set_cons_zero, List.set_cons_succ]
          refine wpX_take 6 (.pointer (some ⟨w.heap.size, 2, none⟩)) rfl rfl (by kernel_rfl) (fun w1 h1 => by go_simp; exact ⟨rfl, Below.refl _ _⟩) ?_
          simp only [Act.put, List.setIfInBounds_toArray, List.set_cons_zero, List.set_cons_succ]
          refine wpX_take 7 (.int .i64 (f 2)) rfl rfl (by kernel_rfl) (fun w1 h1 => by have hc : w1.cell? ⟨w.heap.size, 2, none⟩ = some (.int .i64 (f 2)) := (p.below h1 p.lt).cellIs (qfn_get _ (by omega)); go_simp; exact ⟨rfl, Below.refl _ _⟩) ?_
          simp only [Act.put, List.setIfInBounds_toArray, List.set_cons_zero, List.set_cons_succ]
          refine wpX_take 8 (.int .i64 (f 2)) rfl rfl (by kernel_rfl) (fun w1 h1 => by go_simp; exact ⟨rfl, Below.refl _ _⟩) ?_
          simp only [Act.put, List.setIfInBounds_toArray, List.set_cons_zero, List.set_cons_succ]
          refine wpX_tail (by kernel_rfl) (fun wt ht => ?_)
          simp only [List.drop_succ_cons, List.drop_zero]
          replace hB := hB.trans (ht.mono hB.size)
          replace p := p.below ht p.lt
          replace r := r.below ht r.lt
          replace m := m.below ht m.lt
          clear ht
          go_upto_region 15 with (fail)
          refine wp_region_X 13 (by kernel_rfl) (by kernel_rfl) ?_
          replace p := p.drew
          replace r := r.drew
          replace m := m.drew
          replace hB : Below w.heap.size w wt.drew := hB.drew
          generalize wt.drew = we at *
          refine wpX_take 0 (.int .i64 1) rfl rfl (by kernel_rfl) (fun w1 h1 => by go_simp; exact ⟨rfl, Below.refl _ _⟩) ?_
          simp only [Act.put, List.setIfInBounds_toArray, List.set_cons_zero, List.set_cons_succ]
          refine wpX_take 1 (.int .i64 2) rfl rfl (by kernel_rfl) (fun w1 h1 => by go_simp; exact ⟨rfl, Below.refl _ _⟩) ?_
          simp only [Act.put, List.setIfInBounds_toArray, List.set_cons_zero, List.set_cons_succ]
          refine wpX_take 2 (.int .i64 2) rfl rfl (by kernel_rfl) (fun w1 h1 => by go_simp; exact ⟨rfl, Below.refl _ _⟩) ?_
          simp only [Act.put, List.setIfInBounds_toArray, List.set_cons_zero, List.set_cons_succ]
          refine wpX_take 3 (.int .i64 3) rfl rfl (by kernel_rfl) (fun w1 h1 => by go_simp; exact ⟨rfl, Below.refl _ _⟩) ?_
          simp only [Act.put, List.setIfInBounds_toArray, List.set_cons_zero, List.set_cons_succ]
          refine wpX_take 4 (.pointer (some ⟨w.heap.size, 3, none⟩)) rfl rfl (by kernel_rfl) (fun w1 h1 => by go_simp; exact ⟨rfl, Below.refl _ _⟩) ?_
          simp only [Act.put, List.setIfInBounds_toArray, List.set_cons_zero, List.set_cons_succ]
          refine wpX_take 5 (.int .i64 (f 3)) rfl rfl (by kernel_rfl) (fun w1 h1 => by have hc : w1.cell? ⟨w.heap.size, 3, none⟩ = some (.int .i64 (f 3)) := (p.below h1 p.lt).cellIs (qfn_get _ (by omega)); go_simp; exact ⟨rfl, Below.refl _ _⟩) ?_
          simp only [Act.put, List.setIfInBounds_toArray, List.set_cons_zero, List.set_cons_succ]
          refine wpX_take 6 (.int .i64 1) rfl rfl (by kernel_rfl) (fun w1 h1 => by go_simp; exact ⟨rfl, Below.refl _ _⟩) ?_
          simp only [Act.put, List.setIfInBounds_toArray, List.set_cons_zero, List.set_cons_succ]
          refine wpX_take 7 (.int .i64 3) rfl rfl (by kernel_rfl) (fun w1 h1 => by go_simp; exact ⟨rfl, Below.refl _ _⟩) ?_
          simp only [Act.put, List.setIfInBounds_toArray, List.set_cons_zero, List.set_cons_succ]
          refine wpX_take 8 (.int .i64 0) rfl rfl (by kernel_rfl) (fun w1 h1 => by go_simp; exact ⟨rfl, Below.refl _ _⟩) ?_
          simp only [Act.put, List.setIfInBounds_toArray, List.set_cons_zero, List.set_cons_succ]
          refine wpX_take 9 (.int .i64 1) rfl rfl (by kernel_rfl) (fun w1 h1 => by go_simp; exact ⟨rfl, Below.refl _ _⟩) ?_
          simp only [Act.put, List.setIfInBounds_toArray, List.set_cons_zero, List.set_cons_succ]
          refine wpX_take 10 (.pointer (some ⟨w.heap.size, 1, none⟩)) rfl rfl (by kernel_rfl) (fun w1 h1 => by go_simp; exact ⟨rfl, Below.refl _ _⟩) ?_
          simp only [Act.put, List.setIfInBounds_toArray, List.set_cons_zero, List.set_cons_succ]
          refine wpX_take 11 (.int .i64 (f 1)) rfl rfl (by kernel_rfl) (fun w1 h1 => by have hc : w1.cell? ⟨w.heap.size, 1, none⟩ = some (.int .i64 (f 1)) := (p.below h1 p.lt).cellIs (qfn_get _ (by omega)); go_simp; exact ⟨rfl, Below.refl _ _⟩) ?_
          simp only [Act.put, List.setIfInBounds_toArray, List.set_cons_zero, List.set_cons_succ]
          refine wpX_take 12 (.int .i64 (f 3)) rfl rfl (by kernel_rfl) (fun w1 h1 => by go_simp; exact ⟨rfl, Below.refl _ _⟩) ?_
          simp only [Act.put, List.setIfInBounds_toArray, List.set_cons_zero, List.set_cons_succ]
          refine wpX_tail (by kernel_rfl) (fun wu ht => ?_)
          simp only [List.drop_succ_cons, List.drop_zero]
          replace hB := hB.trans (ht.mono hB.size)
          replace p := p.below ht p.lt
          replace r := r.below ht r.lt
          replace m := m.below ht m.lt
          clear ht
          go_upto_region 16 with (fail)
          refine wp_region_Y 20 21 rfl (by kernel_rfl) ?_
          replace p := p.drew
          replace r := r.drew
          replace m := m.drew
          replace hB : Below w.heap.size w wu.drew := hB.drew
          generalize wu.drew = wo2 at *
          refine wpY_takeB 0 (.int .i64 1) rfl rfl (by kernel_rfl) (fun w1 => by go_simp; exact ⟨rfl, Below.refl _ _⟩) ?_
          simp only [Act.put, List.setIfInBounds_toArray, List.set_cons_zero, List.set_cons_succ]
          refine wpY_takeB 1 (.int .i64 1) rfl rfl (by kernel_rfl) (fun w1 => by go_simp; exact ⟨rfl, Below.refl _ _⟩) ?_
          simp only [Act.put, List.setIfInBounds_toArray, List.set_cons_zero, List.set_cons_succ]
          refine wpY_takeB 2 (.int .i64 (f 0)) rfl rfl (by kernel_rfl) (fun w1 => by go_simp; exact ⟨rfl, Below.refl _ _⟩) ?_
          simp only [Act.put, List.setIfInBounds_toArray, List.set_cons_zero, List.set_cons_succ]
          refine wpY_takeB 3 (.int .i64 (f 2)) rfl rfl (by kernel_rfl) (fun w1 => by go_simp; exact ⟨rfl, Below.refl _ _⟩) ?_
          simp only [Act.put, List.setIfInBounds_toArray, List.set_cons_zero, List.set_cons_succ]
          refine wpY_takeB 4 (.int .i64 (f 3)) rfl rfl (by kernel_rfl) (fun w1 => by go_simp; exact ⟨rfl, Below.refl _ _⟩) ?_
          simp only [Act.put, List.setIfInBounds_toArray, List.set_cons_zero, List.set_cons_succ]
          refine wpY_takeB 5 (.int .i64 (-f 3)) rfl rfl (by kernel_rfl) (fun w1 => by go_simp; exact ⟨by first | rfl | (rw [wn3]; done), Below.refl _ _⟩) ?_
          simp only [Act.put, List.setIfInBounds_toArray, List.set_cons_zero, List.set_cons_succ]
          refine wpY_takeB 6 (.int .i64 (f 1)) rfl rfl (by kernel_rfl) (fun w1 => by go_simp; exact ⟨rfl, Below.refl _ _⟩) ?_
          simp only [Act.put, List.setIfInBounds_toArray, List.set_cons_zero, List.set_cons_succ]
          refine wpY_takeB 7 (.int .i64 (-f 1)) rfl rfl (by kernel_rfl) (fun w1 => by go_simp; exact ⟨by first | rfl | (rw [wn1]; done), Below.refl _ _⟩) ?_
          simp only [Act.put, List.setIfInBounds_toArray, List.set_cons_zero, List.set_cons_succ]
          refine wpY_takeB 9 (.int .i64 (f 0)) rfl rfl (by kernel_rfl) (fun w1 => by go_simp; exact ⟨rfl, Below.refl _ _⟩) ?_
          simp only [Act.put, List.setIfInBounds_toArray, List.set_cons_zero, List.set_cons_succ]
          refine wpY_takeB 10 (.int .i64 (f 2)) rfl rfl (by kernel_rfl) (fun w1 => by go_simp; exact ⟨rfl, Below.refl _ _⟩) ?_
          simp only [Act.put, List.setIfInBounds_toArray, List.set_cons_zero, List.set_cons_succ]
          refine wpY_takeB 11 (.int .i64 (f 3)) rfl rfl (by kernel_rfl) (fun w1 => by go_simp; exact ⟨rfl, Below.refl _ _⟩) ?_
          simp only [Act.put, List.setIfInBounds_toArray, List.set_cons_zero, List.set_cons_succ]
          refine wpY_takeB 12 (.int .i64 (f 1)) rfl rfl (by kernel_rfl) (fun w1 => by go_simp; exact ⟨rfl, Below.refl _ _⟩) ?_
          simp only [Act.put, List.setIfInBounds_toArray, List.set_cons_zero, List.set_cons_succ]
          refine wpY_takeB 18 (.pointer (some ⟨mb, 3, none⟩)) rfl rfl (by kernel_rfl) (fun w1 => by go_simp; exact ⟨rfl, Below.refl _ _⟩) ?_
          simp only [Act.put, List.setIfInBounds_toArray, List.set_cons_zero, List.set_cons_succ]
          refine wpY_allocs 8 13 rfl rfl rfl rfl (by decide) (by kernel_rfl) (by kernel_rfl) (by kernel_rfl) (by decide) (alloc4 (n0 := f 0) (n1 := f 2) (n2 := -f 3) (n3 := -f 1) rfl rfl rfl rfl rfl Try.underlying116 (by kernel_rfl) (by kernel_rfl)) (alloc4 (n0 := f 0) (n1 := f 2) (n2 := f 3) (n3 := f 1) rfl rfl rfl rfl rfl Try.underlying116 (by kernel_rfl) (by kernel_rfl)) (fun u => alloc4 (n0 := f 0) (n1 := f 2) (n2 := -f 3) (n3 := -f 1) rfl rfl rfl rfl rfl Try.underlying116 (by kernel_rfl) (by kernel_rfl)) (fun u => alloc4 (n0 := f 0) (n1 := f 2) (n2 := f 3) (n3 := f 1) rfl rfl rfl rfl rfl Try.underlying116 (by kernel_rfl) (by kernel_rfl)) (fun b1 b2 w4 hm n1 n2 => ?_)
          simp only [Act.put, List.setIfInBounds_toArray, List.set_cons_zero, List.set_cons_succ]
          refine wpY_takeA 14 (.tuple #[.int .i64 (X 4), .int .i64 0]) rfl rfl (by kernel_rfl) (by kernel_rfl) (fun w1 h1 => ?_) ?_
          · go_simp
            refine (D4.out _ _ _ (n1.below h1 n1.lt) (n2.below h1 n2.lt)).mono ?_
            rintro e w5 ⟨rfl, h5⟩
            exact ⟨rfl, h5⟩
          simp only [Act.put, List.setIfInBounds_toArray, List.set_cons_zero, List.set_cons_succ]
          refine wpY_takeB 15 (.tuple #[.int .i64 (X 4), .int .i64 0]) rfl rfl (by kernel_rfl) (fun w1 => by go_simp; exact ⟨rfl, Below.refl _ _⟩) ?_
          simp only [Act.put, List.setIfInBounds_toArray, List.set_cons_zero, List.set_cons_succ]
          refine wpY_takeB 16 (.int .i64 (X 4)) rfl rfl (by kernel_rfl) (fun w1 => by go_simp; exact ⟨rfl, Below.refl _ _⟩) ?_
          simp only [Act.put, List.setIfInBounds_toArray, List.set_cons_zero, List.set_cons_succ]
          refine wpY_takeB 17 (.int .i64 0) rfl rfl (by kernel_rfl) (fun w1 => by go_simp; exact ⟨rfl, Below.refl _ _⟩) ?_
          simp only [Act.put, List.setIfInBounds_toArray, List.set_cons_zero, List.set_cons_succ]
          refine wpY_takeB 19 (.pointer (some ⟨mb, 4, none⟩)) rfl rfl (by kernel_rfl) (fun w1 => by go_simp; exact ⟨rfl, Below.refl _ _⟩) ?_
          simp only [Act.put, List.setIfInBounds_toArray, List.set_cons_zero, List.set_cons_succ]
          refine wpY_one rfl rfl (by kernel_rfl) (fun w6 h6 => ?_)
          replace hm := More.trans hm h6
          replace p := p.below hm p.lt
          replace r := r.below hm r.lt
          replace m := m.below hm m.lt
          replace hB := hB.trans (hm.mono hB.size)
          clear hm h6 n1 n2
          have fz : w6.frozen? ⟨mb, 4, none⟩ = false := m.free _
          have cz : w6.cell? ⟨mb, 4, none⟩ = some (.int .i64 (mpre X 4 4)) := m.cellIs (mfn_get _ (by omega))
          go_simp
          replace p := p.setOther (a := ⟨mb, 4, none⟩) (by simp; omega) (.int .i64 (X 4))
          replace r := r.setOther (a := ⟨mb, 4, none⟩) (by simp; omega) (.int .i64 (X 4))
          replace m : blk (w6.setCell ⟨mb, 4, none⟩ (.int .i64 (X 4))) mb (mfn (mpre X 5)) 105 := m.set' (mfn_set (by omega) (by simp [mpre]) (by intro j hj hne; exact mpre_step hne))
          replace hB := hB.setCell (p := ⟨mb, 4, none⟩) (by simp; omega) (.int .i64 (X 4))
          clear fz cz
          generalize w6.setCell ⟨mb, 4, none⟩ (.int .i64 (X 4)) = w7 at *
          refine wpY_end (by kernel_rfl) (fun w8 h8 => ?_)
          replace p := p.below h8 p.lt
          replace r := r.below h8 r.lt
          replace m := m.below h8 m.lt
          replace hB := hB.trans (h8.mono hB.size)
          clear h8
          go_wp2_with (fail)
          go_roundw
          case rel => exact ⟨2, by omega, by omega, rfl, p, r, m, hB⟩
          case measure => simp [intOf]
        · go_upto_region 11 with (fail)
          refine wp_region_X 9 (by kernel_rfl) (by kernel_rfl) ?_
          replace p := p.drew
          replace r := r.drew
          replace m := m.drew
          replace hB : Below w.heap.size w wr.drew := hB.drew
          generalize wr.drew = wd at *
          refine wpX_take 0 (.int .i64 1) rfl rfl (by kernel_rfl) (fun w1 h1 => by go_simp; exact ⟨rfl, Below.refl _ _⟩) ?_
          simp only [Act.put, List.setIfInBounds_toArray, List.set_cons_zero, List.set_cons_succ]
          refine wpX_take 1 (.int .i64 2) rfl rfl (by kernel_rfl) (fun w1 h1 => by go_simp; exact ⟨rfl, Below.refl _ _⟩) ?_
          simp only [Act.put, List.setIfInBounds_toArray, List.set_cons_zero, List.set_cons_succ]
          refine wpX_take 2 (.pointer (some ⟨w.heap.size, 2, none⟩)) rfl rfl (by kernel_rfl) (fun w1 h1 => by go_simp; exact ⟨rfl, Below.refl _ _⟩) ?_
          simp only [Act.put, List.setIfInBounds_toArray, List.set_cons_zero, List.set_cons_succ]
          refine wpX_take 3 (.int .i64 (f 2)) rfl rfl (by kernel_rfl) (fun w1 h1 => by have hc : w1.cell? ⟨w.heap.size, 2, none⟩ = some (.int .i64 (f 2)) := (p.below h1 p.lt).cellIs (qfn_get _ (by omega)); go_simp; exact ⟨rfl, Below.refl _ _⟩) ?_
          simp only [Act.put, List.setIfInBounds_toArray, List.set_cons_zero, List.set_cons_succ]
          refine wpX_take 4 (.int .i64 2) rfl rfl (by kernel_rfl) (fun w1 h1 => by go_simp; exact ⟨rfl, Below.refl _ _⟩) ?_
          simp only [Act.put, List.setIfInBounds_toArray, List.set_cons_zero, List.set_cons_succ]
          refine wpX_take 5 (.int .i64 3) rfl rfl (by kernel_rfl) (fun w1 h1 => by go_simp; exact ⟨rfl, Below.refl _ _⟩) ?_
          simp only [Act.put, List.setIfInBounds_toArray, List.set_cons_zero, List.set_cons_succ]
          refine wpX_take 6 (.pointer (some ⟨w.heap.size, 3, none⟩)) rfl rfl (by kernel_rfl) (fun w1 h1 => by go_simp; exact ⟨rfl, Below.refl _ _⟩) ?_
          simp only [Act.put, List.setIfInBounds_toArray, List.set_cons_zero, List.set_cons_succ]
          refine wpX_take 7 (.int .i64 (f 3)) rfl rfl (by kernel_rfl) (fun w1 h1 => by have hc : w1.cell? ⟨w.heap.size, 3, none⟩ = some (.int .i64 (f 3)) := (p.below h1 p.lt).cellIs (qfn_get _ (by omega)); go_simp; exact ⟨rfl, Below.refl _ _⟩) ?_
          simp only [Act.put, List.setIfInBounds_toArray, List.set_cons_zero, List.set_cons_succ]
          refine wpX_take 8 (.int .i64 (f 2)) rfl rfl (by kernel_rfl) (fun w1 h1 => by go_simp; exact ⟨rfl, Below.refl _ _⟩) ?_
          simp only [Act.put, List.setIfInBounds_toArray, List.set_cons_zero, List.set_cons_succ]
          refine wpX_tail (by kernel_rfl) (fun wt ht => ?_)
          simp only [List.drop_succ_cons, List.drop_zero]
          replace hB := hB.trans (ht.mono hB.size)
          replace p := p.below ht p.lt
          replace r := r.below ht r.lt
          replace m := m.below ht m.lt
          clear ht
          go_upto_region 18 with (fail)
          refine wp_region_Y 21 22 rfl (by kernel_rfl) ?_
          replace p := p.drew
          replace r := r.drew
          replace m := m.drew
          replace hB : Below w.heap.size w wt.drew := hB.drew
          generalize wt.drew = wo2 at *
          refine wpY_takeB 0 (.int .i64 1) rfl rfl (by kernel_rfl) (fun w1 => by go_simp; exact ⟨rfl, Below.refl _ _⟩) ?_
          simp only [Act.put, List.setIfInBounds_toArray, List.set_cons_zero, List.set_cons_succ]
          refine wpY_takeB 1 (.int .i64 2) rfl rfl (by kernel_rfl) (fun w1 => by go_simp; exact ⟨rfl, Below.refl _ _⟩) ?_
          simp only [Act.put, List.setIfInBounds_toArray, List.set_cons_zero, List.set_cons_succ]
          refine wpY_takeB 2 (.int .i64 (f 2)) rfl rfl (by kernel_rfl) (fun w1 => by go_simp; exact ⟨rfl, Below.refl _ _⟩) ?_
          simp only [Act.put, List.setIfInBounds_toArray, List.set_cons_zero, List.set_cons_succ]
          refine wpY_takeB 3 (.int .i64 (2 * f 2)) rfl rfl (by kernel_rfl) (fun w1 => by go_simp; exact ⟨by first | rfl | (rw [wt2]; done), Below.refl _ _⟩) ?_
          simp only [Act.put, List.setIfInBounds_toArray, List.set_cons_zero, List.set_cons_succ]
          refine wpY_takeB 4 (.int .i64 (f 0)) rfl rfl (by kernel_rfl) (fun w1 => by go_simp; exact ⟨rfl, Below.refl _ _⟩) ?_
          simp only [Act.put, List.setIfInBounds_toArray, List.set_cons_zero, List.set_cons_succ]
          refine wpY_takeB 5 (.int .i64 (-2 * f 0)) rfl rfl (by kernel_rfl) (fun w1 => by go_simp; exact ⟨by first | rfl | (rw [wm0]; done), Below.refl _ _⟩) ?_
          simp only [Act.put, List.setIfInBounds_toArray, List.set_cons_zero, List.set_cons_succ]
          refine wpY_takeB 7 (.int .i64 (f 3)) rfl rfl (by kernel_rfl) (fun w1 => by go_simp; exact ⟨rfl, Below.refl _ _⟩) ?_
          simp only [Act.put, List.setIfInBounds_toArray, List.set_cons_zero, List.set_cons_succ]
          refine wpY_takeB 8 (.int .i64 1) rfl rfl (by kernel_rfl) (fun w1 => by go_simp; exact ⟨rfl, Below.refl _ _⟩) ?_
          simp only [Act.put, List.setIfInBounds_toArray, List.set_cons_zero, List.set_cons_succ]
          refine wpY_takeB 9 (.int .i64 3) rfl rfl (by kernel_rfl) (fun w1 => by go_simp; exact ⟨rfl, Below.refl _ _⟩) ?_
          simp only [Act.put, List.setIfInBounds_toArray, List.set_cons_zero, List.set_cons_succ]
          refine wpY_takeB 10 (.int .i64 0) rfl rfl (by kernel_rfl) (fun w1 => by go_simp; exact ⟨rfl, Below.refl _ _⟩) ?_
          simp only [Act.put, List.setIfInBounds_toArray, List.set_cons_zero, List.set_cons_succ]
          refine wpY_takeB 11 (.int .i64 1) rfl rfl (by kernel_rfl) (fun w1 => by go_simp; exact ⟨rfl, Below.refl _ _⟩) ?_
          simp only [Act.put, List.setIfInBounds_toArray, List.set_cons_zero, List.set_cons_succ]
          refine wpY_takeB 12 (.pointer (some ⟨w.heap.size, 1, none⟩)) rfl rfl (by kernel_rfl) (fun w1 => by go_simp; exact ⟨rfl, Below.refl _ _⟩) ?_
          simp only [Act.put, List.setIfInBounds_toArray, List.set_cons_zero, List.set_cons_succ]
          refine wpY_takeA 13 (.int .i64 (f 1)) rfl rfl (by kernel_rfl) (by kernel_rfl) (fun w1 h1 => by have hc : w1.cell? ⟨w.heap.size, 1, none⟩ = some (.int .i64 (f 1)) := (p.below h1 p.lt).cellIs (qfn_get _ (by omega)); go_simp; exact ⟨rfl, Below.refl _ _⟩) ?_
          simp only [Act.put, List.setIfInBounds_toArray, List.set_cons_zero, List.set_cons_succ]
          refine wpY_takeB 19 (.pointer (some ⟨mb, 3, none⟩)) rfl rfl (by kernel_rfl) (fun w1 => by go_simp; exact ⟨rfl, Below.refl _ _⟩) ?_
          simp only [Act.put, List.setIfInBounds_toArray, List.set_cons_zero, List.set_cons_succ]
          refine wpY_allocs 6 14 rfl rfl rfl rfl (by decide) (by kernel_rfl) (by kernel_rfl) (by kernel_rfl) (by decide) (alloc2 (n0 := 2 * f 2) (n1 := -2 * f 0) rfl rfl rfl Try.underlying116 (by kernel_rfl) (by kernel_rfl)) (alloc2 (n0 := f 3) (n1 := f 1) rfl rfl rfl Try.underlying116 (by kernel_rfl) (by kernel_rfl)) (fun u => alloc2 (n0 := 2 * f 2) (n1 := -2 * f 0) rfl rfl rfl Try.underlying116 (by kernel_rfl) (by kernel_rfl)) (fun u => alloc2 (n0 := f 3) (n1 := f 1) rfl rfl rfl Try.underlying116 (by kernel_rfl) (by kernel_rfl)) (fun b1 b2 w4 hm n1 n2 => ?_)
          simp only [Act.put, List.setIfInBounds_toArray, List.set_cons_zero, List.set_cons_succ]
          refine wpY_takeA 15 (.tuple #[.int .i64 (X 5), .int .i64 0]) rfl rfl (by kernel_rfl) (by kernel_rfl) (fun w1 h1 => ?_) ?_
          · go_simp
            refine (D5.out _ _ _ (n1.below h1 n1.lt) (n2.below h1 n2.lt)).mono ?_
            rintro e w5 ⟨rfl, h5⟩
            exact ⟨rfl, h5⟩
          simp only [Act.put, List.setIfInBounds_toArray, List.set_cons_zero, List.set_cons_succ]
          refine wpY_takeB 16 (.tuple #[.int .i64 (X 5), .int .i64 0]) rfl rfl (by kernel_rfl) (fun w1 => by go_simp; exact ⟨rfl, Below.refl _ _⟩) ?_
          simp only [Act.put, List.setIfInBounds_toArray, List.set_cons_zero, List.set_cons_succ]
          refine wpY_takeB 17 (.int .i64 (X 5)) rfl rfl (by kernel_rfl) (fun w1 => by go_simp; exact ⟨rfl, Below.refl _ _⟩) ?_
          simp only [Act.put, List.setIfInBounds_toArray, List.set_cons_zero, List.set_cons_succ]
          refine wpY_takeB 18 (.int .i64 0) rfl rfl (by kernel_rfl) (fun w1 => by go_simp; exact ⟨rfl, Below.refl _ _⟩) ?_
          simp only [Act.put, List.setIfInBounds_toArray, List.set_cons_zero, List.set_cons_succ]
          refine wpY_takeB 20 (.pointer (some ⟨mb, 5, none⟩)) rfl rfl (by kernel_rfl) (fun w1 => by go_simp; exact ⟨rfl, Below.refl _ _⟩) ?_
          simp only [Act.put, List.setIfInBounds_toArray, List.set_cons_zero, List.set_cons_succ]
          refine wpY_one rfl rfl (by kernel_rfl) (fun w6 h6 => ?_)
          replace hm := More.trans hm h6
          replace p := p.below hm p.lt
          replace r := r.below hm r.lt
          replace m := m.below hm m.lt
          replace hB := hB.trans (hm.mono hB.size)
          clear hm h6 n1 n2
          have fz : w6.frozen? ⟨mb, 5, none⟩ = false := m.free _
          have cz : w6.cell? ⟨mb, 5, none⟩ = some (.int .i64 (mpre X 5 5)) := m.cellIs (mfn_get _ (by omega))
          go_simp
          replace p := p.setOther (a := ⟨mb, 5, none⟩) (by simp; omega) (.int .i64 (X 5))
          replace r := r.setOther (a := ⟨mb, 5, none⟩) (by simp; omega) (.int .i64 (X 5))
          replace m : blk (w6.setCell ⟨mb, 5, none⟩ (.int .i64 (X 5))) mb (mfn (mpre X 6)) 105 := m.set' (mfn_set (by omega) (by simp [mpre]) (by intro j hj hne; exact mpre_step hne))
          replace hB := hB.setCell (p := ⟨mb, 5, none⟩) (by simp; omega) (.int .i64 (X 5))
          clear fz cz
          generalize w6.setCell ⟨mb, 5, none⟩ (.int .i64 (X 5)) = w7 at *
          refine wpY_end (by kernel_rfl) (fun w8 h8 => ?_)
          replace p := p.below h8 p.lt
          replace r := r.below h8 r.lt
          replace m := m.below h8 m.lt
          replace hB := hB.trans (h8.mono hB.size)
          clear h8
          go_wp2_with (fail)
          go_roundw
          case rel => exact ⟨3, by omega, by omega, rfl, p, r, m, hB⟩
          case measure => simp [intOf]
        · go_wp2_with (fail)
          go_roundw
          case rel => exact ⟨2, by omega, by omega, rfl, p, r, m, hB⟩
          case measure => simp [intOf]
    · go_wp2_with (fail)
      obtain ⟨wo, rfl⟩ : ∃ wo : World, wo = wr := ⟨_, rfl⟩
      go_loopw [21] (fun kv wi => ∃ k : Int, 0 ≤ k ∧ k ≤ 3 ∧ kv = .int .i64 k ∧ blk wi w.heap.size (qfn f) 23 ∧ blk wi (w.heap.size + 1) (mfn fun _ => 0) 105 ∧ blk wi mb (mfn (mpre X (6 + k.toNat))) 105 ∧ Below w.heap.size w wi) (fun kv _ => 3 - (intOf kv).toNat)
      case atStart => exact ⟨0, by omega, by omega, rfl, p, r, m, hB⟩
      case round =>
        clear p r m hB
        obtain ⟨k, hk0, hk3, rfl, p, r, m, hB⟩ := hrel
        have hcase : k = 0 ∨ k = 1 ∨ k = 2 ∨ k = 3 := by omega
        rcases hcase with rfl | rfl | rfl | rfl
        · go_upto_region 11 with (fail)
          refine wp_region_X 9 (by kernel_rfl) (by kernel_rfl) ?_
          replace p := p.drew
          replace r := r.drew
          replace m := m.drew
          replace hB : Below w.heap.size w wr.drew := hB.drew
          generalize wr.drew = wd at *
          refine wpX_take 0 (.int .i64 2) rfl rfl (by kernel_rfl) (fun w1 h1 => by go_simp; exact ⟨rfl, Below.refl _ _⟩) ?_
          simp only [Act.put, List.setIfInBounds_toArray, List.set_cons_zero, List.set_cons_succ]
          refine wpX_take 1 (.int .i64 3) rfl rfl (by kernel_rfl) (fun w1 h1 => by go_simp; exact ⟨rfl, Below.refl _ _⟩) ?_
          simp only [Act.put, List.setIfInBounds_toArray, List.set_cons_zero, List.set_cons_succ]
          refine wpX_take 2 (.pointer (some ⟨w.heap.size, 3, none⟩)) rfl rfl (by kernel_rfl) (fun w1 h1 => by go_simp; exact ⟨rfl, Below.refl _ _⟩) ?_
          simp only [Act.put, List.setIfInBounds_toArray, List.set_cons_zero, List.set_cons_succ]
          refine wpX_take 3 (.int .i64 (f 3)) rfl rfl (by kernel_rfl) (fun w1 h1 => by have hc : w1.cell? ⟨w.heap.size, 3, none⟩ = some (.int .i64 (f 3)) := (p.below h1 p.lt).cellIs (qfn_get _ (by omega)); go_simp; exact ⟨rfl, Below.refl _ _⟩) ?_
          simp only [Act.put, List.setIfInBounds_toArray, List.set_cons_zero, List.set_cons_succ]
          refine wpX_take 4 (.int .i64 0) rfl rfl (by kernel_rfl) (fun w1 h1 => by go_simp; exact ⟨rfl, Below.refl _ _⟩) ?_
          simp only [Act.put, List.setIfInBounds_toArray, List.set_cons_zero, List.set_cons_succ]
          refine wpX_take 5 (.int .i64 1) rfl rfl (by kernel_rfl) (fun w1 h1 => by go_simp; exact ⟨rfl, Below.refl _ _⟩) ?_
          simp only [Act.put, List.setIfInBounds_toArray, List.set_cons_zero, List.set_cons_succ]
          refine wpX_take 6 (.pointer (some ⟨w.heap.size, 1, none⟩)) rfl rfl (by kernel_rfl) (fun w1 h1 => by go_simp; exact ⟨rfl, Below.refl _ _⟩) ?_
          simp only [Act.put, List.setIfInBounds_toArray, List.set_cons_zero, List.set_cons_succ]
          refine wpX_take 7 (.int .i64 (f 1)) rfl rfl (by kernel_rfl) (fun w1 h1 => by have hc : w1.cell? ⟨w.heap.size, 1, none⟩ = some (.int .i64 (f 1)) := (p.below h1 p.lt).cellIs (qfn_get _ (by omega)); go_simp; exact ⟨rfl, Below.refl _ _⟩) ?_
          simp only [Act.put, List.setIfInBounds_toArray, List.set_cons_zero, List.set_cons_succ]
          refine wpX_take 8 (.int .i64 (f 3)) rfl rfl (by kernel_rfl) (fun w1 h1 => by go_simp; exact ⟨rfl, Below.refl _ _⟩) ?_
          simp only [Act.put, List.setIfInBounds_toArray, List.set_cons_zero, List.set_cons_succ]
          refine wpX_tail (by kernel_rfl) (fun wt ht => ?_)
          simp only [List.drop_succ_cons, List.drop_zero]
          replace hB := hB.trans (ht.mono hB.size)
          replace p := p.below ht p.lt
          replace r := r.below ht r.lt
          replace m := m.below ht m.lt
          clear ht
          go_upto_region 18 with (fail)
          refine wp_region_Y 21 22 rfl (by kernel_rfl) ?_
          replace p := p.drew
          replace r := r.drew
          replace m := m.drew
          replace hB : Below w.heap.size w wt.drew := hB.drew
          generalize wt.drew = wo2 at *
          refine wpY_takeB 0 (.int .i64 2) rfl rfl (by kernel_rfl) (fun w1 => by go_simp; exact ⟨rfl, Below.refl _ _⟩) ?_
          simp only [Act.put, List.setIfInBounds_toArray, List.set_cons_zero, List.set_cons_succ]
          refine wpY_takeB 1 (.int .i64 0) rfl rfl (by kernel_rfl) (fun w1 => by go_simp; exact ⟨rfl, Below.refl _ _⟩) ?_
          simp only [Act.put, List.setIfInBounds_toArray, List.set_cons_zero, List.set_cons_succ]
          refine wpY_takeB 2 (.int .i64 (f 3)) rfl rfl (by kernel_rfl) (fun w1 => by go_simp; exact ⟨rfl, Below.refl _ _⟩) ?_
          simp only [Act.put, List.setIfInBounds_toArray, List.set_cons_zero, List.set_cons_succ]
          refine wpY_takeB 3 (.int .i64 (2 * f 3)) rfl rfl (by kernel_rfl) (fun w1 => by go_simp; exact ⟨by first | rfl | (rw [wt3]; done), Below.refl _ _⟩) ?_
          simp only [Act.put, List.setIfInBounds_toArray, List.set_cons_zero, List.set_cons_succ]
          refine wpY_takeB 4 (.int .i64 (f 0)) rfl rfl (by kernel_rfl) (fun w1 => by go_simp; exact ⟨rfl, Below.refl _ _⟩) ?_
          simp only [Act.put, List.setIfInBounds_toArray, List.set_cons_zero, List.set_cons_succ]
          refine wpY_takeB 5 (.int .i64 (-2 * f 0)) rfl rfl (by kernel_rfl) (fun w1 => by go_simp; exact ⟨by first | rfl | (rw [wm0]; done), Below.refl _ _⟩) ?_
          simp only [Act.put, List.setIfInBounds_toArray, List.set_cons_zero, List.set_cons_succ]
          refine wpY_takeB 7 (.int .i64 (f 1)) rfl rfl (by kernel_rfl) (fun w1 => by go_simp; exact ⟨rfl, Below.refl _ _⟩) ?_
          simp only [Act.put, List.setIfInBounds_toArray, List.set_cons_zero, List.set_cons_succ]
          refine wpY_takeB 8 (.int .i64 2) rfl rfl (by kernel_rfl) (fun w1 => by go_simp; exact ⟨rfl, Below.refl _ _⟩) ?_
          simp only [Act.put, List.setIfInBounds_toArray, List.set_cons_zero, List.set_cons_succ]
          refine wpY_takeB 9 (.int .i64 4) rfl rfl (by kernel_rfl) (fun w1 => by go_simp; exact ⟨rfl, Below.refl _ _⟩) ?_
          simp only [Act.put, List.setIfInBounds_toArray, List.set_cons_zero, List.set_cons_succ]
          refine wpY_takeB 10 (.int .i64 1) rfl rfl (by kernel_rfl) (fun w1 => by go_simp; exact ⟨rfl, Below.refl _ _⟩) ?_
          simp only [Act.put, List.setIfInBounds_toArray, List.set_cons_zero, List.set_cons_succ]
          refine wpY_takeB 11 (.int .i64 2) rfl rfl (by kernel_rfl) (fun w1 => by go_simp; exact ⟨rfl, Below.refl _ _⟩) ?_
          simp only [Act.put, List.setIfInBounds_toArray, List.set_cons_zero, List.set_cons_succ]
          refine wpY_takeB 12 (.pointer (some ⟨w.heap.size, 2, none⟩)) rfl rfl (by kernel_rfl) (fun w1 => by go_simp; exact ⟨rfl, Below.refl _ _⟩) ?_
          simp only [Act.put, List.setIfInBounds_toArray, List.set_cons_zero, List.set_cons_succ]
          refine wpY_takeA 13 (.int .i64 (f 2)) rfl rfl (by kernel_rfl) (by kernel_rfl) (fun w1 h1 => by have hc : w1.cell? ⟨w.heap.size, 2, none⟩ = some (.int .i64 (f 2)) := (p.below h1 p.lt).cellIs (qfn_get _ (by omega)); go_simp; exact ⟨rfl, Below.refl _ _⟩) ?_
          simp only [Act.put, List.setIfInBounds_toArray, List.set_cons_zero, List.set_cons_succ]
          refine wpY_takeB 19 (.pointer (some ⟨mb, 6, none⟩)) rfl rfl (by kernel_rfl) (fun w1 => by go_simp; exact ⟨rfl, Below.refl _ _⟩) ?_
          simp only [Act.put, List.setIfInBounds_toArray, List.set_cons_zero, List.set_cons_succ]
          refine wpY_allocs 6 14 rfl rfl rfl rfl (by decide) (by kernel_rfl) (by kernel_rfl) (by kernel_rfl) (by decide) (alloc2 (n0 := 2 * f 3) (n1 := -2 * f 0) rfl rfl rfl Try.underlying116 (by kernel_rfl) (by kernel_rfl)) (alloc2 (n0 := f 1) (n1 := f 2) rfl rfl rfl Try.underlying116 (by kernel_rfl) (by kernel_rfl)) (fun u => alloc2 (n0 := 2 * f 3) (n1 := -2 * f 0) rfl rfl rfl Try.underlying116 (by kernel_rfl) (by kernel_rfl)) (fun u => alloc2 (n0 := f 1) (n1 := f 2) rfl rfl rfl Try.underlying116 (by kernel_rfl) (by kernel_rfl)) (fun b1 b2 w4 hm n1 n2 => ?_)
          simp only [Act.put, List.setIfInBounds_toArray, List.set_cons_zero, List.set_cons_succ]
          refine wpY_takeA 15 (.tuple #[.int .i64 (X 6), .int .i64 0]) rfl rfl (by kernel_rfl) (by kernel_rfl) (fun w1 h1 => ?_) ?_
          · go_simp
            refine (D6.out _ _ _ (n1.below h1 n1.lt) (n2.below h1 n2.lt)).mono ?_
            rintro e w5 ⟨rfl, h5⟩
            exact ⟨rfl, h5⟩
          simp only [Act.put, List.setIfInBounds_toArray, List.set_cons_zero, List.set_cons_succ]
          refine wpY_takeB 16 (.tuple #[.int .i64 (X 6), .int .i64 0]) rfl rfl (by kernel_rfl) (fun w1 => by go_simp; exact ⟨rfl, Below.refl _ _⟩) ?_
          simp only [Act.put, List.setIfInBounds_toArray, List.set_cons_zero, List.set_cons_succ]
          refine wpY_takeB 17 (.int .i64 (X 6)) rfl rfl (by kernel_rfl) (fun w1 => by go_simp; exact ⟨rfl, Below.refl _ _⟩) ?_
          simp only [Act.put, List.setIfInBounds_toArray, List.set_cons_zero, List.set_cons_succ]
          refine wpY_takeB 18 (.int .i64 0) rfl rfl (by kernel_rfl) (fun w1 => by go_simp; exact ⟨rfl, Below.refl _ _⟩) ?_
          simp only [Act.put, List.setIfInBounds_toArray, List.set_cons_zero, List.set_cons_succ]
          refine wpY_takeB 20 (.pointer (some ⟨mb, 6, none⟩)) rfl rfl (by kernel_rfl) (fun w1 => by go_simp; exact ⟨rfl, Below.refl _ _⟩) ?_
          simp only [Act.put, List.setIfInBounds_toArray, List.set_cons_zero, List.set_cons_succ]
          refine wpY_one rfl rfl (by kernel_rfl) (fun w6 h6 => ?_)
          replace hm := More.trans hm h6
          replace p := p.below hm p.lt
          replace r := r.below hm r.lt
          replace m := m.below hm m.lt
          replace hB := hB.trans (hm.mono hB.size)
          clear hm h6 n1 n2
          have fz : w6.frozen? ⟨mb, 6, none⟩ = false := m.free _
          have cz : w6.cell? ⟨mb, 6, none⟩ = some (.int .i64 (mpre X 6 6)) := m.cellIs (mfn_get _ (by omega))
          go_simp
          replace p := p.setOther (a := ⟨mb, 6, none⟩) (by simp; omega) (.int .i64 (X 6))
          replace r := r.setOther (a := ⟨mb, 6, none⟩) (by simp; omega) (.int .i64 (X 6))
          replace m : blk (w6.setCell ⟨mb, 6, none⟩ (.int .i64 (X 6))) mb (mfn (mpre X 7)) 105 := m.set' (mfn_set (by omega) (by simp [mpre]) (by intro j hj hne; exact mpre_step hne))
          replace hB := hB.setCell (p := ⟨mb, 6, none⟩) (by simp; omega) (.int .i64 (X 6))
          clear fz cz
          generalize w6.setCell ⟨mb, 6, none⟩ (.int .i64 (X 6)) = w7 at *
          refine wpY_end (by kernel_rfl) (fun w8 h8 => ?_)
          replace p := p.below h8 p.lt
          replace r := r.below h8 r.lt
          replace m := m.below h8 m.lt
          replace hB := hB.trans (h8.mono hB.size)
          clear h8
          go_wp2_with (fail)
          go_roundw
          case rel => exact ⟨1, by omega, by omega, rfl, p, r, m, hB⟩
          case measure => simp [intOf]
        · go_upto_region 11 with (fail)
          refine wp_region_X 9 (by kernel_rfl) (by kernel_rfl) ?_
          replace p := p.drew
          replace r := r.drew
          replace m := m.drew
          replace hB : Below w.heap.size w wr.drew := hB.drew
          generalize wr.drew = wd at *
          refine wpX_take 0 (.int .i64 2) rfl rfl (by kernel_rfl) (fun w1 h1 => by go_simp; exact ⟨rfl, Below.refl _ _⟩) ?_
          simp only [Act.put, List.setIfInBounds_toArray, List.set_cons_zero, List.set_cons_succ]
          refine wpX_take 1 (.int .i64 3) rfl rfl (by kernel_rfl) (fun w1 h1 => by go_simp; exact ⟨rfl, Below.refl _ _⟩) ?_
          simp only [Act.put, List.setIfInBounds_toArray, List.set_cons_zero, List.set_cons_succ]
          refine wpX_take 2 (.pointer (some ⟨w.heap.size, 3, none⟩)) rfl rfl (by kernel_rfl) (fun w1 h1 => by go_simp; exact ⟨rfl, Below.refl _ _⟩) ?_
          simp only [Act.put, List.setIfInBounds_toArray, List.set_cons_zero, List.set_cons_succ]
          refine wpX_take 3 (.int .i64 (f 3)) rfl rfl (by kernel_rfl) (fun w1 h1 => by have hc : w1.cell? ⟨w.heap.size, 3, none⟩ = some (.int .i64 (f 3)) := (p.below h1 p.lt).cellIs (qfn_get _ (by omega)); go_simp; exact ⟨rfl, Below.refl _ _⟩) ?_
          simp only [Act.put, List.setIfInBounds_toArray, List.set_cons_zero, List.set_cons_succ]
          refine wpX_take 4 (.int .i64 1) rfl rfl (by kernel_rfl) (fun w1 h1 => by go_simp; exact ⟨rfl, Below.refl _ _⟩) ?_
          simp only [Act.put, List.setIfInBounds_toArray, List.set_cons_zero, List.set_cons_succ]
          refine wpX_take 5 (.int .i64 2) rfl rfl (by kernel_rfl) (fun w1 h1 => by go_simp; exact ⟨rfl, Below.refl _ _⟩) ?_
          simp only [Act.put, List.setIfInBounds_toArray, List.set_cons_zero, List.set_cons_succ]
          refine wpX_take 6 (.pointer (some ⟨w.heap.size, 2, none⟩)) rfl rfl (by kernel_rfl) (fun w1 h1 => by go_simp; exact ⟨rfl, Below.refl _ _⟩) ?_
          simp only [Act.put, List.setIfInBounds_toArray, List.set_cons_zero, List.set_cons_succ]
          refine wpX_take 7 (.int .i64 (f 2)) rfl rfl (by kernel_rfl) (fun w1 h1 => by have hc : w1.cell? ⟨w.heap.size, 2, none⟩ = some (.int .i64 (f 2)) := (p.below h1 p.lt).cellIs (qfn_get _ (by omega)); go_simp; exact ⟨rfl, Below.refl _ _⟩) ?_
          simp only [Act.put, List.setIfInBounds_toArray, List.set_cons_zero, List.set_cons_succ]
          refine wpX_take 8 (.int .i64 (f 3)) rfl rfl (by kernel_rfl) (fun w1 h1 => by go_simp; exact ⟨rfl, Below.refl _ _⟩) ?_
          simp only [Act.put, List.setIfInBounds_toArray, List.set_cons_zero, List.set_cons_succ]
          refine wpX_tail (by kernel_rfl) (fun wt ht => ?_)
          simp only [List.drop_succ_cons, List.drop_zero]
          replace hB := hB.trans (ht.mono hB.size)
          replace p := p.below ht p.lt
          replace r := r.below ht r.lt
          replace m := m.below ht m.lt
          clear ht
          go_upto_region 13 with (fail)
          refine wp_region_Y 21 22 rfl (by kernel_rfl) ?_
          replace p := p.drew
          replace r := r.drew
          replace m := m.drew
          replace hB : Below w.heap.size w wt.drew := hB.drew
          generalize wt.drew = wo2 at *
          refine wpY_takeB 0 (.int .i64 2) rfl rfl (by kernel_rfl) (fun w1 => by go_simp; exact ⟨rfl, Below.refl _ _⟩) ?_
          simp only [Act.put, List.setIfInBounds_toArray, List.set_cons_zero, List.set_cons_succ]
          refine wpY_takeB 1 (.int .i64 1) rfl rfl (by kernel_rfl) (fun w1 => by go_simp; exact ⟨rfl, Below.refl _ _⟩) ?_
          simp only [Act.put, List.setIfInBounds_toArray, List.set_cons_zero, List.set_cons_succ]
          refine wpY_takeB 2 (.int .i64 (f 3)) rfl rfl (by kernel_rfl) (fun w1 => by go_simp; exact ⟨rfl, Below.refl _ _⟩) ?_
          simp only [Act.put, List.setIfInBounds_toArray, List.set_cons_zero, List.set_cons_succ]
          refine wpY_takeB 3 (.int .i64 (2 * f 3)) rfl rfl (by kernel_rfl) (fun w1 => by go_simp; exact ⟨by first | rfl | (rw [wt3]; done), Below.refl _ _⟩) ?_
          simp only [Act.put, List.setIfInBounds_toArray, List.set_cons_zero, List.set_cons_succ]
          refine wpY_takeB 4 (.int .i64 (f 0)) rfl rfl (by kernel_rfl) (fun w1 => by go_simp; exact ⟨rfl, Below.refl _ _⟩) ?_
          simp only [Act.put, List.setIfInBounds_toArray, List.set_cons_zero, List.set_cons_succ]
          refine wpY_takeB 5 (.int .i64 (2 * f 0)) rfl rfl (by kernel_rfl) (fun w1 => by go_simp; exact ⟨by first | rfl | (rw [wt0]; done), Below.refl _ _⟩) ?_
          simp only [Act.put, List.setIfInBounds_toArray, List.set_cons_zero, List.set_cons_succ]
          refine wpY_takeB 7 (.int .i64 (f 2)) rfl rfl (by kernel_rfl) (fun w1 => by go_simp; exact ⟨rfl, Below.refl _ _⟩) ?_
          simp only [Act.put, List.setIfInBounds_toArray, List.set_cons_zero, List.set_cons_succ]
          refine wpY_takeB 8 (.int .i64 2) rfl rfl (by kernel_rfl) (fun w1 => by go_simp; exact ⟨rfl, Below.refl _ _⟩) ?_
          simp only [Act.put, List.setIfInBounds_toArray, List.set_cons_zero, List.set_cons_succ]
          refine wpY_takeB 9 (.int .i64 3) rfl rfl (by kernel_rfl) (fun w1 => by go_simp; exact ⟨rfl, Below.refl _ _⟩) ?_
          simp only [Act.put, List.setIfInBounds_toArray, List.set_cons_zero, List.set_cons_succ]
          refine wpY_takeB 10 (.int .i64 0) rfl rfl (by kernel_rfl) (fun w1 => by go_simp; exact ⟨rfl, Below.refl _ _⟩) ?_
          simp only [Act.put, List.setIfInBounds_toArray, List.set_cons_zero, List.set_cons_succ]
          refine wpY_takeB 11 (.int .i64 1) rfl rfl (by kernel_rfl) (fun w1 => by go_simp; exact ⟨rfl, Below.refl _ _⟩) ?_
          simp only [Act.put, List.setIfInBounds_toArray, List.set_cons_zero, List.set_cons_succ]
          refine wpY_takeB 12 (.pointer (some ⟨w.heap.size, 1, none⟩)) rfl rfl (by kernel_rfl) (fun w1 => by go_simp; exact ⟨rfl, Below.refl _ _⟩) ?_
          simp only [Act.put, List.setIfInBounds_toArray, List.set_cons_zero, List.set_cons_succ]
          refine wpY_takeA 13 (.int .i64 (f 1)) rfl rfl (by kernel_rfl) (by kernel_rfl) (fun w1 h1 => by have hc : w1.cell? ⟨w.heap.size, 1, none⟩ = some (.int .i64 (f 1)) := (p.below h1 p.lt).cellIs (qfn_get _ (by omega)); go_simp; exact ⟨rfl, Below.refl _ _⟩) ?_
          simp only [Act.put, List.setIfInBounds_toArray, List.set_cons_zero, List.set_cons_succ]
          refine wpY_takeB 19 (.pointer (some ⟨mb, 6, none⟩)) rfl rfl (by kernel_rfl) (fun w1 => by go_simp; exact ⟨rfl, Below.refl _ _⟩) ?_
          simp only [Act.put, List.setIfInBounds_toArray, List.set_cons_zero, List.set_cons_succ]
          refine wpY_allocs 6 14 rfl rfl rfl rfl (by decide) (by kernel_rfl) (by kernel_rfl) (by kernel_rfl) (by decide) (alloc2 (n0 := 2 * f 3) (n1 := 2 * f 0) rfl rfl rfl Try.underlying116 (by kernel_rfl) (by kernel_rfl)) (alloc2 (n0 := f 2) (n1 := f 1) rfl rfl rfl Try.underlying116 (by kernel_rfl) (by kernel_rfl)) (fun u => alloc2 (n0 := 2 * f 3) (n1 := 2 * f 0) rfl rfl rfl Try.underlying116 (by kernel_rfl) (by kernel_rfl)) (fun u => alloc2 (n0 := f 2) (n1 := f 1) rfl rfl rfl Try.underlying116 (by kernel_rfl) (by kernel_rfl)) (fun b1 b2 w4 hm n1 n2 => ?_)
          simp only [Act.put, List.setIfInBounds_toArray, List.set_cons_zero, List.set_cons_succ]
          refine wpY_takeA 15 (.tuple #[.int .i64 (X 7), .int .i64 0]) rfl rfl (by kernel_rfl) (by kernel_rfl) (fun w1 h1 => ?_) ?_
          · go_simp
            refine (D7.out _ _ _ (n1.below h1 n1.lt) (n2.below h1 n2.lt)).mono ?_
            rintro e w5 ⟨rfl, h5⟩
            exact ⟨rfl, h5⟩
          simp only [Act.put, List.setIfInBounds_toArray, List.set_cons_zero, List.set_cons_succ]
          refine wpY_takeB 16 (.tuple #[.int .i64 (X 7), .int .i64 0]) rfl rfl (by kernel_rfl) (fun w1 => by go_simp; exact ⟨rfl, Below.refl _ _⟩) ?_
          simp only [Act.put, List.setIfInBounds_toArray, List.set_cons_zero, List.set_cons_succ]
          refine wpY_takeB 17 (.int .i64 (X 7)) rfl rfl (by kernel_rfl) (fun w1 => by go_simp; exact ⟨rfl, Below.refl _ _⟩) ?_
          simp only [Act.put, List.setIfInBounds_toArray, List.set_cons_zero, List.set_cons_succ]
          refine wpY_takeB 18 (.int .i64 0) rfl rfl (by kernel_rfl) (fun w1 => by go_simp; exact ⟨rfl, Below.refl _ _⟩) ?_
          simp only [Act.put, List.setIfInBounds_toArray, List.set_cons_zero, List.set_cons_succ]
          refine wpY_takeB 20 (.pointer (some ⟨mb, 7, none⟩)) rfl rfl (by kernel_rfl) (fun w1 => by go_simp; exact ⟨rfl, Below.refl _ _⟩) ?_
          simp only [Act.put, List.setIfInBounds_toArray, List.set_cons_zero, List.set_cons_succ]
          refine wpY_one rfl rfl (by kernel_rfl) (fun w6 h6 => ?_)
          replace hm := More.trans hm h6
          replace p := p.below hm p.lt
          replace r := r.below hm r.lt
          replace m := m.below hm m.lt
          replace hB := hB.trans (hm.mono hB.size)
          clear hm h6 n1 n2
          have fz : w6.frozen? ⟨mb, 7, none⟩ = false := m.free _
          have cz : w6.cell? ⟨mb, 7, none⟩ = some (.int .i64 (mpre X 7 7)) := m.cellIs (mfn_get _ (by omega))
          go_simp
          replace p := p.setOther (a := ⟨mb, 7, none⟩) (by simp; omega) (.int .i64 (X 7))
          replace r := r.setOther (a := ⟨mb, 7, none⟩) (by simp; omega) (.int .i64 (X 7))
          replace m : blk (w6.setCell ⟨mb, 7, none⟩ (.int .i64 (X 7))) mb (mfn (mpre X 8)) 105 := m.set' (mfn_set (by omega) (by simp [mpre]) (by intro j hj hne; exact mpre_step hne))
          replace hB := hB.setCell (p := ⟨mb, 7, none⟩) (by simp; omega) (.int .i64 (X 7))
          clear fz cz
          generalize w6.setCell ⟨mb, 7, none⟩ (.int .i64 (X 7)) = w7 at *
          refine wpY_end (by kernel_rfl) (fun w8 h8 => ?_)
          replace p := p.below h8 p.lt
          replace r := r.below h8 r.lt
          replace m := m.below h8 m.lt
          replace hB := hB.trans (h8.mono hB.size)
          clear h8
          go_wp2_with (fail)
          go_roundw
          case rel => exact ⟨2, by omega, by omega, rfl, p, r, m, hB⟩
          case measure => simp [intOf]
        · go_upto_region 11 with (fail)
          refine wp_region_X 9 (by kernel_rfl) (by kernel_rfl) ?_
          replace p := p.drew
          replace r := r.drew
          replace m := m.drew
          replace hB : Below w.heap.size w wr.drew := hB.drew
          generalize wr.drew = wd at *
          refine wpX_take 0 (.int .i64 2) rfl rfl (by kernel_rfl) (fun w1 h1 => by go_simp; exact ⟨rfl, Below.refl _ _⟩) ?_
          simp only [Act.put, List.setIfInBounds_toArray, List.set_cons_zero, List.set_cons_succ]
          refine wpX_take 1 (.int .i64 3) rfl rfl (by kernel_rfl) (fun w1 h1 => by go_simp; exact ⟨rfl, Below.refl _ _⟩) ?_
          simp only [Act.put, List.setIfInBounds_toArray, List.set_cons_zero, List.set_cons_succ]
          refine wpX_take 2 (.pointer (some ⟨w.heap.size, 3, none⟩)) rfl rfl (by kernel_rfl) (fun w1 h1 => by go_simp; exact ⟨rfl, Below.refl _ _⟩) ?_
          simp only [Act.put, List.setIfInBounds_toArray, List.set_cons_zero, List.set_cons_succ]
          refine wpX_take 3 (.int .i64 (f 3)) rfl rfl (by kernel_rfl) (fun w1 h1 => by have hc : w1.cell? ⟨w.heap.size, 3, none⟩ = some (.int .i64 (f 3)) := (p.below h1 p.lt).cellIs (qfn_get _ (by omega)); go_simp; exact ⟨rfl, Below.refl _ _⟩) ?_
          simp only [Act.put, List.setIfInBounds_toArray, List.set_cons_zero, List.set_cons_succ]
          refine wpX_take 4 (.int .i64 2) rfl rfl (by kernel_rfl) (fun w1 h1 => by go_simp; exact ⟨rfl, Below.refl _ _⟩) ?_
          simp only [Act.put, List.setIfInBounds_toArray, List.set_cons_zero, List.set_cons_succ]
          refine wpX_take 5 (.int .i64 3) rfl rfl (by kernel_rfl) (fun w1 h1 => by go_simp; exact ⟨rfl, Below.refl _ _⟩) ?_
          simp only [Act.put, List.setIfInBounds_toArray, List.set_cons_zero, List.set_cons_succ]
          refine wpX_take 6 (.pointer (some ⟨w.heap.size, 3, none⟩)) rfl rfl (by kernel_rfl) (fun w1 h1 => by go_simp; exact ⟨rfl, Below.refl _ _⟩) ?_
          simp only [Act.put, List.setIfInBounds_toArray, List.set_cons_zero, List.set_cons_succ]
          refine wpX_take 7 (.int .i64 (f 3)) rfl rfl (by kernel_rfl) (fun w1 h1 => by have hc : w1.cell? ⟨w.heap.size, 3, none⟩ = some (.int .i64 (f 3)) := (p.below h1 p.lt).cellIs (qfn_get _ (by omega)); go_simp; exact ⟨rfl, Below.refl _ _⟩) ?_
          simp only [Act.put, List.setIfInBounds_toArray, List.set_cons_zero, List.set_cons_succ]
          refine wpX_take 8 (.int .i64 (f 3)) rfl rfl (by kernel_rfl) (fun w1 h1 => by go_simp; exact ⟨rfl, Below.refl _ _⟩) ?_
          simp only [Act.put, List.setIfInBounds_toArray, List.set_cons_zero, List.set_cons_succ]
          refine wpX_tail (by kernel_rfl) (fun wt ht => ?_)
          simp only [List.drop_succ_cons, List.drop_zero]
          replace hB := hB.trans (ht.mono hB.size)
          replace p := p.below ht p.lt
          replace r := r.below ht r.lt
          replace m := m.below ht m.lt
          clear ht
          go_upto_region 15 with (fail)
          refine wp_region_X 13 (by kernel_rfl) (by kernel_rfl) ?_
          replace p := p.drew
          replace r := r.drew
          replace m := m.drew
          replace hB : Below w.heap.size w wt.drew := hB.drew
          generalize wt.drew = we at *
          refine wpX_take 0 (.int .i64 2) rfl rfl (by kernel_rfl) (fun w1 h1 => by go_simp; exact ⟨rfl, Below.refl _ _⟩) ?_
          simp only [Act.put, List.setIfInBounds_toArray, List.set_cons_zero, List.set_cons_succ]
          refine wpX_take 1 (.int .i64 3) rfl rfl (by kernel_rfl) (fun w1 h1 => by go_simp; exact ⟨rfl, Below.refl _ _⟩) ?_
          simp only [Act.put, List.setIfInBounds_toArray, List.set_cons_zero, List.set_cons_succ]
          refine wpX_take 2 (.int .i64 0) rfl rfl (by kernel_rfl) (fun w1 h1 => by go_simp; exact ⟨rfl, Below.refl _ _⟩) ?_
          simp only [Act.put, List.setIfInBounds_toArray, List.set_cons_zero, List.set_cons_succ]
          refine wpX_take 3 (.int .i64 1) rfl rfl (by kernel_rfl) (fun w1 h1 => by go_simp; exact ⟨rfl, Below.refl _ _⟩) ?_
          simp only [Act.put, List.setIfInBounds_toArray, List.set_cons_zero, List.set_cons_succ]
          refine wpX_take 4 (.pointer (some ⟨w.heap.size, 1, none⟩)) rfl rfl (by kernel_rfl) (fun w1 h1 => by go_simp; exact ⟨rfl, Below.refl _ _⟩) ?_
          simp only [Act.put, List.setIfInBounds_toArray, List.set_cons_zero, List.set_cons_succ]
          refine wpX_take 5 (.int .i64 (f 1)) rfl rfl (by kernel_rfl) (fun w1 h1 => by have hc : w1.cell? ⟨w.heap.size, 1, none⟩ = some (.int .i64 (f 1)) := (p.below h1 p.lt).cellIs (qfn_get _ (by omega)); go_simp; exact ⟨rfl, Below.refl _ _⟩) ?_
          simp only [Act.put, List.setIfInBounds_toArray, List.set_cons_zero, List.set_cons_succ]
          refine wpX_take 6 (.int .i64 2) rfl rfl (by kernel_rfl) (fun w1 h1 => by go_simp; exact ⟨rfl, Below.refl _ _⟩) ?_
          simp only [Act.put, List.setIfInBounds_toArray, List.set_cons_zero, List.set_cons_succ]
          refine wpX_take 7 (.int .i64 4) rfl rfl (by kernel_rfl) (fun w1 h1 => by go_simp; exact ⟨rfl, Below.refl _ _⟩) ?_
          simp only [Act.put, List.setIfInBounds_toArray, List.set_cons_zero, List.set_cons_succ]
          refine wpX_take 8 (.int .i64 1) rfl rfl (by kernel_rfl) (fun w1 h1 => by go_simp; exact ⟨rfl, Below.refl _ _⟩) ?_
          simp only [Act.put, List.setIfInBounds_toArray, List.set_cons_zero, List.set_cons_succ]
          refine wpX_take 9 (.int .i64 2) rfl rfl (by kernel_rfl) (fun w1 h1 => by go_simp; exact ⟨rfl, Below.refl _ _⟩) ?_
          simp only [Act.put, List.setIfInBounds_toArray, List.set_cons_zero, List.set_cons_succ]
          refine wpX_take 10 (.pointer (some ⟨w.heap.size, 2, none⟩)) rfl rfl (by kernel_rfl) (fun w1 h1 => by go_simp; exact ⟨rfl, Below.refl _ _⟩) ?_
          simp only [Act.put, List.setIfInBounds_toArray, List.set_cons_zero, List.set_cons_succ]
          refine wpX_take 11 (.int .i64 (f 2)) rfl rfl (by kernel_rfl) (fun w1 h1 => by have hc : w1.cell? ⟨w.heap.size, 2, none⟩ = some (.int .i64 (f 2)) := (p.below h1 p.lt).cellIs (qfn_get _ (by omega)); go_simp; exact ⟨rfl, Below.refl _ _⟩) ?_
          simp only [Act.put, List.setIfInBounds_toArray, List.set_cons_zero, List.set_cons_succ]
          refine wpX_take 12 (.int .i64 (f 1)) rfl rfl (by kernel_rfl) (fun w1 h1 => by go_simp; exact ⟨rfl, Below.refl _ _⟩) ?_
          simp only [Act.put, List.setIfInBounds_toArray, List.set_cons_zero, List.set_cons_succ]
          refine wpX_tail (by kernel_rfl) (fun wu ht => ?_)
          simp only [List.drop_succ_cons, List.drop_zero]
          replace hB := hB.trans (ht.mono hB.size)
          replace p := p.below ht p.lt
          replace r := r.below ht r.lt
          replace m := m.below ht m.lt
          clear ht
          go_upto_region 16 with (fail)
          refine wp_region_Y 20 21 rfl (by kernel_rfl) ?_
          replace p := p.drew
          replace r := r.drew
          replace m := m.drew
          replace hB : Below w.heap.size w wu.drew := hB.drew
          generalize wu.drew = wo2 at *
          refine wpY_takeB 0 (.int .i64 2) rfl rfl (by kernel_rfl) (fun w1 => by go_simp; exact ⟨rfl, Below.refl _ _⟩) ?_
          simp only [Act.put, List.setIfInBounds_toArray, List.set_cons_zero, List.set_cons_succ]
          refine wpY_takeB 1 (.int .i64 2) rfl rfl (by kernel_rfl) (fun w1 => by go_simp; exact ⟨rfl, Below.refl _ _⟩) ?_
          simp only [Act.put, List.setIfInBounds_toArray, List.set_cons_zero, List.set_cons_succ]
          refine wpY_takeB 2 (.int .i64 (f 0)) rfl rfl (by kernel_rfl) (fun w1 => by go_simp; exact ⟨rfl, Below.refl _ _⟩) ?_
          simp only [Act.put, List.setIfInBounds_toArray, List.set_cons_zero, List.set_cons_succ]
          refine wpY_takeB 3 (.int .i64 (f 3)) rfl rfl (by kernel_rfl) (fun w1 => by go_simp; exact ⟨rfl, Below.refl _ _⟩) ?_
          simp only [Act.put, List.setIfInBounds_toArray, List.set_cons_zero, List.set_cons_succ]
          refine wpY_takeB 4 (.int .i64 (f 1)) rfl rfl (by kernel_rfl) (fun w1 => by go_simp; exact ⟨rfl, Below.refl _ _⟩) ?_
          simp only [Act.put, List.setIfInBounds_toArray, List.set_cons_zero, List.set_cons_succ]
          refine wpY_takeB 5 (.int .i64 (-f 1)) rfl rfl (by kernel_rfl) (fun w1 => by go_simp; exact ⟨by first | rfl | (rw [wn1]; done), Below.refl _ _⟩) ?_
          simp only [Act.put, List.setIfInBounds_toArray, List.set_cons_zero, List.set_cons_succ]
          refine wpY_takeB 6 (.int .i64 (f 2)) rfl rfl (by kernel_rfl) (fun w1 => by go_simp; exact ⟨rfl, Below.refl _ _⟩) ?_
          simp only [Act.put, List.setIfInBounds_toArray, List.set_cons_zero, List.set_cons_succ]
          refine wpY_takeB 7 (.int .i64 (-f 2)) rfl rfl (by kernel_rfl) (fun w1 => by go_simp; exact ⟨by first | rfl | (rw [wn2]; done), Below.refl _ _⟩) ?_
          simp only [Act.put, List.setIfInBounds_toArray, List.set_cons_zero, List.set_cons_succ]
          refine wpY_takeB 9 (.int .i64 (f 0)) rfl rfl (by kernel_rfl) (fun w1 => by go_simp; exact ⟨rfl, Below.refl _ _⟩) ?_
          simp only [Act.put, List.setIfInBounds_toArray, List.set_cons_zero, List.set_cons_succ]
          refine wpY_takeB 10 (.int .i64 (f 3)) rfl rfl (by kernel_rfl) (fun w1 => by go_simp; exact ⟨rfl, Below.refl _ _⟩) ?_
          simp only [Act.put, List.setIfInBounds_toArray, List.set_cons_zero, List.set_cons_succ]
          refine wpY_takeB 11 (.int .i64 (f 1)) rfl rfl (by kernel_rfl) (fun w1 => by go_simp; exact ⟨rfl, Below.refl _ _⟩) ?_
          simp only [Act.put, List.setIfInBounds_toArray, List.set_cons_zero, List.set_cons_succ]
          refine wpY_takeB 12 (.int .i64 (f 2)) rfl rfl (by kernel_rfl) (fun w1 => by go_simp; exact ⟨rfl, Below.refl _ _⟩) ?_
          simp only [Act.put, List.setIfInBounds_toArray, List.set_cons_zero, List.set_cons_succ]
          refine wpY_takeB 18 (.pointer (some ⟨mb, 6, none⟩)) rfl rfl (by kernel_rfl) (fun w1 => by go_simp; exact ⟨rfl, Below.refl _ _⟩) ?_
          simp only [Act.put, List.setIfInBounds_toArray, List.set_cons_zero, List.set_cons_succ]
          refine wpY_allocs 8 13 rfl rfl rfl rfl (by decide) (by kernel_rfl) (by kernel_rfl) (by kernel_rfl) (by decide) (alloc4 (n0 := f 0) (n1 := f 3) (n2 := -f 1) (n3 := -f 2) rfl rfl rfl rfl rfl Try.underlying116 (by kernel_rfl) (by kernel_rfl)) (alloc4 (n0 := f 0) (n1 := f 3) (n2 := f 1) (n3 := f 2) rfl rfl rfl rfl rfl Try.underlying116 (by kernel_rfl) (by kernel_rfl)) (fun u => alloc4 (n0 := f 0) (n1 := f 3) (n2 := -f 1) (n3 := -f 2) rfl rfl rfl rfl rfl Try.underlying116 (by kernel_rfl) (by kernel_rfl)) (fun u => alloc4 (n0 := f 0) (n1 := f 3) (n2 := f 1) (n3 := f 2) rfl rfl rfl rfl rfl Try.underlying116 (by kernel_rfl) (by kernel_rfl)) (fun b1 b2 w4 hm n1 n2 => ?_)
          simp only [Act.put, List.setIfInBounds_toArray, List.set_cons_zero, List.set_cons_succ]
          refine wpY_takeA 14 (.tuple #[.int .i64 (X 8), .int .i64 0]) rfl rfl (by kernel_rfl) (by kernel_rfl) (fun w1 h1 => ?_) ?_
          · go_simp
            refine (D8.out _ _ _ (n1.below h1 n1.lt) (n2.below h1 n2.lt)).mono ?_
            rintro e w5 ⟨rfl, h5⟩
            exact ⟨rfl, h5⟩
          simp only [Act.put, List.setIfInBounds_toArray, List.set_cons_zero, List.set_cons_succ]
          refine wpY_takeB 15 (.tuple #[.int .i64 (X 8), .int .i64 0]) rfl rfl (by kernel_rfl) (fun w1 => by go_simp; exact ⟨rfl, Below.refl _ _⟩) ?_
          simp only [Act.put, List.setIfInBounds_toArray, List.set_cons_zero, List.set_cons_succ]
          refine wpY_takeB 16 (.int .i64 (X 8)) rfl rfl (by kernel_rfl) (fun w1 => by go_simp; exact ⟨rfl, Below.refl _ _⟩) ?_
          simp only [Act.put, List.setIfInBounds_toArray, List.set_cons_zero, List.set_cons_succ]
          refine wpY_takeB 17 (.int .i64 0) rfl rfl (by kernel_rfl) (fun w1 => by go_simp; exact ⟨rfl, Below.refl _ _⟩) ?_
          simp only [Act.put, List.setIfInBounds_toArray, List.set_cons_zero, List.set_cons_succ]
          refine wpY_takeB 19 (.pointer (some ⟨mb, 8, none⟩)) rfl rfl (by kernel_rfl) (fun w1 => by go_simp; exact ⟨rfl, Below.refl _ _⟩) ?_
          simp only [Act.put, List.setIfInBounds_toArray, List.set_cons_zero, List.set_cons_succ]
          refine wpY_one rfl rfl (by kernel_rfl) (fun w6 h6 => ?_)
          replace hm := More.trans hm h6
          replace p := p.below hm p.lt
          replace r := r.below hm r.lt
          replace m := m.below hm m.lt
          replace hB := hB.trans (hm.mono hB.size)
          clear hm h6 n1 n2
          have fz : w6.frozen? ⟨mb, 8, none⟩ = false := m.free _
          have cz : w6.cell? ⟨mb, 8, none⟩ = some (.int .i64 (mpre X 8 8)) := m.cellIs (mfn_get _ (by omega))
          go_simp
          replace p := p.setOther (a := ⟨mb, 8, none⟩) (by simp; omega) (.int .i64 (X 8))
          replace r := r.setOther (a := ⟨mb, 8, none⟩) (by simp; omega) (.int .i64 (X 8))
          replace m : blk (w6.setCell ⟨mb, 8, none⟩ (.int .i64 (X 8))) mb (mfn (mpre X 9)) 105 := m.set' (mfn_set (by omega) (by simp [mpre]) (by intro j hj hne; exact mpre_step hne))
          replace hB := hB.setCell (p := ⟨mb, 8, none⟩) (by simp; omega) (.int .i64 (X 8))
          clear fz cz
          generalize w6.setCell ⟨mb, 8, none⟩ (.int .i64 (X 8)) = w7 at *
          refine wpY_end (by kernel_rfl) (fun w8 h8 => ?_)
          replace p := p.below h8 p.lt
          replace r := r.below h8 r.lt
          replace m := m.below h8 m.lt
          replace hB := hB.trans (h8.mono hB.size)
          clear h8
          go_wp2_with (fail)
          go_roundw
          case rel => exact ⟨3, by omega, by omega, rfl, p, r, m, hB⟩
          case measure => simp [intOf]
        · go_wp2_with (fail)
          go_roundw
          case rel => exact ⟨3, by omega, by omega, rfl, p, r, m, hB⟩
          case measure => simp [intOf]
    · have e9 : mfn (mpre X (3 * (3 : Int).toNat)) = mfn X := mfn_congr fun j hj => by simp [mpre, hj]
      rw [e9] at m
      go_wp2_with (first | (refine wpList_load_rowG ?hw _ _ rfl _ rfl _ _ _ _ m Try.underlying105 rfl ?hi ?_; (case hw => (first | rfl | (simp [Region.wanted, yielded]; done))); (case hi => (rw [mfn_size]; kernel_rfl))) | (refine wpList_store_row rfl _ _ _ rfl _ rfl _ rfl _ _ r (by rw [mfn_size]; kernel_rfl) (by simp only [mfn_size]) (mfn_one _) ?_))
      refine bodyPost_ret (results_vec rfl _ _ _ _ _ _ _ rfl (r.row (mfn X)) Try.underlying105 rfl (by rw [mfn_size]; kernel_rfl)) rfl ?_; refine ⟨?_, Below.setRow hB (by omega) _⟩
      rfl
end Go.Proofs.Ytjnocbjngojigaa
