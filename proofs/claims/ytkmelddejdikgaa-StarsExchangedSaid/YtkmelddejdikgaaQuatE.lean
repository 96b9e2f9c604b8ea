/-
  The matrix of a quaternion, in the package.
-/
import Derived.Test.YtkmelddejdikgaaQuatD
import Derived.Test.YtkmelddejdikgaaVecO
import Derived.Test.YtkmelddejdikgaaBase
import Derived.Test.YtkmelddejdikgaaQEq
set_option linter.unusedSimpArgs false
set_option linter.unusedVariables false
namespace Go.Proofs.Ytkmelddejdikgaa
open Go.RowKit PM Dt
/-- Is a number at most 2^41 in absolute value? -/
abbrev Wd (a : Int) : Prop := -2199023255552 ≤ a ∧ a ≤ 2199023255552
theorem Wd.I {a : Int} (h : Wd a) : I64 a := ⟨by have := h.1; omega, by have := h.2; omega⟩
theorem wd_prod {a b : Int} (ha : Wd a) (hb : Wd b) : -4835703278458516698824704 ≤ a * b ∧ a * b ≤ 4835703278458516698824704 :=
  bmul (P := 2199023255552) (R := 2199023255552) ha.1 ha.2 hb.1 hb.2
theorem list_W4 {a b c d : Int} (ha : Wd a) (hb : Wd b) (hc : Wd c) (hd : Wd d) : ∀ k, k < [a, b, c, d].length → I64 ([a, b, c, d].getD k 0) := by
  intro k hk
  rcases k with _ | _ | _ | _ | k
  · exact ha.I
  · exact hb.I
  · exact hc.I
  · exact hd.I
  · simp at hk; omega
theorem intsW4 {w : World} {b : Nat} {a0 a1 a2 a3 : Int} {t : TypeId} (h : blk w b #[.int .i64 a0, .int .i64 a1, .int .i64 a2, .int .i64 a3] t) : Ints w (.slice (some ⟨b, 0, none⟩) 4 4) [a0, a1, a2, a3] :=
  Or.inr ⟨by simp, b, 0, 4, rfl, h.lt, fun k hk => by
    rcases k with _ | _ | _ | _ | k
    · exact h.cellIs rfl
    · exact h.cellIs rfl
    · exact h.cellIs rfl
    · exact h.cellIs rfl
    · simp at hk; omega⟩
theorem fit4 {a0 a1 a2 a3 b0 b1 b2 b3 : Int} (ha0 : Wd a0) (ha1 : Wd a1) (ha2 : Wd a2) (ha3 : Wd a3) (hb0 : Wd b0) (hb1 : Wd b1) (hb2 : Wd b2) (hb3 : Wd b3) :
    dotV [a0, a1, a2, a3] [b0, b1, b2, b3] = rnd (dotS [a0, a1, a2, a3] [b0, b1, b2, b3]) ∧ dotE [a0, a1, a2, a3] [b0, b1, b2, b3] = 0 := by
  have p0 := wd_prod ha0 hb0
  have p1 := wd_prod ha1 hb1
  have p2 := wd_prod ha2 hb2
  have p3 := wd_prod ha3 hb3
  have e : dotS [a0, a1, a2, a3] [b0, b1, b2, b3] = a0 * b0 + (a1 * b1 + (a2 * b2 + (a3 * b3 + 0))) := by rw [dotS_cons, dotS_cons, dotS_cons, dotS_cons, dotS_nil]
  have := dotOK (S := dotS [a0, a1, a2, a3] [b0, b1, b2, b3]) (by rw [e]; omega) (by rw [e]; omega)
  unfold dotV dotE
  rw [if_neg (by simp), if_neg (by simp)]
  exact this
theorem fit2 {a0 a1 b0 b1 : Int} (ha0 : Wd a0) (ha1 : Wd a1) (hb0 : Wd b0) (hb1 : Wd b1) :
    dotV [a0, a1] [b0, b1] = rnd (dotS [a0, a1] [b0, b1]) ∧ dotE [a0, a1] [b0, b1] = 0 := by
  have p0 := wd_prod ha0 hb0
  have p1 := wd_prod ha1 hb1
  have e : dotS [a0, a1] [b0, b1] = a0 * b0 + (a1 * b1 + 0) := by rw [dotS_cons, dotS_cons, dotS_nil]
  have := dotOK (S := dotS [a0, a1] [b0, b1]) (by rw [e]; omega) (by rw [e]; omega)
  unfold dotV dotE
  rw [if_neg (by simp), if_neg (by simp)]
  exact this
theorem dq4 {a0 a1 a2 a3 b0 b1 b2 b3 : Int} (ha0 : Wd a0) (ha1 : Wd a1) (ha2 : Wd a2) (ha3 : Wd a3) (hb0 : Wd b0) (hb1 : Wd b1) (hb2 : Wd b2) (hb3 : Wd b3) (X : Int) (hX : rnd (dotS [a0, a1, a2, a3] [b0, b1, b2, b3]) = X) (x y : Nat) (w : World) (t : TypeId)
    (p : blk w x #[.int .i64 a0, .int .i64 a1, .int .i64 a2, .int .i64 a3] t) (q : blk w y #[.int .i64 b0, .int .i64 b1, .int .i64 b2, .int .i64 b3] t) :
    Calls Try.prog 60 #[.slice (some ⟨x, 0, none⟩) 4 4, .slice (some ⟨y, 0, none⟩) 4 4] w fun e w' => e = .returned (.tuple #[.int .i64 X, .int .i64 0]) ∧ Below w.heap.size w w' :=
  (dot_any [a0, a1, a2, a3] [b0, b1, b2, b3] _ _ w (intsW4 p) (intsW4 q) (list_W4 ha0 ha1 ha2 ha3) (list_W4 hb0 hb1 hb2 hb3)).mono fun e w' h => ⟨h.1.trans (by rw [(fit4 ha0 ha1 ha2 ha3 hb0 hb1 hb2 hb3).1, (fit4 ha0 ha1 ha2 ha3 hb0 hb1 hb2 hb3).2, hX]), h.2⟩
theorem dq2 {a0 a1 b0 b1 : Int} (ha0 : Wd a0) (ha1 : Wd a1) (hb0 : Wd b0) (hb1 : Wd b1) (X : Int) (hX : rnd (dotS [a0, a1] [b0, b1]) = X) (x y : Nat) (w : World) (t : TypeId)
    (p : blk w x #[.int .i64 a0, .int .i64 a1] t) (q : blk w y #[.int .i64 b0, .int .i64 b1] t) :
    Calls Try.prog 60 #[.slice (some ⟨x, 0, none⟩) 2 2, .slice (some ⟨y, 0, none⟩) 2 2] w fun e w' => e = .returned (.tuple #[.int .i64 X, .int .i64 0]) ∧ Below w.heap.size w w' :=
  (dot_any [a0, a1] [b0, b1] _ _ w (intsJ2 p) (intsJ2 q) (list_J2 ha0.I ha1.I) (list_J2 hb0.I hb1.I)).mono fun e w' h => ⟨h.1.trans (by rw [(fit2 ha0 ha1 hb0 hb1).1, (fit2 ha0 ha1 hb0 hb1).2, hX]), h.2⟩
/-- The entries of the matrix, as integers ahead of rounding. -/
def qent (f : Nat → Int) : Nat → Int
  | 0 => f 0 * f 0 + f 1 * f 1 - f 2 * f 2 - f 3 * f 3
  | 1 => 2 * (f 1 * f 2) - 2 * (f 0 * f 3)
  | 2 => 2 * (f 1 * f 3) + 2 * (f 0 * f 2)
  | 3 => 2 * (f 1 * f 2) + 2 * (f 0 * f 3)
  | 4 => f 0 * f 0 - f 1 * f 1 + f 2 * f 2 - f 3 * f 3
  | 5 => 2 * (f 2 * f 3) - 2 * (f 0 * f 1)
  | 6 => 2 * (f 1 * f 3) - 2 * (f 0 * f 2)
  | 7 => 2 * (f 2 * f 3) + 2 * (f 0 * f 1)
  | _ => f 0 * f 0 - f 1 * f 1 - f 2 * f 2 + f 3 * f 3
def qmatX (f : Nat → Int) (j : Nat) : Int := rnd (qent f j)
theorem ds4 (a0 a1 a2 a3 b0 b1 b2 b3 : Int) : dotS [a0, a1, a2, a3] [b0, b1, b2, b3] = a0 * b0 + (a1 * b1 + (a2 * b2 + (a3 * b3 + 0))) := by rw [dotS_cons, dotS_cons, dotS_cons, dotS_cons, dotS_nil]
theorem ds2 (a0 a1 b0 b1 : Int) : dotS [a0, a1] [b0, b1] = a0 * b0 + (a1 * b1 + 0) := by rw [dotS_cons, dotS_cons, dotS_nil]
def qmatF (f : Nat → Int) : Nat → Int := if validQ f then qmatX f else fun _ => 0
def qmatE (f : Nat → Int) : Int := if validQ f then 0 else 2
def mpre (x : Nat → Int) (n : Nat) : Nat → Int := fun j => if j < n then x j else 0
theorem mpre_step {x : Nat → Int} {k j : Nat} (h : j ≠ k) : mpre x k j = mpre x (k + 1) j := by
  have : (j < k + 1) = (j < k) := propext (by omega)
  simp only [mpre, this]
theorem pent0 (f : Nat → Int) : dotS [f 0, f 1, -f 2, -f 3] [f 0, f 1, f 2, f 3] = qent f 0 := by
  rw [ds4]; show _ = _; simp only [qent, Int.neg_mul]; omega
theorem pent1 (f : Nat → Int) : dotS [2 * f 1, -2 * f 0] [f 2, f 3] = qent f 1 := by
  rw [ds2]; show _ = _; simp only [qent, Int.mul_assoc, Int.neg_mul]
  have c1 := Int.mul_comm (f 1) (f 2)
  have c2 := Int.mul_comm (f 1) (f 3)
  have c3 := Int.mul_comm (f 2) (f 3)
  omega
theorem pent2 (f : Nat → Int) : dotS [2 * f 1, 2 * f 0] [f 3, f 2] = qent f 2 := by
  rw [ds2]; show _ = _; simp only [qent, Int.mul_assoc, Int.neg_mul]
  have c1 := Int.mul_comm (f 1) (f 2)
  have c2 := Int.mul_comm (f 1) (f 3)
  have c3 := Int.mul_comm (f 2) (f 3)
  omega
theorem pent3 (f : Nat → Int) : dotS [2 * f 2, 2 * f 0] [f 1, f 3] = qent f 3 := by
  rw [ds2]; show _ = _; simp only [qent, Int.mul_assoc, Int.neg_mul]
  have c1 := Int.mul_comm (f 1) (f 2)
  have c2 := Int.mul_comm (f 1) (f 3)
  have c3 := Int.mul_comm (f 2) (f 3)
  omega
theorem pent4 (f : Nat → Int) : dotS [f 0, f 2, -f 3, -f 1] [f 0, f 2, f 3, f 1] = qent f 4 := by
  rw [ds4]; show _ = _; simp only [qent, Int.neg_mul]; omega
theorem pent5 (f : Nat → Int) : dotS [2 * f 2, -2 * f 0] [f 3, f 1] = qent f 5 := by
  rw [ds2]; show _ = _; simp only [qent, Int.mul_assoc, Int.neg_mul]
  have c1 := Int.mul_comm (f 1) (f 2)
  have c2 := Int.mul_comm (f 1) (f 3)
  have c3 := Int.mul_comm (f 2) (f 3)
  omega
theorem pent6 (f : Nat → Int) : dotS [2 * f 3, -2 * f 0] [f 1, f 2] = qent f 6 := by
  rw [ds2]; show _ = _; simp only [qent, Int.mul_assoc, Int.neg_mul]
  have c1 := Int.mul_comm (f 1) (f 2)
  have c2 := Int.mul_comm (f 1) (f 3)
  have c3 := Int.mul_comm (f 2) (f 3)
  omega
theorem pent7 (f : Nat → Int) : dotS [2 * f 3, 2 * f 0] [f 2, f 1] = qent f 7 := by
  rw [ds2]; show _ = _; simp only [qent, Int.mul_assoc, Int.neg_mul]
  have c1 := Int.mul_comm (f 1) (f 2)
  have c2 := Int.mul_comm (f 1) (f 3)
  have c3 := Int.mul_comm (f 2) (f 3)
  omega
theorem pent8 (f : Nat → Int) : dotS [f 0, f 3, -f 1, -f 2] [f 0, f 3, f 1, f 2] = qent f 8 := by
  rw [ds4]; show _ = _; simp only [qent, Int.neg_mul]; omega
theorem wd_of {f : Nat → Int} (h : okQ f = true) {i : Nat} (hi : i < 4) : Wd (f i) ∧ Wd (-f i) ∧ Wd (2 * f i) ∧ Wd (-2 * f i) := by
  have := (vb_iff _).1 ((okQ_iff f).1 h i hi)
  unfold Wd
  omega
theorem wrap_tab : IntKind.i64.wrap 0 = 0 ∧ IntKind.i64.wrap 1 = 1 ∧ IntKind.i64.wrap 2 = 2 ∧ IntKind.i64.wrap 3 = 3 ∧ IntKind.i64.wrap 4 = 4 ∧ IntKind.i64.wrap 5 = 5 ∧ IntKind.i64.wrap 6 = 6 ∧ IntKind.i64.wrap 7 = 7 ∧ IntKind.i64.wrap 8 = 8 ∧ IntKind.i64.wrap 9 = 9 := by decide
theorem put_any {R : World → Prop} {w w6 : World} {n b r mb e K : Nat} {cp cr : Array Value} {tp tr tm : TypeId} {X : Nat → Int} {v : Int} (p : blk w6 b cp tp) (q : blk w6 r cr tr) (m : blk w6 mb (mfn (mpre X K)) tm) (hB : Below n w w6) (h1 : b ≠ mb) (h2 : r ≠ mb) (h3 : n ≤ mb) (he : e = K) (hK : K < 9) (hv : v = X e) (h : ∀ w7, blk w7 b cp tp → blk w7 r cr tr → blk w7 mb (mfn (mpre X (K + 1))) tm → Below n w w7 → R w7) : R (w6.setCell ⟨mb, e, none⟩ (.int .i64 v)) := by
  subst he
  exact h _ (p.setOther h1 _) (q.setOther h2 _) (m.set' (mfn_set hK (by simp [mpre, hv]) (fun j hj hne => mpre_step hne))) (hB.setCell h3 _)
/-- The first operation that is not taken yet, but for some. -/
def nxO (sk : List Nat) : List Bool → Nat → Option Nat
  | [], _ => none
  | true :: l, k => nxO sk l (k + 1)
  | false :: l, k => bif sk.contains k then nxO sk l (k + 1) else some k
theorem wpX_seq {P : Program} {l : List Oper} {n : Nat} {Q : Exit → Act → World → Prop} {f : Nat} {listed : Array Bool} {a : Act} {w : World} {i : Nat} (hi : nxO [] listed.toList 0 = some i) {o : Oper} (v : Value) (ho' : l[i]? = some o) (hg : o.guard = none)
    (hB : takeB l.toArray n i listed = true) (h : ∀ w1, More w w1 → DetR P (More w1) v ((execOp a.eval o).run P w1))
    (h2 : wpXI P l.toArray n Q f (listed.setIfInBounds i true) (a.put o.dst v) w) : wpXI P l.toArray n Q (f + 1) listed a w := wpX_take i v ho' hg hB h h2
theorem wpY_seqB {P : Program} (sk : List Nat) {l : List Oper} {e : Nat} {Q : Exit → Act → World → Prop} {f : Nat} {listed : Array Bool} {a : Act} {w : World} {i : Nat} (hi : nxO sk listed.toList 0 = some i) {o : Oper} (v : Value) (ho' : l[i]? = some o) (hg : o.guard = none)
    (hB : takeYB l.toArray i listed = true) (h : ∀ w1, DetR P (More w1) v ((execOp a.eval o).run P w1))
    (h2 : wpY P .any l.toArray e Q f (listed.setIfInBounds i true) (a.put o.dst v) w) : wpY P .any l.toArray e Q (f + 1) listed a w := wpY_takeB i v ho' hg hB h h2
set_option maxRecDepth 100000 in
set_option maxHeartbeats 8000000 in
theorem qmat_any (f : Nat → Int) (w : World) (hI : ∀ i, i < 4 → I64 (f i)) : Calls Try.prog 106 #[.agg (qfn f)] w fun e w' => e = .returned (.tuple #[.agg (mfn (qmatF f)), .int .i64 (qmatE f)]) ∧ Below w.heap.size w w' := by
  have V := Lib.hid (fun w => qvalid_any f w hI)
  unfold qmatF qmatE
  obtain ⟨bv, hv⟩ : ∃ b, validQ f = b := ⟨_, rfl⟩
  rw [hv] at V ⊢
  have HV := Lib.hid hv
  obtain ⟨X, hX⟩ : ∃ X, X = qmatX f := ⟨_, rfl⟩
  rw [← hX]
  have HX0 := Lib.hid hX
  clear hv hX
  go_enter Try.func106, Try.ntmps106
  go_upto_region 1 with (fail)
  rw [zero_mat]
  have p : blk ((w.alloc (.cells (qfn f) 23)).alloc (.cells (mfn fun _ => 0) 168)) w.heap.size (qfn f) 23 := (blk.new _ _ _).alloc _
  have r : blk ((w.alloc (.cells (qfn f) 23)).alloc (.cells (mfn fun _ => 0) 168)) (w.heap.size + 1) (mfn fun _ => 0) 168 := blk.new' (by simp)
  have hB : Below w.heap.size w ((w.alloc (.cells (qfn f) 23)).alloc (.cells (mfn fun _ => 0) 168)) := by go_grown
  generalize (w.alloc (.cells (qfn f) 23)).alloc (.cells (mfn fun _ => 0) 168) = w0 at *
  cases bv
  · go_wp2_with (first
      | (refine wpList_load_rowG ?hw _ _ rfl _ rfl _ _ _ _ p Try.underlying23 rfl ?hi ?_; (case hw => (first | rfl | (simp [Region.wanted, yielded]; done))); (case hi => (rw [qfn_size]; kernel_rfl)))
      | (go_at_call 33; with_reducible refine (V.out _).mono ?_; rintro e w1 ⟨rfl, hb⟩; replace hB := hB.trans (hb.mono hB.size); replace p := p.below hb p.lt; replace r := r.below hb r.lt; clear hb)
      | (rw [zero_mat]; refine wpList_store_row rfl _ _ _ rfl _ rfl _ rfl _ _ r (by rw [mfn_size]; kernel_rfl) (by simp only [mfn_size]) (mfn_one _) ?_))
    refine bodyPost_ret (results_vec rfl _ _ _ _ _ _ _ rfl (r.row (mfn (fun _ => 0))) Try.underlying168 rfl (by rw [mfn_size]; kernel_rfl)) rfl ?_; refine ⟨?_, Below.setRow hB (by omega) _⟩
    rfl
  have ho := validQ_ok hI HV.out
  have D0 : Hid (∀ x y w, blk w x #[.int .i64 (f 0), .int .i64 (f 1), .int .i64 (-f 2), .int .i64 (-f 3)] 2 → blk w y #[.int .i64 (f 0), .int .i64 (f 1), .int .i64 (f 2), .int .i64 (f 3)] 2 → Calls Try.prog 60 #[.slice (some ⟨x, 0, none⟩) 4 4, .slice (some ⟨y, 0, none⟩) 4 4] w fun e w' => e = .returned (.tuple #[.int .i64 (qmatX f 0), .int .i64 0]) ∧ Below w.heap.size w w') := fun x y w h1 h2 => dq4 (wd_of ho (i := 0) (by omega)).1 (wd_of ho (i := 1) (by omega)).1 (wd_of ho (i := 2) (by omega)).2.1 (wd_of ho (i := 3) (by omega)).2.1 (wd_of ho (i := 0) (by omega)).1 (wd_of ho (i := 1) (by omega)).1 (wd_of ho (i := 2) (by omega)).1 (wd_of ho (i := 3) (by omega)).1 (qmatX f 0) (by rw [pent0]; rfl) x y w _ h1 h2
  have D1 : Hid (∀ x y w, blk w x #[.int .i64 (2 * f 1), .int .i64 (-2 * f 0)] 2 → blk w y #[.int .i64 (f 2), .int .i64 (f 3)] 2 → Calls Try.prog 60 #[.slice (some ⟨x, 0, none⟩) 2 2, .slice (some ⟨y, 0, none⟩) 2 2] w fun e w' => e = .returned (.tuple #[.int .i64 (qmatX f 1), .int .i64 0]) ∧ Below w.heap.size w w') := fun x y w h1 h2 => dq2 (wd_of ho (i := 1) (by omega)).2.2.1 (wd_of ho (i := 0) (by omega)).2.2.2 (wd_of ho (i := 2) (by omega)).1 (wd_of ho (i := 3) (by omega)).1 (qmatX f 1) (by rw [pent1]; rfl) x y w _ h1 h2
  have D2 : Hid (∀ x y w, blk w x #[.int .i64 (2 * f 1), .int .i64 (2 * f 0)] 2 → blk w y #[.int .i64 (f 3), .int .i64 (f 2)] 2 → Calls Try.prog 60 #[.slice (some ⟨x, 0, none⟩) 2 2, .slice (some ⟨y, 0, none⟩) 2 2] w fun e w' => e = .returned (.tuple #[.int .i64 (qmatX f 2), .int .i64 0]) ∧ Below w.heap.size w w') := fun x y w h1 h2 => dq2 (wd_of ho (i := 1) (by omega)).2.2.1 (wd_of ho (i := 0) (by omega)).2.2.1 (wd_of ho (i := 3) (by omega)).1 (wd_of ho (i := 2) (by omega)).1 (qmatX f 2) (by rw [pent2]; rfl) x y w _ h1 h2
  have D3 : Hid (∀ x y w, blk w x #[.int .i64 (2 * f 2), .int .i64 (2 * f 0)] 2 → blk w y #[.int .i64 (f 1), .int .i64 (f 3)] 2 → Calls Try.prog 60 #[.slice (some ⟨x, 0, none⟩) 2 2, .slice (some ⟨y, 0, none⟩) 2 2] w fun e w' => e = .returned (.tuple #[.int .i64 (qmatX f 3), .int .i64 0]) ∧ Below w.heap.size w w') := fun x y w h1 h2 => dq2 (wd_of ho (i := 2) (by omega)).2.2.1 (wd_of ho (i := 0) (by omega)).2.2.1 (wd_of ho (i := 1) (by omega)).1 (wd_of ho (i := 3) (by omega)).1 (qmatX f 3) (by rw [pent3]; rfl) x y w _ h1 h2
  have D4 : Hid (∀ x y w, blk w x #[.int .i64 (f 0), .int .i64 (f 2), .int .i64 (-f 3), .int .i64 (-f 1)] 2 → blk w y #[.int .i64 (f 0), .int .i64 (f 2), .int .i64 (f 3), .int .i64 (f 1)] 2 → Calls Try.prog 60 #[.slice (some ⟨x, 0, none⟩) 4 4, .slice (some ⟨y, 0, none⟩) 4 4] w fun e w' => e = .returned (.tuple #[.int .i64 (qmatX f 4), .int .i64 0]) ∧ Below w.heap.size w w') := fun x y w h1 h2 => dq4 (wd_of ho (i := 0) (by omega)).1 (wd_of ho (i := 2) (by omega)).1 (wd_of ho (i := 3) (by omega)).2.1 (wd_of ho (i := 1) (by omega)).2.1 (wd_of ho (i := 0) (by omega)).1 (wd_of ho (i := 2) (by omega)).1 (wd_of ho (i := 3) (by omega)).1 (wd_of ho (i := 1) (by omega)).1 (qmatX f 4) (by rw [pent4]; rfl) x y w _ h1 h2
  have D5 : Hid (∀ x y w, blk w x #[.int .i64 (2 * f 2), .int .i64 (-2 * f 0)] 2 → blk w y #[.int .i64 (f 3), .int .i64 (f 1)] 2 → Calls Try.prog 60 #[.slice (some ⟨x, 0, none⟩) 2 2, .slice (some ⟨y, 0, none⟩) 2 2] w fun e w' => e = .returned (.tuple #[.int .i64 (qmatX f 5), .int .i64 0]) ∧ Below w.heap.size w w') := fun x y w h1 h2 => dq2 (wd_of ho (i := 2) (by omega)).2.2.1 (wd_of ho (i := 0) (by omega)).2.2.2 (wd_of ho (i := 3) (by omega)).1 (wd_of ho (i := 1) (by omega)).1 (qmatX f 5) (by rw [pent5]; rfl) x y w _ h1 h2
  have D6 : Hid (∀ x y w, blk w x #[.int .i64 (2 * f 3), .int .i64 (-2 * f 0)] 2 → blk w y #[.int .i64 (f 1), .int .i64 (f 2)] 2 → Calls Try.prog 60 #[.slice (some ⟨x, 0, none⟩) 2 2, .slice (some ⟨y, 0, none⟩) 2 2] w fun e w' => e = .returned (.tuple #[.int .i64 (qmatX f 6), .int .i64 0]) ∧ Below w.heap.size w w') := fun x y w h1 h2 => dq2 (wd_of ho (i := 3) (by omega)).2.2.1 (wd_of ho (i := 0) (by omega)).2.2.2 (wd_of ho (i := 1) (by omega)).1 (wd_of ho (i := 2) (by omega)).1 (qmatX f 6) (by rw [pent6]; rfl) x y w _ h1 h2
  have D7 : Hid (∀ x y w, blk w x #[.int .i64 (2 * f 3), .int .i64 (2 * f 0)] 2 → blk w y #[.int .i64 (f 2), .int .i64 (f 1)] 2 → Calls Try.prog 60 #[.slice (some ⟨x, 0, none⟩) 2 2, .slice (some ⟨y, 0, none⟩) 2 2] w fun e w' => e = .returned (.tuple #[.int .i64 (qmatX f 7), .int .i64 0]) ∧ Below w.heap.size w w') := fun x y w h1 h2 => dq2 (wd_of ho (i := 3) (by omega)).2.2.1 (wd_of ho (i := 0) (by omega)).2.2.1 (wd_of ho (i := 2) (by omega)).1 (wd_of ho (i := 1) (by omega)).1 (qmatX f 7) (by rw [pent7]; rfl) x y w _ h1 h2
  have D8 : Hid (∀ x y w, blk w x #[.int .i64 (f 0), .int .i64 (f 3), .int .i64 (-f 1), .int .i64 (-f 2)] 2 → blk w y #[.int .i64 (f 0), .int .i64 (f 3), .int .i64 (f 1), .int .i64 (f 2)] 2 → Calls Try.prog 60 #[.slice (some ⟨x, 0, none⟩) 4 4, .slice (some ⟨y, 0, none⟩) 4 4] w fun e w' => e = .returned (.tuple #[.int .i64 (qmatX f 8), .int .i64 0]) ∧ Below w.heap.size w w') := fun x y w h1 h2 => dq4 (wd_of ho (i := 0) (by omega)).1 (wd_of ho (i := 3) (by omega)).1 (wd_of ho (i := 1) (by omega)).2.1 (wd_of ho (i := 2) (by omega)).2.1 (wd_of ho (i := 0) (by omega)).1 (wd_of ho (i := 3) (by omega)).1 (wd_of ho (i := 1) (by omega)).1 (wd_of ho (i := 2) (by omega)).1 (qmatX f 8) (by rw [pent8]; rfl) x y w _ h1 h2
  have wn1 : IntKind.i64.wrap (-f 1) = -f 1 := by have := (vb_iff _).1 ((okQ_iff f).1 ho 1 (by omega)); rw [IntKind.wrap_i64]; omega
  have wn2 : IntKind.i64.wrap (-f 2) = -f 2 := by have := (vb_iff _).1 ((okQ_iff f).1 ho 2 (by omega)); rw [IntKind.wrap_i64]; omega
  have wn3 : IntKind.i64.wrap (-f 3) = -f 3 := by have := (vb_iff _).1 ((okQ_iff f).1 ho 3 (by omega)); rw [IntKind.wrap_i64]; omega
  have wt1 : IntKind.i64.wrap (2 * f 1) = 2 * f 1 := by have := (vb_iff _).1 ((okQ_iff f).1 ho 1 (by omega)); rw [IntKind.wrap_i64]; omega
  have wt2 : IntKind.i64.wrap (2 * f 2) = 2 * f 2 := by have := (vb_iff _).1 ((okQ_iff f).1 ho 2 (by omega)); rw [IntKind.wrap_i64]; omega
  have wt3 : IntKind.i64.wrap (2 * f 3) = 2 * f 3 := by have := (vb_iff _).1 ((okQ_iff f).1 ho 3 (by omega)); rw [IntKind.wrap_i64]; omega
  have wt0 : IntKind.i64.wrap (2 * f 0) = 2 * f 0 := by have := (vb_iff _).1 ((okQ_iff f).1 ho 0 (by omega)); rw [IntKind.wrap_i64]; omega
  have wm0 : IntKind.i64.wrap (-2 * f 0) = -2 * f 0 := by have := (vb_iff _).1 ((okQ_iff f).1 ho 0 (by omega)); rw [IntKind.wrap_i64]; omega
  rw [← HX0.out] at D0 D1 D2 D3 D4 D5 D6 D7 D8
  clear hI HV ho HX0
  go_upto_region 3 with (first
      | (refine wpList_load_rowG ?hw _ _ rfl _ rfl _ _ _ _ p Try.underlying23 rfl ?hi ?_; (case hw => (first | rfl | (simp [Region.wanted, yielded]; done))); (case hi => (rw [qfn_size]; kernel_rfl)))
      | (go_at_call 33; with_reducible refine (V.out _).mono ?_; rintro e w1 ⟨rfl, hb⟩; replace hB := hB.trans (hb.mono hB.size); replace p := p.below hb p.lt; replace r := r.below hb r.lt; clear hb))
  have a0 : w1.cell? ⟨w.heap.size, 0, none⟩ = some (.int .i64 (f 0)) := p.cellIs (qfn_get f (by omega))
  go_upto_region 5 with (fail)
  rw [zero_mat]
  have m := blk.new w1 (mfn fun _ => 0) 168
  have mb1 : w.heap.size + 1 < w1.heap.size := r.lt
  replace p := p.alloc (.cells (mfn fun _ => 0) 168)
  replace r := r.alloc (.cells (mfn fun _ => 0) 168)
  replace hB := hB.alloc hB.size (.cells (mfn fun _ => 0) 168)
  clear a0
  generalize w1.alloc (.cells (mfn fun _ => 0) 168) = w2 at *
  generalize w1.heap.size = mb at *
  go_wp2_with (fail)
  go_loopw [18] (fun iv wr => ∃ i : Int, 0 ≤ i ∧ i ≤ 3 ∧ iv = .int .i64 i ∧ blk wr w.heap.size (qfn f) 23 ∧ blk wr (w.heap.size + 1) (mfn fun _ => 0) 168 ∧ blk wr mb (mfn (mpre X (3 * i.toNat))) 168 ∧ Below w.heap.size w wr) (fun iv _ => 3 - (intOf iv).toNat)
  case atStart => exact ⟨0, by omega, by omega, rfl, p, r, by rw [show mfn (mpre X (3 * (0 : Int).toNat)) = mfn (fun _ => 0) from mfn_congr fun i _ => by simp [mpre]]; exact m, hB⟩
  case round =>
    clear p r m hB
    obtain ⟨i, hi0, hi3, rfl, p, r, m, hB⟩ := hrel
    have hcase : i = 0 ∨ i = 1 ∨ i = 2 ∨ i = 3 := by omega
    obtain ⟨I0, hI0⟩ : ∃ I0, I0 = 3 * i.toNat := ⟨_, rfl⟩
    rw [← hI0] at m
    rcases hcase with rfl | rfl | rfl | rfl
    iterate 3
      · go_wp2_with (fail)
        replace hI0 := Lib.hid hI0
        obtain ⟨wo, rfl⟩ : ∃ wo : World, wo = wr := ⟨_, rfl⟩
        go_loopw [21] (fun kv wi => ∃ k : Int, 0 ≤ k ∧ k ≤ 3 ∧ kv = .int .i64 k ∧ blk wi w.heap.size (qfn f) 23 ∧ blk wi (w.heap.size + 1) (mfn fun _ => 0) 168 ∧ blk wi mb (mfn (mpre X (I0 + k.toNat))) 168 ∧ Below w.heap.size w wi) (fun kv _ => 3 - (intOf kv).toNat)
        case atStart => exact ⟨0, by omega, by omega, rfl, p, r, m, hB⟩
        case round =>
          clear p r m hB
          obtain ⟨k, hk0, hk3, rfl, p, r, m, hB⟩ := hrel
          obtain ⟨K, hK⟩ : ∃ K, K = I0 + k.toNat := ⟨_, rfl⟩
          rw [← hK] at m
          have hcase : k = 0 ∨ k = 1 ∨ k = 2 ∨ k = 3 := by omega
          rcases hcase with rfl | rfl | rfl | rfl
          iterate 3
            · replace hK := Lib.hid hK
              go_upto_region 11 with (fail)
              refine wp_region_X 9 (by kernel_rfl) (by kernel_rfl) ?_
              replace p := p.drew
              replace r := r.drew
              replace m := m.drew
              replace hB : Below w.heap.size w wr.drew := hB.drew
              generalize wr.drew = wd at *
              have hc : ∀ w1, More wd w1 → ∀ k, k < 4 → w1.cell? ⟨w.heap.size, k, none⟩ = some (.int .i64 (f k)) := fun w1 h1 k hk => (p.below h1 p.lt).cellIs (qfn_get f hk)
              iterate 9
                refine wpX_seq rfl _ rfl rfl (by kernel_rfl) (fun w1 h1 => by have hd := hc w1 h1; have hw := wrap_tab; go_simp; exact ⟨rfl, Below.refl _ _⟩) ?_
                simp only [Act.put, List.setIfInBounds_toArray, List.set_cons_zero, List.set_cons_succ]
              refine wpX_tail (by kernel_rfl) (fun wt ht => ?_)
              simp only [List.drop_succ_cons, List.drop_zero]
              replace hB := hB.trans (ht.mono hB.size)
              replace p := p.below ht p.lt
              replace r := r.below ht r.lt
              replace m := m.below ht m.lt
              clear ht hc
              first
                | (have hd : K = 0 ∨ K = 4 ∨ K = 8 := by have := hK.out; have := hI0.out; omega
                   clear hd
                   go_upto_region 15 with (fail)
                   refine wp_region_X 13 (by kernel_rfl) (by kernel_rfl) ?_
                   replace p := p.drew
                   replace r := r.drew
                   replace m := m.drew
                   replace hB : Below w.heap.size w wt.drew := hB.drew
                   generalize wt.drew = we at *
                   have hc : ∀ w1, More we w1 → ∀ k, k < 4 → w1.cell? ⟨w.heap.size, k, none⟩ = some (.int .i64 (f k)) := fun w1 h1 k hk => (p.below h1 p.lt).cellIs (qfn_get f hk)
                   iterate 13
                     refine wpX_seq rfl _ rfl rfl (by kernel_rfl) (fun w1 h1 => by have hd := hc w1 h1; have hw := wrap_tab; go_simp; exact ⟨rfl, Below.refl _ _⟩) ?_
                     simp only [Act.put, List.setIfInBounds_toArray, List.set_cons_zero, List.set_cons_succ]
                   refine wpX_tail (by kernel_rfl) (fun wu ht => ?_)
                   simp only [List.drop_succ_cons, List.drop_zero]
                   replace hB := hB.trans (ht.mono hB.size)
                   replace p := p.below ht p.lt
                   replace r := r.below ht r.lt
                   replace m := m.below ht m.lt
                   clear ht hc
                   go_upto_region 16 with (fail)
                   refine wp_region_Y 20 21 rfl (by kernel_rfl) ?_
                   replace p := p.drew
                   replace r := r.drew
                   replace m := m.drew
                   replace hB : Below w.heap.size w wu.drew := hB.drew
                   generalize wu.drew = wo2 at *
                   iterate 13
                     refine wpY_seqB [8, 13, 14, 15, 16, 17] rfl _ rfl rfl (by kernel_rfl) (fun w1 => by have hw := wrap_tab; go_simp; (try simp only [wn1, wn2, wn3, wt0, wt1, wt2, wt3, wm0]); exact ⟨rfl, Below.refl _ _⟩) ?_
                     simp only [Act.put, List.setIfInBounds_toArray, List.set_cons_zero, List.set_cons_succ]
                   refine wpY_allocs 8 13 rfl rfl rfl rfl (by decide) (by kernel_rfl) (by kernel_rfl) (by kernel_rfl) (by decide) (alloc4 rfl rfl rfl rfl rfl Try.underlying41 (by kernel_rfl) (by kernel_rfl)) (alloc4 rfl rfl rfl rfl rfl Try.underlying41 (by kernel_rfl) (by kernel_rfl)) (fun u => alloc4 rfl rfl rfl rfl rfl Try.underlying41 (by kernel_rfl) (by kernel_rfl)) (fun u => alloc4 rfl rfl rfl rfl rfl Try.underlying41 (by kernel_rfl) (by kernel_rfl)) (fun b1 b2 w4 hm n1 n2 => ?_)
                   simp only [Act.put, List.setIfInBounds_toArray, List.set_cons_zero, List.set_cons_succ]
                   refine wpY_takeA 14 _ rfl rfl (by kernel_rfl) (by kernel_rfl) (fun w1 h1 => by go_simp; first | exact (D0.out _ _ _ (n1.below h1 n1.lt) (n2.below h1 n2.lt)).mono (fun e w5 h => ⟨h.1, h.2⟩) | exact (D4.out _ _ _ (n1.below h1 n1.lt) (n2.below h1 n2.lt)).mono (fun e w5 h => ⟨h.1, h.2⟩) | exact (D8.out _ _ _ (n1.below h1 n1.lt) (n2.below h1 n2.lt)).mono (fun e w5 h => ⟨h.1, h.2⟩)) ?_
                   simp only [Act.put, List.setIfInBounds_toArray, List.set_cons_zero, List.set_cons_succ]
                   iterate 4
                     refine wpY_seqB [] rfl _ rfl rfl (by kernel_rfl) (fun w1 => by have hw := wrap_tab; go_simp; exact ⟨rfl, Below.refl _ _⟩) ?_
                     simp only [Act.put, List.setIfInBounds_toArray, List.set_cons_zero, List.set_cons_succ]
                   refine wpY_one rfl rfl (by kernel_rfl) (fun w6 h6 => ?_))
                | (have hd : K = 1 ∨ K = 5 ∨ K = 6 := by have := hK.out; have := hI0.out; omega
                   clear hd
                   go_upto_region 18 with (fail)
                   refine wp_region_Y 21 22 rfl (by kernel_rfl) ?_
                   replace p := p.drew
                   replace r := r.drew
                   replace m := m.drew
                   replace hB : Below w.heap.size w wt.drew := hB.drew
                   generalize wt.drew = wo2 at *
                   iterate 12
                     refine wpY_seqB [6, 13, 14, 15, 16, 17, 18] rfl _ rfl rfl (by kernel_rfl) (fun w1 => by have hw := wrap_tab; go_simp; (try simp only [wn1, wn2, wn3, wt0, wt1, wt2, wt3, wm0]); exact ⟨rfl, Below.refl _ _⟩) ?_
                     simp only [Act.put, List.setIfInBounds_toArray, List.set_cons_zero, List.set_cons_succ]
                   refine wpY_takeA 13 _ rfl rfl (by kernel_rfl) (by kernel_rfl) (fun w1 h1 => by have hw := wrap_tab; have hd := fun k hk => (p.below h1 p.lt).cellIs (qfn_get (i := k) f hk); go_simp; exact ⟨rfl, Below.refl _ _⟩) ?_
                   simp only [Act.put, List.setIfInBounds_toArray, List.set_cons_zero, List.set_cons_succ]
                   iterate 1
                     refine wpY_seqB [6, 13, 14, 15, 16, 17, 18] rfl _ rfl rfl (by kernel_rfl) (fun w1 => by have hw := wrap_tab; go_simp; exact ⟨rfl, Below.refl _ _⟩) ?_
                     simp only [Act.put, List.setIfInBounds_toArray, List.set_cons_zero, List.set_cons_succ]
                   refine wpY_allocs 6 14 rfl rfl rfl rfl (by decide) (by kernel_rfl) (by kernel_rfl) (by kernel_rfl) (by decide) (alloc2 rfl rfl rfl Try.underlying41 (by kernel_rfl) (by kernel_rfl)) (alloc2 rfl rfl rfl Try.underlying41 (by kernel_rfl) (by kernel_rfl)) (fun u => alloc2 rfl rfl rfl Try.underlying41 (by kernel_rfl) (by kernel_rfl)) (fun u => alloc2 rfl rfl rfl Try.underlying41 (by kernel_rfl) (by kernel_rfl)) (fun b1 b2 w4 hm n1 n2 => ?_)
                   simp only [Act.put, List.setIfInBounds_toArray, List.set_cons_zero, List.set_cons_succ]
                   refine wpY_takeA 15 _ rfl rfl (by kernel_rfl) (by kernel_rfl) (fun w1 h1 => by go_simp; first | exact (D1.out _ _ _ (n1.below h1 n1.lt) (n2.below h1 n2.lt)).mono (fun e w5 h => ⟨h.1, h.2⟩) | exact (D5.out _ _ _ (n1.below h1 n1.lt) (n2.below h1 n2.lt)).mono (fun e w5 h => ⟨h.1, h.2⟩) | exact (D6.out _ _ _ (n1.below h1 n1.lt) (n2.below h1 n2.lt)).mono (fun e w5 h => ⟨h.1, h.2⟩)) ?_
                   simp only [Act.put, List.setIfInBounds_toArray, List.set_cons_zero, List.set_cons_succ]
                   iterate 4
                     refine wpY_seqB [] rfl _ rfl rfl (by kernel_rfl) (fun w1 => by have hw := wrap_tab; go_simp; exact ⟨rfl, Below.refl _ _⟩) ?_
                     simp only [Act.put, List.setIfInBounds_toArray, List.set_cons_zero, List.set_cons_succ]
                   refine wpY_one rfl rfl (by kernel_rfl) (fun w6 h6 => ?_))
                | (have hd : K = 2 ∨ K = 3 ∨ K = 7 := by have := hK.out; have := hI0.out; omega
                   clear hd
                   go_upto_region 13 with (fail)
                   refine wp_region_Y 21 22 rfl (by kernel_rfl) ?_
                   replace p := p.drew
                   replace r := r.drew
                   replace m := m.drew
                   replace hB : Below w.heap.size w wt.drew := hB.drew
                   generalize wt.drew = wo2 at *
                   iterate 12
                     refine wpY_seqB [6, 13, 14, 15, 16, 17, 18] rfl _ rfl rfl (by kernel_rfl) (fun w1 => by have hw := wrap_tab; go_simp; (try simp only [wn1, wn2, wn3, wt0, wt1, wt2, wt3, wm0]); exact ⟨rfl, Below.refl _ _⟩) ?_
                     simp only [Act.put, List.setIfInBounds_toArray, List.set_cons_zero, List.set_cons_succ]
                   refine wpY_takeA 13 _ rfl rfl (by kernel_rfl) (by kernel_rfl) (fun w1 h1 => by have hw := wrap_tab; have hd := fun k hk => (p.below h1 p.lt).cellIs (qfn_get (i := k) f hk); go_simp; exact ⟨rfl, Below.refl _ _⟩) ?_
                   simp only [Act.put, List.setIfInBounds_toArray, List.set_cons_zero, List.set_cons_succ]
                   iterate 1
                     refine wpY_seqB [6, 13, 14, 15, 16, 17, 18] rfl _ rfl rfl (by kernel_rfl) (fun w1 => by have hw := wrap_tab; go_simp; exact ⟨rfl, Below.refl _ _⟩) ?_
                     simp only [Act.put, List.setIfInBounds_toArray, List.set_cons_zero, List.set_cons_succ]
                   refine wpY_allocs 6 14 rfl rfl rfl rfl (by decide) (by kernel_rfl) (by kernel_rfl) (by kernel_rfl) (by decide) (alloc2 rfl rfl rfl Try.underlying41 (by kernel_rfl) (by kernel_rfl)) (alloc2 rfl rfl rfl Try.underlying41 (by kernel_rfl) (by kernel_rfl)) (fun u => alloc2 rfl rfl rfl Try.underlying41 (by kernel_rfl) (by kernel_rfl)) (fun u => alloc2 rfl rfl rfl Try.underlying41 (by kernel_rfl) (by kernel_rfl)) (fun b1 b2 w4 hm n1 n2 => ?_)
                   simp only [Act.put, List.setIfInBounds_toArray, List.set_cons_zero, List.set_cons_succ]
                   refine wpY_takeA 15 _ rfl rfl (by kernel_rfl) (by kernel_rfl) (fun w1 h1 => by go_simp; first | exact (D2.out _ _ _ (n1.below h1 n1.lt) (n2.below h1 n2.lt)).mono (fun e w5 h => ⟨h.1, h.2⟩) | exact (D3.out _ _ _ (n1.below h1 n1.lt) (n2.below h1 n2.lt)).mono (fun e w5 h => ⟨h.1, h.2⟩) | exact (D7.out _ _ _ (n1.below h1 n1.lt) (n2.below h1 n2.lt)).mono (fun e w5 h => ⟨h.1, h.2⟩)) ?_
                   simp only [Act.put, List.setIfInBounds_toArray, List.set_cons_zero, List.set_cons_succ]
                   iterate 4
                     refine wpY_seqB [] rfl _ rfl rfl (by kernel_rfl) (fun w1 => by have hw := wrap_tab; go_simp; exact ⟨rfl, Below.refl _ _⟩) ?_
                     simp only [Act.put, List.setIfInBounds_toArray, List.set_cons_zero, List.set_cons_succ]
                   refine wpY_one rfl rfl (by kernel_rfl) (fun w6 h6 => ?_))
              replace hm := More.trans hm h6
              replace p := p.below hm p.lt
              replace r := r.below hm r.lt
              replace m := m.below hm m.lt
              replace hB := hB.trans (hm.mono hB.size)
              clear hm h6 n1 n2
              have fz := fun k => m.free k
              have cz := fun k hk => m.cellIs (mfn_get (i := k) (mpre X K) hk)
              go_simp
              refine put_any p r m hB (by omega) (by omega) (by omega) (by have := hK.out; have := hI0.out; omega) (by have := hK.out; have := hI0.out; omega) rfl (fun w7 p r m hB => ?_)
              clear fz cz
              refine wpY_end (by kernel_rfl) (fun w8 h8 => ?_)
              replace p := p.below h8 p.lt
              replace r := r.below h8 r.lt
              replace m := m.below h8 m.lt
              replace hB := hB.trans (h8.mono hB.size)
              clear h8
              go_wp2_with (fail)
              go_roundw
              case rel =>
                first
                  | exact ⟨1, by omega, by omega, rfl, p, r, by rw [show I0 + (1 : Int).toNat = K + 1 from by have := hK.out; omega]; exact m, hB⟩
                  | exact ⟨2, by omega, by omega, rfl, p, r, by rw [show I0 + (2 : Int).toNat = K + 1 from by have := hK.out; omega]; exact m, hB⟩
                  | exact ⟨3, by omega, by omega, rfl, p, r, by rw [show I0 + (3 : Int).toNat = K + 1 from by have := hK.out; omega]; exact m, hB⟩
              case measure => simp [intOf]
          · have hI0 := hI0.out
            go_wp2_with (fail)
            go_roundw
            case rel =>
              first
                | exact ⟨1, by omega, by omega, rfl, p, r, by rw [show 3 * (1 : Int).toNat = K from by omega]; exact m, hB⟩
                | exact ⟨2, by omega, by omega, rfl, p, r, by rw [show 3 * (2 : Int).toNat = K from by omega]; exact m, hB⟩
                | exact ⟨3, by omega, by omega, rfl, p, r, by rw [show 3 * (3 : Int).toNat = K from by omega]; exact m, hB⟩
            case measure => simp [intOf]
    · rw [hI0] at m
      have e9 : mfn (mpre X (3 * (3 : Int).toNat)) = mfn X := mfn_congr fun j hj => by simp [mpre, hj]
      rw [e9] at m
      go_wp2_with (first | (refine wpList_load_rowG ?hw _ _ rfl _ rfl _ _ _ _ m Try.underlying168 rfl ?hi ?_; (case hw => (first | rfl | (simp [Region.wanted, yielded]; done))); (case hi => (rw [mfn_size]; kernel_rfl))) | (refine wpList_store_row rfl _ _ _ rfl _ rfl _ rfl _ _ r (by rw [mfn_size]; kernel_rfl) (by simp only [mfn_size]) (mfn_one _) ?_))
      refine bodyPost_ret (results_vec rfl _ _ _ _ _ _ _ rfl (r.row (mfn X)) Try.underlying168 rfl (by rw [mfn_size]; kernel_rfl)) rfl ?_; refine ⟨?_, Below.setRow hB (by omega) _⟩
      rfl
end Go.Proofs.Ytkmelddejdikgaa
