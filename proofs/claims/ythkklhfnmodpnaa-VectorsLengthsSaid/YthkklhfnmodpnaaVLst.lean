/-
  Shortened vectors, in the package: the least integer that is not below a norm.
-/
import Derived.Test.YthkklhfnmodpnaaVLim
set_option linter.unusedSimpArgs false
set_option linter.unusedVariables false
namespace Go.Proofs.Ythkklhfnmodpnaa
open Go.RowKit PM Dt
def sq3 (f : Nat → Int) : Nat := sqs [f 0, f 1, f 2]
def lstN (f : Nat → Int) : Nat := isqrt (sq3 f)
/-- The least integer that is not below the norm. -/
def lst (f : Nat → Int) : Nat := lstN f + if sq3 f = lstN f * lstN f then 0 else 1
theorem ok_sq {f : Nat → Int} (h : okV f = true) : sq3 f ≤ 3626777458843887524118528 := by
  have q : ∀ i, i < 3 → f i * f i ≤ 1208925819614629174706176 := fun i hi => by
    have hh := (vb_iff _).1 ((okV_iff f).1 h i hi)
    exact (bmul (P := 1099511627776) (R := 1099511627776) hh.1 hh.2 hh.1 hh.2).2
  have e := sqs3_i f
  have q0 := q 0 (by omega)
  have q1 := q 1 (by omega)
  have q2 := q 2 (by omega)
  unfold sq3
  omega
theorem lstN_spec {f : Nat → Int} (h : okV f = true) : lstN f * lstN f ≤ sq3 f ∧ sq3 f < (lstN f + 1) * (lstN f + 1) ∧ lstN f < 2199023255552 := by
  have hS := ok_sq h
  unfold lstN
  generalize sq3 f = S at *
  have h4 : S < 4 ^ 200 := Nat.lt_of_le_of_lt hS (by decide)
  exact ⟨(isqrt_ge h4).1 (Nat.le_refl _), (isqrt_lt h4).1 (Nat.lt_succ_self _), (isqrt_lt h4).2 (by omega)⟩
theorem lst_above {f : Nat → Int} (h : okV f = true) (m : Nat) : m < lst f ↔ m * m < sq3 f := by
  obtain ⟨h1, h2, h3⟩ := lstN_spec h
  unfold lst
  generalize lstN f = N at *
  generalize sq3 f = S at *
  have key : ∀ a b : Nat, a ≤ b → a * a ≤ b * b := fun a b h => Nat.mul_le_mul h h
  split
  · rename_i he
    constructor
    · intro hm
      have : (m + 1) * (m + 1) ≤ N * N := key _ _ (by omega)
      have e : (m + 1) * (m + 1) = m * m + 2 * m + 1 := by rw [Nat.add_mul, Nat.mul_add]; omega
      omega
    · intro hm
      apply Classical.byContradiction; intro hc
      have := key N m (by omega)
      omega
  · rename_i hne
    constructor
    · intro hm
      have := key m N (by omega)
      omega
    · intro hm
      apply Classical.byContradiction; intro hc
      have := key (N + 1) m (by omega)
      omega
theorem lst_small {f : Nat → Int} (h : okV f = true) : lst f ≤ 2199023255552 := by
  obtain ⟨_, _, h3⟩ := lstN_spec h
  unfold lst; split <;> omega
theorem lst_fit {f : Nat → Int} (h : okV f = true) : fitV (n3 f) = (lstN f : Int) := by
  obtain ⟨_, _, h3⟩ := lstN_spec h
  exact (fit_of (q := n3 f) (by unfold n3 hypQ; show _ ≤ ((lstN f : Nat) : Int); omega) (by unfold n3 hypQ; show ((lstN f : Nat) : Int) ≤ _; omega)).1
theorem lst_part {f : Nat → Int} (h : okV f = true) (i : Nat) (hi : i < 3) : (f i).natAbs ≤ lst f := by
  apply Classical.byContradiction; intro hc
  have h1 : ¬ ((lst f) * (lst f) < sq3 f) := fun hh => Nat.lt_irrefl _ ((lst_above h _).2 hh)
  have e := sqs3_i f
  have h2 : (lst f + 1) * (lst f + 1) ≤ (f i).natAbs * (f i).natAbs := Nat.mul_le_mul (by omega) (by omega)
  have h3 : (lst f + 1) * (lst f + 1) = lst f * lst f + 2 * lst f + 1 := by rw [Nat.add_mul, Nat.mul_add]; omega
  have h4 : (f i).natAbs * (f i).natAbs ≤ sq3 f := by
    unfold sq3
    rw [sqs_cons, sqs_cons, sqs_cons, sqs_nil]
    have : i = 0 ∨ i = 1 ∨ i = 2 := by omega
    rcases this with rfl | rfl | rfl <;> omega
  omega
theorem wpList_build1 {P : Program} {ops : Array Oper} {rest : List Oper} {o : Oper} {a : Act} {w : World} {Q : Exit → Act → World → Prop} (hg : o.guard = none) {t e : TypeId} {x0 : Operand} (ho : o.op = .buildSlice t 1 #[(0, x0)])
    {n0 : Int} (h0 : a.eval x0 = .int .i64 n0)
    (hu : P.underlying t = some (.slice e)) (hsz : (P.info? e).map (·.size) = some 1) (hz : ((P.info? e).bind (·.zero)).isSome = true)
    (h : ∀ b w', More w w' → blk w' b #[.int .i64 n0] e → wpList P ops Q rest (a.put o.dst (.slice (some ⟨b, 0, none⟩) 1 1)) w') : wpList P ops Q (o :: rest) a w :=
  wpList_buildI hg t e 1 _ ho [n0] hu hsz hz rfl (by omega) (by decide) (by simp [h0]) h
theorem ints1 {w : World} {b : Nat} {x : Int} {t : TypeId} (h : blk w b #[.int .i64 x] t) : Ints w (.slice (some ⟨b, 0, none⟩) 1 1) [x] :=
  Or.inr ⟨by simp, b, 0, 1, rfl, h.lt, fun k hk => by
    have hk : k < 1 := hk
    obtain rfl : k = 0 := by omega
    exact h.cellIs rfl⟩
theorem square3_any (f : Nat → Int) (b : Nat) (t : TypeId) (w : World) (h : okV f = true) (p : blk w b (vfn f) t) :
    Calls Try.prog 116 #[.slice (some ⟨b, 0, none⟩) 3 3] w fun e w' => e = .returned (.tuple #[.int .u64 ((sq3 f / 18446744073709551616 : Nat) : Int), .int .u64 ((sq3 f % 18446744073709551616 : Nat) : Int)]) ∧ w = w' :=
  square_any [f 0, f 1, f 2] _ w (ints3 p) (fun k hk => by
    have hk : k < 3 := hk
    have q := fun i hi => (vb_iff _).1 ((okV_iff f).1 h i hi)
    have : k = 0 ∨ k = 1 ∨ k = 2 := by omega
    rcases this with rfl | rfl | rfl
    · have := q 0 (by omega); exact ⟨by show _ ≤ f 0; omega, by show f 0 ≤ _; omega⟩
    · have := q 1 (by omega); exact ⟨by show _ ≤ f 1; omega, by show f 1 ≤ _; omega⟩
    · have := q 2 (by omega); exact ⟨by show _ ≤ f 2; omega, by show f 2 ≤ _; omega⟩) (by show 3 ≤ 3; omega)
theorem square1_any (n : Nat) (b : Nat) (t : TypeId) (w : World) (h : n < 2199023255552) (p : blk w b #[.int .i64 (n : Int)] t) :
    Calls Try.prog 116 #[.slice (some ⟨b, 0, none⟩) 1 1] w fun e w' => e = .returned (.tuple #[.int .u64 ((n * n / 18446744073709551616 : Nat) : Int), .int .u64 ((n * n % 18446744073709551616 : Nat) : Int)]) ∧ w = w' :=
  (square_any [(n : Int)] _ w (ints1 p) (fun k hk => by
    have hk : k < 1 := hk
    obtain rfl : k = 0 := by omega
    exact ⟨by show _ ≤ (n : Int); omega, by show (n : Int) ≤ _; omega⟩) (by show 1 ≤ 3; omega)).mono fun e w' hh => by
      rw [sqs_cons, sqs_nil] at hh
      simpa using hh
set_option maxRecDepth 100000 in
set_option maxHeartbeats 1000000 in
theorem vleast_any (f : Nat → Int) (w : World) (hk : okV f = true) : Calls Try.prog 89 #[.agg (vfn f)] w fun e w' => e = .returned (.int .i64 (lst f : Int)) ∧ Below w.heap.size w w' := by
  have HH := Lib.hid (fun b w p => hyp3_any f b w 23 (okV_I hk) p)
  have S3 := Lib.hid (fun b w p => square3_any f b 23 w hk p)
  obtain ⟨_, _, hn⟩ := lstN_spec hk
  rw [lst_fit hk] at HH
  have HN := Lib.hid hn
  obtain ⟨L, hL⟩ : ∃ L, lst f = L := ⟨_, rfl⟩
  rw [hL]
  unfold lst at hL
  have HL := Lib.hid hL
  clear hk hn hL
  generalize fitE (n3 f) = E at *
  generalize lstN f = N at *
  generalize sq3 f = S at *
  have S1 := Lib.hid (fun b w p => square1_any N b 2 w HN.out p)
  obtain ⟨sh, hsh⟩ : ∃ x, S / 18446744073709551616 = x := ⟨_, rfl⟩
  obtain ⟨sl, hsl⟩ : ∃ x, S % 18446744073709551616 = x := ⟨_, rfl⟩
  obtain ⟨nh, hnh⟩ : ∃ x, N * N / 18446744073709551616 = x := ⟨_, rfl⟩
  obtain ⟨nl, hnl⟩ : ∃ x, N * N % 18446744073709551616 = x := ⟨_, rfl⟩
  have hiff : S = N * N ↔ sh = nh ∧ sl = nl := by omega
  rw [hsh, hsl] at S3
  rw [hnh, hnl] at S1
  have HE := Lib.hid hiff
  clear hsh hsl hnh hnl hiff
  go_enter Try.func89, Try.ntmps89
  go_upto_region 1 with (fail)
  have p : blk (w.alloc (.cells (vfn f) 23)) w.heap.size (vfn f) 23 := blk.new _ _ _
  have hB : Below w.heap.size w (w.alloc (.cells (vfn f) 23)) := by go_grown
  generalize w.alloc (.cells (vfn f) 23) = w0 at *
  go_upto_region 2 with (go_at_call 75; refine (HH.out _ _ p).mono ?_; rintro e w1 ⟨rfl, rfl⟩)
  go_upto_region 3 with (go_at_call 116; refine (S3.out _ _ p).mono ?_; rintro e w1 ⟨rfl, rfl⟩)
  go_upto_region 4 with (first | (refine wpList_build1 (n0 := (N : Int)) rfl rfl rfl Try.underlying57 (by kernel_rfl) (by kernel_rfl) (fun b1 wn hm n1 => ?_); replace hB := hB.trans (hm.mono hB.size)) | (go_at_call 116; refine (S1.out _ _ n1).mono ?_; rintro e w1 ⟨rfl, rfl⟩))
  have hw : IntKind.i64.wrap ((N : Int) + 1) = ((N + 1 : Nat) : Int) := by have := HN.out; rw [IntKind.wrap_i64]; omega
  by_cases d1 : nh = sh
  · by_cases d2 : nl = sl
    · subst d1 d2
      go_wp2_with (fail)
      go_ret
      refine ⟨?_, hB⟩
      rw [← HL.out, if_pos (HE.out.2 (by simp))]; rfl
    · subst d1
      have e2 : ((nl : Int) != (sl : Int)) = true := by simpa using (by omega : ¬ (nl : Int) = (sl : Int))
      have e3 : ((nl : Int) == (sl : Int)) = false := by simpa using (by omega : ¬ (nl : Int) = (sl : Int))
      go_wp2_with (fail)
      go_ret
      refine ⟨?_, hB⟩
      rw [← HL.out, if_neg (fun h => d2 (HE.out.1 h).2.symm)]; rfl
  · have e2 : ((nh : Int) != (sh : Int)) = true := by simpa using (by omega : ¬ (nh : Int) = (sh : Int))
    have e3 : ((nh : Int) == (sh : Int)) = false := by simpa using (by omega : ¬ (nh : Int) = (sh : Int))
    go_wp2_with (fail)
    go_ret
    refine ⟨?_, hB⟩
    rw [← HL.out, if_neg (fun h => d1 (HE.out.1 h).1.symm)]; rfl
end Go.Proofs.Ythkklhfnmodpnaa
