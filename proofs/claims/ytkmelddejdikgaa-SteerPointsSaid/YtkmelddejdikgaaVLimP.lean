/-
  Shortened vectors, in the package: sums of squares, the least integer that is not below a norm, quotients toward zero. Shortened vectors, in the package: the least integer that is not below a norm. Shortened vectors, in the package: quotients toward zero, and Limit. Shortened vectors: Limit of the package.
-/
import Derived.Test.YtkmelddejdikgaaVUnit
import Derived.Test.YtkmelddejdikgaaShift
set_option linter.unusedSimpArgs false
set_option linter.unusedVariables false
namespace Go.Proofs.Ytkmelddejdikgaa
open Go.RowKit PM Dt
theorem sqs_small : ∀ (xs : List Int), (∀ k, k < xs.length → -4398046511104 ≤ xs.getD k 0 ∧ xs.getD k 0 ≤ 4398046511104) → sqs xs ≤ xs.length * 19342813113834066795298816
  | [], _ => by rw [sqs_nil]; exact Nat.zero_le _
  | x :: xs, hi => by
    have h1 := sqs_small xs (fun i h => by have := hi (i + 1) (by simpa using h); simpa using this)
    have hx : -4398046511104 ≤ x ∧ x ≤ 4398046511104 := by have := hi 0 (by simp); simpa using this
    have h2 : x.natAbs * x.natAbs ≤ 19342813113834066795298816 := Nat.le_trans (Nat.mul_le_mul (show x.natAbs ≤ 4398046511104 by omega) (show x.natAbs ≤ 4398046511104 by omega)) (by decide)
    rw [sqs_cons, List.length_cons]
    omega
set_option maxRecDepth 100000 in
set_option maxHeartbeats 1000000 in
theorem square_any (xs : List Int) (v : Value) (w : World) (hv : Ints w v xs) (hx : ∀ k, k < xs.length → -4398046511104 ≤ xs.getD k 0 ∧ xs.getD k 0 ≤ 4398046511104) (hl : xs.length ≤ 3) :
    Calls Try.prog 194 #[v] w fun e w' => e = .returned (.tuple #[.int .u64 ((sqs xs / 18446744073709551616 : Nat) : Int), .int .u64 ((sqs xs % 18446744073709551616 : Nat) : Int)]) ∧ w = w' := by
  have hlenI : ∀ a c n, v = .slice a n c → n = xs.length := by
    rintro a c n rfl
    rcases hv with ⟨h, a', c', hh⟩ | ⟨_, b, off, cap, hh, _⟩
    · cases hh; rw [h]; rfl
    · cases hh; rfl
  obtain ⟨va, vc, n, rfl⟩ : ∃ a c n, v = .slice a n c := by
    rcases hv with ⟨h, a', c', hh⟩ | ⟨_, b, off, cap, hh, _⟩
    · exact ⟨_, _, _, hh⟩
    · exact ⟨_, _, _, hh⟩
  have hn := hlenI _ _ _ rfl
  clear hlenI
  have hT : sqs xs ≤ 58028439341502200385896448 := by have := sqs_small xs hx; omega
  have HN := Lib.hid hn
  have HV := Lib.hid hv
  have HX := Lib.hid hx
  have HTOT := Lib.hid (fun k => Nat.le_trans (sqs_take_le xs k) hT)
  have hn8 : n ≤ 3 := by omega
  clear hn hv hx hT hl
  go_enter Try.func194, Try.ntmps194
  go_wp2_with (fail)
  go_loopg [2, 3, 12] n (fun g hv lv iv wr => ∃ hi lo k : Nat, hv = .int .u64 hi ∧ lv = .int .u64 lo ∧ iv = .int .i64 k ∧ Hid (hi * 18446744073709551616 + lo = sqs (xs.take k)) ∧ Hid (lo < 18446744073709551616) ∧ g + k = n ∧ w = wr)
  case atStart => exact ⟨0, 0, 0, rfl, rfl, rfl, by show _ = _; exact sqs_nil.symm, by show _ < _; omega, by omega, rfl⟩
  case round =>
    obtain ⟨hi, lo, k, rfl, rfl, rfl, hs, hl, hk, rfl⟩ := hrel
    by_cases hkn : k < n
    · have hdk : decide ((k : Int) < (n : Int)) = true := decide_eq_true (by omega)
      have hdk' : decide (k < n) = true := decide_eq_true (by omega)
      obtain ⟨b, off, rfl, hcell⟩ : ∃ b off, va = some ⟨b, off, none⟩ ∧ w.cell? ⟨b, off + k, none⟩ = some (.int .i64 (xs.getD k 0)) := by
        rcases HV.out with ⟨h, _⟩ | ⟨_, b, off, cap, hh, _, hc⟩
        · have := HN.out; rw [h] at this; simp at this; omega
        · cases hh; exact ⟨b, off, rfl, hc k hkn⟩
      have hI := HX.out k (by have := HN.out; omega)
      have hsx := sqs_take_succ xs k (by have := HN.out; omega)
      have htot := HTOT.out (k + 1)
      obtain ⟨a, ha⟩ : ∃ a, xs.getD k 0 = a := ⟨_, rfl⟩
      rw [ha] at hsx hcell hI
      obtain ⟨A, hA⟩ : ∃ A, A = a.natAbs := ⟨_, rfl⟩
      rw [← hA] at hsx
      have hAA : A * A ≤ 19342813113834066795298816 := Nat.le_trans (Nat.mul_le_mul (show A ≤ 4398046511104 by omega) (show A ≤ 4398046511104 by omega)) (by decide)
      obtain ⟨p, hp⟩ : ∃ p, p = A * A / 18446744073709551616 := ⟨_, rfl⟩
      obtain ⟨q, hq⟩ : ∃ q, q = A * A % 18446744073709551616 := ⟨_, rfl⟩
      have hpq : p * 18446744073709551616 + q = A * A := by rw [hp, hq]; omega
      obtain ⟨r, hr⟩ : ∃ r, r = (lo + q) % 18446744073709551616 := ⟨_, rfl⟩
      obtain ⟨c, hc⟩ : ∃ c, c = (lo + q) / 18446744073709551616 := ⟨_, rfl⟩
      have hqb : q < 18446744073709551616 := by rw [hq]; omega
      have hrb : r < 18446744073709551616 := by rw [hr]; omega
      have hrc : lo + q = c * 18446744073709551616 + r := by rw [hr, hc]; omega
      have hnew : (hi + (p + c)) * 18446744073709551616 + r = sqs (xs.take (k + 1)) := hyp_step hs.out hpq hrc hsx
      have hl' := hl.out
      have hadd := add64_run lo q r c hl' hqb hrc hrb
      have hPb : hi + (p + c) ≤ 4000000 := by omega
      have hw1 : IntKind.u64.wrap ((p : Int) + (c : Int)) = ((p + c : Nat) : Int) := by rw [IntKind.wrap_u64]; omega
      have hw2 : IntKind.u64.wrap ((hi : Int) + ((p : Int) + (c : Int))) = ((hi + (p + c) : Nat) : Int) := by rw [IntKind.wrap_u64]; omega
      have hw3 : IntKind.i64.wrap ((k : Int) + 1) = ((k + 1 : Nat) : Int) := by rw [IntKind.wrap_i64]; omega
      have hwn : wrap64 (-a) = -a := by unfold wrap64; omega
      have hwA : IntKind.u64.wrap (A : Int) = (A : Int) := by rw [IntKind.wrap_u64]; omega
      have hM : Hid ([wrap64 (-a)].foldl mx a = (A : Int)) := by show _ = _; rw [hwn]; show mx a (-a) = _; unfold mx; split <;> omega
      have HA64 := Lib.hid (show A < 18446744073709551616 by omega)
      have HP := Lib.hid hp
      have HQ := Lib.hid hq
      have HR := Lib.hid (show Hid (r < 18446744073709551616) from hrb)
      have HNEW := Lib.hid hnew
      clear hpq hI hA hp hq hr hc hqb hrb hrc hl' hPb hnew htot hsx hAA hs ha hwn
      go_upto_region 4 with (fail)
      go_upto_region 5 with (refine wpList_max rfl rfl _ _ _ hM.out rfl ?_)
      go_upto_region 6 with (go_at_call 119; refine (mul64_any _ _ _ HA64.out HA64.out).mono ?_; rintro e w1 ⟨rfl, rfl⟩; rw [← HP.out, ← HQ.out])
      go_upto_region 7 with (fail)
      go_upto_region 8 with (simp only [hadd])
      go_upto_region 9 with (fail)
      go_wp2_with (fail)
      go_roundg (n - (k + 1))
      case rel => exact ⟨hi + (p + c), r, k + 1, rfl, rfl, rfl, HNEW.out, HR.out, by omega, rfl⟩
      case measure => omega
    · have hkn2 : k = n := by omega
      have hdk : decide ((k : Int) < (n : Int)) = false := decide_eq_false (by omega)
      have hdk' : decide (k < n) = false := decide_eq_false (by omega)
      have hs2 := hs.out
      rw [hkn2, HN.out, List.take_length] at hs2
      have hl' := hl.out
      have e1 : sqs xs / 18446744073709551616 = hi := by omega
      have e2 : sqs xs % 18446744073709551616 = lo := by omega
      have E1 := Lib.hid e1
      have E2 := Lib.hid e2
      clear hs2 hkn2 hs hl' e1 e2
      go_wp2_with (fail)
      go_ret2
      exact ⟨by rw [E1.out, E2.out]; rfl, rfl⟩
end Go.Proofs.Ytkmelddejdikgaa
namespace Go.Proofs.Ytkmelddejdikgaa
open Go.RowKit PM Dt
def sq3 (f : Nat → Int) : Nat := sqs [f 0, f 1, f 2]
def lstN (f : Nat → Int) : Nat := isqrt (sq3 f)
def lst (f : Nat → Int) : Nat := lstN f + if sq3 f = lstN f * lstN f then 0 else 1
theorem ok_sq {f : Nat → Int} (h : okV f = true) : sq3 f ≤ 3626777458843887524118528 := by
  have q : ∀ i, i < 3 → f i * f i ≤ 1208925819614629174706176 := fun i hi => by
    have hh := (vb_iff _).1 ((okV_iff f).1 h i hi)
    exact (bmul (P := 1099511627776) (R := 1099511627776) hh.1 hh.2 hh.1 hh.2).2
  have e := sqs3_i f
  have q0 := q 0 (by omega)
  have q1 := q 1 (by omega)
  have q2 := q 2 (by omega)
  unfold sq3
  omega
theorem lstN_spec {f : Nat → Int} (h : okV f = true) : lstN f * lstN f ≤ sq3 f ∧ sq3 f < (lstN f + 1) * (lstN f + 1) ∧ lstN f < 2199023255552 := by
  have hS := ok_sq h
  unfold lstN
  generalize sq3 f = S at *
  have h4 : S < 4 ^ 200 := Nat.lt_of_le_of_lt hS (by decide)
  exact ⟨(isqrt_ge h4).1 (Nat.le_refl _), (isqrt_lt h4).1 (Nat.lt_succ_self _), (isqrt_lt h4).2 (by omega)⟩
theorem lst_above {f : Nat → Int} (h : okV f = true) (m : Nat) : m < lst f ↔ m * m < sq3 f := by
  obtain ⟨h1, h2, h3⟩ := lstN_spec h
  unfold lst
  generalize lstN f = N at *
  generalize sq3 f = S at *
  have key : ∀ a b : Nat, a ≤ b → a * a ≤ b * b := fun a b h => Nat.mul_le_mul h h
  split
  · rename_i he
    constructor
    · intro hm
      have : (m + 1) * (m + 1) ≤ N * N := key _ _ (by omega)
      have e : (m + 1) * (m + 1) = m * m + 2 * m + 1 := by rw [Nat.add_mul, Nat.mul_add]; omega
      omega
    · intro hm
      apply Classical.byContradiction; intro hc
      have := key N m (by omega)
      omega
  · rename_i hne
    constructor
    · intro hm
      have := key m N (by omega)
      omega
    · intro hm
      apply Classical.byContradiction; intro hc
      have := key (N + 1) m (by omega)
      omega
theorem lst_small {f : Nat → Int} (h : okV f = true) : lst f ≤ 2199023255552 := by
  obtain ⟨_, _, h3⟩ := lstN_spec h
  unfold lst; split <;> omega
theorem lst_fit {f : Nat → Int} (h : okV f = true) : fitV (n3 f) = (lstN f : Int) := by
  obtain ⟨_, _, h3⟩ := lstN_spec h
  exact (fit_of (q := n3 f) (by unfold n3 hypQ; show _ ≤ ((lstN f : Nat) : Int); omega) (by unfold n3 hypQ; show ((lstN f : Nat) : Int) ≤ _; omega)).1
theorem lst_part {f : Nat → Int} (h : okV f = true) (i : Nat) (hi : i < 3) : (f i).natAbs ≤ lst f := by
  apply Classical.byContradiction; intro hc
  have h1 : ¬ ((lst f) * (lst f) < sq3 f) := fun hh => Nat.lt_irrefl _ ((lst_above h _).2 hh)
  have e := sqs3_i f
  have h2 : (lst f + 1) * (lst f + 1) ≤ (f i).natAbs * (f i).natAbs := Nat.mul_le_mul (by omega) (by omega)
  have h3 : (lst f + 1) * (lst f + 1) = lst f * lst f + 2 * lst f + 1 := by rw [Nat.add_mul, Nat.mul_add]; omega
  have h4 : (f i).natAbs * (f i).natAbs ≤ sq3 f := by
    unfold sq3
    rw [sqs_cons, sqs_cons, sqs_cons, sqs_nil]
    have : i = 0 ∨ i = 1 ∨ i = 2 := by omega
    rcases this with rfl | rfl | rfl <;> omega
  omega
theorem wpList_build1 {P : Program} {ops : Array Oper} {rest : List Oper} {o : Oper} {a : Act} {w : World} {Q : Exit → Act → World → Prop} (hg : o.guard = none) {t e : TypeId} {x0 : Operand} (ho : o.op = .buildSlice t 1 #[(0, x0)])
    {n0 : Int} (h0 : a.eval x0 = .int .i64 n0)
    (hu : P.underlying t = some (.slice e)) (hsz : (P.info? e).map (·.size) = some 1) (hz : ((P.info? e).bind (·.zero)).isSome = true)
    (h : ∀ b w', More w w' → blk w' b #[.int .i64 n0] e → wpList P ops Q rest (a.put o.dst (.slice (some ⟨b, 0, none⟩) 1 1)) w') : wpList P ops Q (o :: rest) a w :=
  wpList_buildI hg t e 1 _ ho [n0] hu hsz hz rfl (by omega) (by decide) (by simp [h0]) h
theorem ints1 {w : World} {b : Nat} {x : Int} {t : TypeId} (h : blk w b #[.int .i64 x] t) : Ints w (.slice (some ⟨b, 0, none⟩) 1 1) [x] :=
  Or.inr ⟨by simp, b, 0, 1, rfl, h.lt, fun k hk => by
    have hk : k < 1 := hk
    obtain rfl : k = 0 := by omega
    exact h.cellIs rfl⟩
theorem square3_any (f : Nat → Int) (b : Nat) (t : TypeId) (w : World) (h : okV f = true) (p : blk w b (vfn f) t) :
    Calls Try.prog 194 #[.slice (some ⟨b, 0, none⟩) 3 3] w fun e w' => e = .returned (.tuple #[.int .u64 ((sq3 f / 18446744073709551616 : Nat) : Int), .int .u64 ((sq3 f % 18446744073709551616 : Nat) : Int)]) ∧ w = w' :=
  square_any [f 0, f 1, f 2] _ w (ints3 p) (fun k hk => by
    have hk : k < 3 := hk
    have q := fun i hi => (vb_iff _).1 ((okV_iff f).1 h i hi)
    have : k = 0 ∨ k = 1 ∨ k = 2 := by omega
    rcases this with rfl | rfl | rfl
    · have := q 0 (by omega); exact ⟨by show _ ≤ f 0; omega, by show f 0 ≤ _; omega⟩
    · have := q 1 (by omega); exact ⟨by show _ ≤ f 1; omega, by show f 1 ≤ _; omega⟩
    · have := q 2 (by omega); exact ⟨by show _ ≤ f 2; omega, by show f 2 ≤ _; omega⟩) (by show 3 ≤ 3; omega)
theorem square1_any (n : Nat) (b : Nat) (t : TypeId) (w : World) (h : n < 2199023255552) (p : blk w b #[.int .i64 (n : Int)] t) :
    Calls Try.prog 194 #[.slice (some ⟨b, 0, none⟩) 1 1] w fun e w' => e = .returned (.tuple #[.int .u64 ((n * n / 18446744073709551616 : Nat) : Int), .int .u64 ((n * n % 18446744073709551616 : Nat) : Int)]) ∧ w = w' :=
  (square_any [(n : Int)] _ w (ints1 p) (fun k hk => by
    have hk : k < 1 := hk
    obtain rfl : k = 0 := by omega
    exact ⟨by show _ ≤ (n : Int); omega, by show (n : Int) ≤ _; omega⟩) (by show 1 ≤ 3; omega)).mono fun e w' hh => by
      rw [sqs_cons, sqs_nil] at hh
      simpa using hh
set_option maxRecDepth 100000 in
set_option maxHeartbeats 1000000 in
theorem vleast_any (f : Nat → Int) (w : World) (hk : okV f = true) : Calls Try.prog 184 #[.agg (vfn f)] w fun e w' => e = .returned (.int .i64 (lst f : Int)) ∧ Below w.heap.size w w' := by
  have HH := Lib.hid (fun b w p => hyp3_any f b w 31 (okV_I hk) p)
  have S3 := Lib.hid (fun b w p => square3_any f b 31 w hk p)
  obtain ⟨_, _, hn⟩ := lstN_spec hk
  rw [lst_fit hk] at HH
  have HN := Lib.hid hn
  obtain ⟨L, hL⟩ : ∃ L, lst f = L := ⟨_, rfl⟩
  rw [hL]
  unfold lst at hL
  have HL := Lib.hid hL
  clear hk hn hL
  generalize fitE (n3 f) = E at *
  generalize lstN f = N at *
  generalize sq3 f = S at *
  have S1 := Lib.hid (fun b w p => square1_any N b 2 w HN.out p)
  obtain ⟨sh, hsh⟩ : ∃ x, S / 18446744073709551616 = x := ⟨_, rfl⟩
  obtain ⟨sl, hsl⟩ : ∃ x, S % 18446744073709551616 = x := ⟨_, rfl⟩
  obtain ⟨nh, hnh⟩ : ∃ x, N * N / 18446744073709551616 = x := ⟨_, rfl⟩
  obtain ⟨nl, hnl⟩ : ∃ x, N * N % 18446744073709551616 = x := ⟨_, rfl⟩
  have hiff : S = N * N ↔ sh = nh ∧ sl = nl := by omega
  rw [hsh, hsl] at S3
  rw [hnh, hnl] at S1
  have HE := Lib.hid hiff
  clear hsh hsl hnh hnl hiff
  go_enter Try.func184, Try.ntmps184
  go_upto_region 1 with (fail)
  have p : blk (w.alloc (.cells (vfn f) 31)) w.heap.size (vfn f) 31 := blk.new _ _ _
  have hB : Below w.heap.size w (w.alloc (.cells (vfn f) 31)) := by go_grown
  generalize w.alloc (.cells (vfn f) 31) = w0 at *
  go_upto_region 2 with (go_at_call 80; refine (HH.out _ _ p).mono ?_; rintro e w1 ⟨rfl, rfl⟩)
  go_upto_region 3 with (go_at_call 194; refine (S3.out _ _ p).mono ?_; rintro e w1 ⟨rfl, rfl⟩)
  go_upto_region 4 with (first | (refine wpList_build1 (n0 := (N : Int)) rfl rfl rfl Try.underlying41 (by kernel_rfl) (by kernel_rfl) (fun b1 wn hm n1 => ?_); replace hB := hB.trans (hm.mono hB.size)) | (go_at_call 194; refine (S1.out _ _ n1).mono ?_; rintro e w1 ⟨rfl, rfl⟩))
  have hw : IntKind.i64.wrap ((N : Int) + 1) = ((N + 1 : Nat) : Int) := by have := HN.out; rw [IntKind.wrap_i64]; omega
  by_cases d1 : nh = sh
  · by_cases d2 : nl = sl
    · subst d1 d2
      go_wp2_with (fail)
      go_ret
      refine ⟨?_, hB⟩
      rw [← HL.out, if_pos (HE.out.2 (by simp))]; rfl
    · subst d1
      have e2 : ((nl : Int) != (sl : Int)) = true := by simpa using (by omega : ¬ (nl : Int) = (sl : Int))
      have e3 : ((nl : Int) == (sl : Int)) = false := by simpa using (by omega : ¬ (nl : Int) = (sl : Int))
      go_wp2_with (fail)
      go_ret
      refine ⟨?_, hB⟩
      rw [← HL.out, if_neg (fun h => d2 (HE.out.1 h).2.symm)]; rfl
  · have e2 : ((nh : Int) != (sh : Int)) = true := by simpa using (by omega : ¬ (nh : Int) = (sh : Int))
    have e3 : ((nh : Int) == (sh : Int)) = false := by simpa using (by omega : ¬ (nh : Int) = (sh : Int))
    go_wp2_with (fail)
    go_ret
    refine ⟨?_, hB⟩
    rw [← HL.out, if_neg (fun h => d1 (HE.out.1 h).1.symm)]; rfl
end Go.Proofs.Ytkmelddejdikgaa
namespace Go.Proofs.Ytkmelddejdikgaa
open Go.RowKit PM Dt
def towV (a : Int) (m n : Nat) : Int := if a < 0 then -((a.natAbs * m / n : Nat) : Int) else ((a.natAbs * m / n : Nat) : Int)
theorem tow_le {x m n : Nat} (hn : 0 < n) (h : x ≤ n) : x * m / n ≤ m :=
  Nat.div_le_of_le_mul (Nat.mul_le_mul h (Nat.le_refl m))
theorem tow_hi {x m n : Nat} (hn : 0 < n) (h : x ≤ n) (hm : m ≤ 1099511627776) : x * m / 18446744073709551616 < n := by
  have h1 : x * m ≤ n * 1099511627776 := Nat.mul_le_mul h hm
  omega
theorem tow_wraps {q : Nat} (h : q ≤ 1099511627776) : IntKind.i64.wrap (q : Int) = (q : Int) ∧ IntKind.i64.wrap (-(q : Int)) = -(q : Int) ∧ wrap64 (q : Int) = (q : Int) ∧ wrap64 (-(q : Int)) = -(q : Int) :=
  ⟨by rw [IntKind.wrap_i64]; omega, by rw [IntKind.wrap_i64]; omega, by unfold wrap64; omega, by unfold wrap64; omega⟩
theorem tow_wrapA {a : Int} {A : Nat} (hA : A = a.natAbs) (h : A ≤ 2199023255552) : [wrap64 (-a)].foldl mx a = (A : Int) := by
  have hwn : wrap64 (-a) = -a := by unfold wrap64; omega
  rw [hwn]; show mx a (-a) = _; unfold mx; split <;> omega
theorem tow_wrapU {q : Nat} (h : q ≤ 2199023255552) : IntKind.u64.wrap (q : Int) = (q : Int) := by rw [IntKind.wrap_u64]; omega
set_option maxRecDepth 100000 in
set_option maxHeartbeats 1000000 in
theorem toward_any (a : Int) (m n : Nat) (w : World) (hn : 0 < n) (hN : n ≤ 2199023255552) (ha : a.natAbs ≤ n) (hm : m ≤ 1099511627776) :
    Calls Try.prog 186 #[.int .i64 a, .int .i64 m, .int .i64 n] w fun e w' => e = .returned (.int .i64 (towV a m n)) ∧ Below w.heap.size w w' := by
  obtain ⟨A, hA⟩ : ∃ A, A = a.natAbs := ⟨_, rfl⟩
  have M := Lib.hid (fun w => mul64_any A m w (by omega) (by omega))
  have hq := tow_le (m := m) hn ha
  have hh := tow_hi hn ha hm
  rw [← hA] at hq hh
  obtain ⟨R, hR⟩ : ∃ R, towV a m n = R := ⟨_, rfl⟩
  rw [hR]
  unfold towV at hR
  rw [← hA] at hR
  have D := Lib.hid (fun w => div64_any (A * m / 18446744073709551616) (A * m % 18446744073709551616) n w hh (by omega) (by omega))
  have e : A * m / 18446744073709551616 * 18446744073709551616 + A * m % 18446744073709551616 = A * m := by omega
  rw [e] at D
  clear e hh
  generalize A * m / 18446744073709551616 = H at *
  generalize A * m % 18446744073709551616 = L at *
  generalize A * m % n = R2 at *
  obtain ⟨q, hqq⟩ : ∃ q, A * m / n = q := ⟨_, rfl⟩
  rw [hqq] at D hq hR
  obtain ⟨hwq, hwq2, hwq', hwq2'⟩ := tow_wraps (Nat.le_trans hq hm)
  have hM := Lib.hid (tow_wrapA hA (Nat.le_trans (Nat.le_of_eq hA) (Nat.le_trans ha hN)))
  have hwA : IntKind.u64.wrap (A : Int) = (A : Int) := tow_wrapU (Nat.le_trans (Nat.le_of_eq hA) (Nat.le_trans ha hN))
  have hwm : IntKind.u64.wrap (m : Int) = (m : Int) := tow_wrapU (Nat.le_trans hm (by decide))
  have hwN : IntKind.u64.wrap (n : Int) = (n : Int) := tow_wrapU hN
  have HR := Lib.hid hR
  clear hR hq hqq hN hn ha hm hA
  by_cases h0 : a < 0
  · have d0 : decide (a < 0) = true := decide_eq_true h0
    have H0 := Lib.hid h0
    go_enter Try.func186, Try.ntmps186
    go_upto_region 2 with (first | (refine wpList_max rfl rfl _ _ _ hM.out rfl ?_) | (go_at_call 119; refine (M.out _).mono ?_; rintro e w1 ⟨rfl, rfl⟩))
    go_upto_region 3 with (go_at_call 121; refine (D.out _).mono ?_; rintro e w1 ⟨rfl, hb⟩)
    go_wp2_with (fail)
    go_ret
    refine ⟨?_, hb⟩
    rw [← HR.out, if_pos H0.out]; rfl
  · have d0 : decide (a < 0) = false := decide_eq_false h0
    have H0 := Lib.hid h0
    go_enter Try.func186, Try.ntmps186
    go_upto_region 2 with (first | (refine wpList_max rfl rfl _ _ _ hM.out rfl ?_) | (go_at_call 119; refine (M.out _).mono ?_; rintro e w1 ⟨rfl, rfl⟩))
    go_upto_region 3 with (go_at_call 121; refine (D.out _).mono ?_; rintro e w1 ⟨rfl, hb⟩)
    go_wp2_with (fail)
    go_ret
    refine ⟨?_, hb⟩
    rw [← HR.out, if_neg (by have := H0.out; omega)]; rfl
end Go.Proofs.Ytkmelddejdikgaa
namespace Go.Proofs.Ytkmelddejdikgaa
open Go.RowKit PM Dt
def okL (f : Nat → Int) (m : Int) : Prop := okV f = true ∧ 0 ≤ m ∧ m ≤ 1099511627776
instance (f : Nat → Int) (m : Int) : Decidable (okL f m) := by unfold okL; infer_instance
def limX (f : Nat → Int) (m : Int) (i : Nat) : Int := towV (f i) m.toNat (lst f)
def limF (f : Nat → Int) (m : Int) : Nat → Int := if okL f m then (if (lst f : Int) ≤ m then f else limX f m) else fun _ => 0
def limE (f : Nat → Int) (m : Int) : Int := if okL f m then 0 else 2
theorem tow_vb {a : Int} {m n : Nat} (hn : 0 < n) (h : a.natAbs ≤ n) (hm : m ≤ 1099511627776) : vb (towV a m n) = true := by
  have := tow_le (m := m) hn h
  unfold towV
  generalize a.natAbs * m / n = q at *
  exact (vb_iff _).2 (by split <;> omega)
set_option maxRecDepth 100000 in
theorem limC_any (f : Nat → Int) (m n : Nat) (b c d : Nat) (t1 t2 : TypeId) (w : World) (hk : okV f = true) (hn : n = lst f) (hm : m < n) (hm2 : m ≤ 1099511627776) (p : blk w b (vfn f) 31) (q : blk w c #[.int .i64 (m : Int)] t1) (r : blk w d #[.int .i64 (n : Int)] t2) (i : Nat) (hi : i < 3) :
    Calls Try.prog 185 #[.int .i64 i, .pointer (some ⟨b, 0, none⟩), .pointer (some ⟨c, 0, none⟩), .pointer (some ⟨d, 0, none⟩)] w fun e w' => e = .returned (.tuple #[.int .i64 (towV (f i) m n), .int .i64 0]) ∧ Below w.heap.size w w' := by
  have R := Lib.hid (fun w => toward_any (f i) m n w (by omega) (by rw [hn]; exact lst_small hk) (by rw [hn]; exact lst_part hk i hi) hm2)
  generalize towV (f i) m n = V at *
  have hdk : decide ((i : Int) < 3) = true := decide_eq_true (by omega)
  have hdk' : decide (i < 3) = true := decide_eq_true hi
  have hi3 : (i : Int) < 3 := by omega
  clear hk hn hm hm2
  go_enter Try.func185, Try.ntmps185
  go_upto_region 1 with (fail)
  have hB : More w w := Below.refl _ _
  refine wp_region_Y 99 8 rfl (by kernel_rfl) ?_
  replace p := p.drew
  replace q := q.drew
  replace r := r.drew
  replace hB : More w w.drew := hB.drew
  generalize w.drew = wo at *
  refine wpY_takeB 0 (.int .i64 i) rfl rfl (by kernel_rfl) (fun w1 => by go_simp; exact ⟨rfl, Below.refl _ _⟩) ?_
  simp only [Act.put, sIT, sCZ, sCS]
  refine wpY_takeB 1 (.pointer (some ⟨b, i, none⟩)) rfl rfl (by kernel_rfl) (fun w1 => by go_simp; first | exact ⟨rfl, Below.refl _ _⟩ | (rw [if_pos hi3]; exact ⟨rfl, Below.refl _ _⟩)) ?_
  simp only [Act.put, sIT, sCZ, sCS]
  refine wpY_takeA 2 (.int .i64 (f i)) rfl rfl (by kernel_rfl) (by kernel_rfl) (fun w1 h1 => by have hc : w1.cell? ⟨b, i, none⟩ = some (.int .i64 (f i)) := (p.below h1 p.lt).cellIs (vfn_get _ hi); go_simp; exact ⟨rfl, Below.refl _ _⟩) ?_
  simp only [Act.put, sIT, sCZ, sCS]
  refine wpY_takeA 3 (.int .i64 (m : Int)) rfl rfl (by kernel_rfl) (by kernel_rfl) (fun w1 h1 => by have hc : w1.cell? ⟨c, 0, none⟩ = some (.int .i64 (m : Int)) := (q.below h1 q.lt).cellIs rfl; go_simp; exact ⟨rfl, Below.refl _ _⟩) ?_
  simp only [Act.put, sIT, sCZ, sCS]
  refine wpY_takeA 4 (.int .i64 (n : Int)) rfl rfl (by kernel_rfl) (by kernel_rfl) (fun w1 h1 => by have hc : w1.cell? ⟨d, 0, none⟩ = some (.int .i64 (n : Int)) := (r.below h1 r.lt).cellIs rfl; go_simp; exact ⟨rfl, Below.refl _ _⟩) ?_
  simp only [Act.put, sIT, sCZ, sCS]
  refine wpY_takeA 5 (.int .i64 V) rfl rfl (by kernel_rfl) (by kernel_rfl) (fun w1 h1 => ?_) ?_
  · go_simp
    refine (R.out _).mono ?_
    rintro e w2 ⟨rfl, h2⟩
    exact ⟨rfl, h2⟩
  simp only [Act.put, sIT, sCZ, sCS]
  refine wpY_takeB 6 (.int .i64 V) rfl rfl (by kernel_rfl) (fun w1 => by go_simp; exact ⟨rfl, Below.refl _ _⟩) ?_
  simp only [Act.put, sIT, sCZ, sCS]
  refine wpY_takeB 7 (.int .i64 0) rfl rfl (by kernel_rfl) (fun w1 => by go_simp; exact ⟨rfl, Below.refl _ _⟩) ?_
  simp only [Act.put, sIT, sCZ, sCS]
  refine wpY_end (by kernel_rfl) (fun w3 h3 => ?_)
  replace hB := More.trans hB h3
  go_wp2_with (fail)
  go_ret2
  exact ⟨rfl, hB⟩
set_option maxRecDepth 100000 in
set_option maxHeartbeats 2000000 in
theorem eachLim_any (x er : Nat → Int) (c1 c2 c3 : Value) (w : World)
    (hf : Hid (∀ i : Nat, i < 3 → ∀ w1, Below w.heap.size w w1 → Calls Try.prog 185 #[.int .i64 i, c1, c2, c3] w1 fun e w' => e = .returned (.tuple #[.int .i64 (x i), .int .i64 (er i)]) ∧ Below w1.heap.size w1 w')) :
    Calls Try.prog 81 #[.bool true, .func (.func 185) #[] #[c1, c2, c3]] w fun e w' => e = .returned (.tuple #[.agg (vfn (eachF x er)), .int .i64 (eachE x er)]) ∧ Below w.heap.size w w' := by
  go_enter Try.func81, Try.ntmps81
  go_upto_region 2 with (fail)
  rw [zero_vec]
  have p : blk ((w.alloc (.cells (vfn fun _ => 0) 31)).alloc (.cells (vfn fun _ => 0) 31)) w.heap.size (vfn fun _ => 0) 31 := (blk.new _ _ _).alloc _
  have q : blk ((w.alloc (.cells (vfn fun _ => 0) 31)).alloc (.cells (vfn fun _ => 0) 31)) (w.heap.size + 1) (vfn fun _ => 0) 31 := blk.new' (by simp)
  have hB : Below w.heap.size w ((w.alloc (.cells (vfn fun _ => 0) 31)).alloc (.cells (vfn fun _ => 0) 31)) := by go_grown
  generalize (w.alloc (.cells (vfn fun _ => 0) 31)).alloc (.cells (vfn fun _ => 0) 31) = w0 at *
  go_wp2_with (fail)
  go_loopg [13] 3 (fun g iv wr => ∃ k : Nat, g + k = 3 ∧ iv = .int .i64 k ∧ Hid (∀ j, j < k → er j = 0 ∧ vb (x j) = true) ∧ blk wr w.heap.size (vfn fun _ => 0) 31 ∧ blk wr (w.heap.size + 1) (vfn (pre3 x k)) 31 ∧ Below w.heap.size w wr)
  case atStart => exact ⟨0, rfl, rfl, fun j hj => by omega, p, by rw [show vfn (pre3 x 0) = vfn (fun _ => 0) from vfn_congr fun i _ => by simp [pre3]]; exact q, hB⟩
  case round =>
    clear p q hB
    obtain ⟨k, hk, rfl, hall, p, q, hB⟩ := hrel
    by_cases hkn : k < 3
    · have hdk : decide ((k : Int) < 3) = true := decide_eq_true (by omega)
      have hdk' : decide (k < 3) = true := decide_eq_true (by omega)
      have hw3 : IntKind.i64.wrap ((k : Int) + 1) = ((k + 1 : Nat) : Int) := by rw [IntKind.wrap_i64]; omega
      have W0 := Lib.hid (fun w => within_any (x k) w)
      have HC := Lib.hid (hf.out k hkn)
      by_cases he : er k = 0
      · have de : (er k != 0) = false := by simp [he]
        have HE := Lib.hid he
        obtain ⟨b, hb⟩ : ∃ b, vb (x k) = b := ⟨_, rfl⟩
        rw [hb] at W0
        have HVB := Lib.hid hb
        clear hb he
        cases b
        · have HG := Lib.hid (show goodE x er = false from goodE_no hkn (by rintro ⟨_, h⟩; rw [HVB.out] at h; cases h))
          go_wp2_with (first
            | (go_at_call 185; refine (HC.out _ hB).mono ?_; rintro e w1 ⟨rfl, hb⟩; replace hB := hB.trans (hb.mono hB.size); replace p := p.below hb p.lt; replace q := q.below hb q.lt; clear hb)
            | (go_at_call 137; refine (W0.out _).mono ?_; rintro e w1 ⟨rfl, rfl⟩)
            | (rw [zero_vec]; refine wpList_store_row rfl _ _ _ rfl _ rfl _ rfl _ _ p (by rw [vfn_size]; kernel_rfl) (by simp only [vfn_size]) (vfn_one _) ?_))
          refine bodyPost_ret (results_vec rfl _ _ _ _ _ _ _ rfl (p.row (vfn (fun _ => 0))) Try.underlying31 rfl (by rw [vfn_size]; kernel_rfl)) rfl ?_; refine ⟨?_, Below.setRow hB (Nat.le_refl _) _⟩
          unfold eachF eachE; rw [HG.out]; rfl
        · go_upto_region 8 with (go_at_call 185; refine (HC.out _ hB).mono ?_; rintro e w1 ⟨rfl, hb⟩; replace hB := hB.trans (hb.mono hB.size); replace p := p.below hb p.lt; replace q := q.below hb q.lt; clear hb)
          have fz : w1.frozen? ⟨w.heap.size + 1, k, none⟩ = false := q.free _
          have cz : w1.cell? ⟨w.heap.size + 1, k, none⟩ = some (.int .i64 (pre3 x k k)) := q.cellIs (vfn_get _ hkn)
          go_wp2_with (go_at_call 137; refine (W0.out _).mono ?_; rintro e w1 ⟨rfl, rfl⟩)
          go_roundg (3 - (k + 1))
          case rel =>
            refine ⟨k + 1, by omega, rfl, fun j hj => ?_, p.setOther (by simp) _, q.set' (vfn_set hkn ?_ ?_), hB.setCell (by simp) _⟩
            · by_cases e : j = k
              · subst e; exact ⟨HE.out, HVB.out⟩
              · exact hall.out j (by omega)
            · simp [pre3]
            · intro j hj hne; simp only [pre3]; split <;> split <;> first | rfl | omega
          case measure => omega
      · have de : (er k != 0) = true := by simpa using he
        have HG := Lib.hid (show goodE x er = false from goodE_no hkn (by rintro ⟨h, _⟩; exact he h))
        clear he
        go_wp2_with (first
          | (go_at_call 185; refine (HC.out _ hB).mono ?_; rintro e w1 ⟨rfl, hb⟩; replace hB := hB.trans (hb.mono hB.size); replace p := p.below hb p.lt; replace q := q.below hb q.lt; clear hb)
          | (rw [zero_vec]; refine wpList_store_row rfl _ _ _ rfl _ rfl _ rfl _ _ p (by rw [vfn_size]; kernel_rfl) (by simp only [vfn_size]) (vfn_one _) ?_))
        refine bodyPost_ret (results_vec rfl _ _ _ _ _ _ _ rfl (p.row (vfn (fun _ => 0))) Try.underlying31 rfl (by rw [vfn_size]; kernel_rfl)) rfl ?_; refine ⟨?_, Below.setRow hB (Nat.le_refl _) _⟩
        unfold eachF eachE; rw [HG.out]; rfl
    · obtain rfl : k = 3 := by omega
      have HG := Lib.hid ((goodE_iff x er).2 hall.out)
      have e3 : vfn (pre3 x 3) = vfn x := vfn_congr fun i hi => by simp [pre3, hi]
      rw [e3] at q
      go_wp2_with (first | (refine wpList_load_rowG ?hw _ _ rfl _ rfl _ _ _ _ q Try.underlying31 rfl ?hi ?_; (case hw => (first | rfl | (simp [Region.wanted, yielded]; done))); (case hi => (rw [vfn_size]; kernel_rfl))) | (refine wpList_store_row rfl _ _ _ rfl _ rfl _ rfl _ _ p (by rw [vfn_size]; kernel_rfl) (by simp only [vfn_size]) (vfn_one _) ?_))
      refine bodyPost_ret (results_vec rfl _ _ _ _ _ _ _ rfl (p.row (vfn x)) Try.underlying31 rfl (by rw [vfn_size]; kernel_rfl)) rfl ?_; refine ⟨?_, Below.setRow hB (Nat.le_refl _) _⟩
      unfold eachF eachE; rw [HG.out]; rfl
set_option maxRecDepth 100000 in
set_option maxHeartbeats 1500000 in
theorem vlimit_any (f : Nat → Int) (m : Int) (w : World) (hI : ∀ i, i < 3 → I64 (f i)) (hm : I64 m) : Calls Try.prog 149 #[.agg (vfn f), .int .i64 m] w fun e w' => e = .returned (.tuple #[.agg (vfn (limF f m)), .int .i64 (limE f m)]) ∧ Below w.heap.size w w' := by
  have V := Lib.hid (fun w => valid_any f w)
  obtain ⟨X, hX⟩ : ∃ X, limF f m = X := ⟨_, rfl⟩
  obtain ⟨E, hE⟩ : ∃ E, limE f m = E := ⟨_, rfl⟩
  rw [hX, hE]
  unfold limF at hX
  unfold limE at hE
  obtain ⟨bk, hk⟩ : ∃ b, okV f = b := ⟨_, rfl⟩
  rw [hk] at V
  have HK := Lib.hid hk
  have HX := Lib.hid hX
  have HE := Lib.hid hE
  have HM := Lib.hid hm
  clear hk hX hE hm hI
  go_enter Try.func149, Try.ntmps149
  go_upto_region 1 with (fail)
  rw [zero_vec]
  have p : blk (((w.alloc (.cells (vfn f) 31)).alloc (.cells #[.int .i64 m] 2)).alloc (.cells (vfn fun _ => 0) 31)) w.heap.size (vfn f) 31 := ((blk.new _ _ _).alloc _).alloc _
  have q : blk (((w.alloc (.cells (vfn f) 31)).alloc (.cells #[.int .i64 m] 2)).alloc (.cells (vfn fun _ => 0) 31)) (w.heap.size + 1) #[.int .i64 m] 2 := (blk.new' (by simp)).alloc _
  have r : blk (((w.alloc (.cells (vfn f) 31)).alloc (.cells #[.int .i64 m] 2)).alloc (.cells (vfn fun _ => 0) 31)) (w.heap.size + 2) (vfn fun _ => 0) 31 := blk.new' (by simp)
  have hB : Below w.heap.size w (((w.alloc (.cells (vfn f) 31)).alloc (.cells #[.int .i64 m] 2)).alloc (.cells (vfn fun _ => 0) 31)) := by go_grown
  generalize ((w.alloc (.cells (vfn f) 31)).alloc (.cells #[.int .i64 m] 2)).alloc (.cells (vfn fun _ => 0) 31) = w0 at *
  cases bk
  case false =>
    go_wp2_with (first | (refine wpList_load_rowG ?hw _ _ rfl _ rfl _ _ _ _ p Try.underlying31 rfl ?hi ?_; (case hw => (first | rfl | (simp [Region.wanted, yielded]; done))); (case hi => (rw [vfn_size]; kernel_rfl))) | (go_at_call 78; with_reducible refine (V.out _).mono ?_; rintro e w1 ⟨rfl, hb⟩; replace hB := hB.trans (hb.mono hB.size); replace p := p.below hb p.lt; replace q := q.below hb q.lt; replace r := r.below hb r.lt; clear hb; have cq : w1.cell? ⟨w.heap.size + 1, 0, none⟩ = some (.int .i64 m) := q.cellIs rfl) | (rw [zero_vec]; refine wpList_store_row rfl _ _ _ rfl _ rfl _ rfl _ _ r (by rw [vfn_size]; kernel_rfl) (by simp only [vfn_size]) (vfn_one _) ?_))
    refine bodyPost_ret (results_vec rfl _ _ _ _ _ _ _ rfl (r.row (vfn (fun _ => 0))) Try.underlying31 rfl (by rw [vfn_size]; kernel_rfl)) rfl ?_; refine ⟨?_, Below.setRow hB (by omega) _⟩
    rw [← HX.out, ← HE.out, if_neg (fun h => by have := h.1; rw [HK.out] at this; cases this), if_neg (fun h => by have := h.1; rw [HK.out] at this; cases this)]; rfl
  by_cases hm0 : m < 0
  · have d0 : decide (m < 0) = true := decide_eq_true hm0
    have H0 := Lib.hid hm0
    clear hm0
    go_wp2_with (first | (refine wpList_load_rowG ?hw _ _ rfl _ rfl _ _ _ _ p Try.underlying31 rfl ?hi ?_; (case hw => (first | rfl | (simp [Region.wanted, yielded]; done))); (case hi => (rw [vfn_size]; kernel_rfl))) | (go_at_call 78; with_reducible refine (V.out _).mono ?_; rintro e w1 ⟨rfl, hb⟩; replace hB := hB.trans (hb.mono hB.size); replace p := p.below hb p.lt; replace q := q.below hb q.lt; replace r := r.below hb r.lt; clear hb; have cq : w1.cell? ⟨w.heap.size + 1, 0, none⟩ = some (.int .i64 m) := q.cellIs rfl) | (rw [zero_vec]; refine wpList_store_row rfl _ _ _ rfl _ rfl _ rfl _ _ r (by rw [vfn_size]; kernel_rfl) (by simp only [vfn_size]) (vfn_one _) ?_))
    refine bodyPost_ret (results_vec rfl _ _ _ _ _ _ _ rfl (r.row (vfn (fun _ => 0))) Try.underlying31 rfl (by rw [vfn_size]; kernel_rfl)) rfl ?_; refine ⟨?_, Below.setRow hB (by omega) _⟩
    rw [← HX.out, ← HE.out, if_neg (fun h => by have := h.2.1; have := H0.out; omega), if_neg (fun h => by have := h.2.1; have := H0.out; omega)]; rfl
  have d0 : decide (m < 0) = false := decide_eq_false hm0
  have H0 := Lib.hid (Int.not_lt.1 hm0)
  clear hm0
  by_cases hm1 : 1099511627776 < m
  · have d1 : decide (1099511627776 < m) = true := decide_eq_true hm1
    have d2 : decide (m > 1099511627776) = true := decide_eq_true hm1
    have H1 := Lib.hid hm1
    clear hm1
    go_wp2_with (first | (refine wpList_load_rowG ?hw _ _ rfl _ rfl _ _ _ _ p Try.underlying31 rfl ?hi ?_; (case hw => (first | rfl | (simp [Region.wanted, yielded]; done))); (case hi => (rw [vfn_size]; kernel_rfl))) | (go_at_call 78; with_reducible refine (V.out _).mono ?_; rintro e w1 ⟨rfl, hb⟩; replace hB := hB.trans (hb.mono hB.size); replace p := p.below hb p.lt; replace q := q.below hb q.lt; replace r := r.below hb r.lt; clear hb; have cq : w1.cell? ⟨w.heap.size + 1, 0, none⟩ = some (.int .i64 m) := q.cellIs rfl) | (rw [zero_vec]; refine wpList_store_row rfl _ _ _ rfl _ rfl _ rfl _ _ r (by rw [vfn_size]; kernel_rfl) (by simp only [vfn_size]) (vfn_one _) ?_))
    refine bodyPost_ret (results_vec rfl _ _ _ _ _ _ _ rfl (r.row (vfn (fun _ => 0))) Try.underlying31 rfl (by rw [vfn_size]; kernel_rfl)) rfl ?_; refine ⟨?_, Below.setRow hB (by omega) _⟩
    rw [← HX.out, ← HE.out, if_neg (fun h => by have := h.2.2; have := H1.out; omega), if_neg (fun h => by have := h.2.2; have := H1.out; omega)]; rfl
  have d1 : decide (1099511627776 < m) = false := decide_eq_false hm1
  have d2 : decide (m > 1099511627776) = false := decide_eq_false hm1
  have H1 := Lib.hid (Int.not_lt.1 hm1)
  clear hm1
  have HL : Hid (okL f m) := ⟨HK.out, H0.out, H1.out⟩
  have LE := Lib.hid (fun w => vleast_any f w HK.out)
  obtain ⟨n, hn⟩ : ∃ n, n = lst f := ⟨_, rfl⟩
  rw [← hn] at LE
  rw [if_pos HL.out] at HX HE
  rw [← hn] at HX
  have HN := Lib.hid hn
  clear hn
  go_upto_region 4 with (first | (refine wpList_load_rowG ?hw _ _ rfl _ rfl _ _ _ _ p Try.underlying31 rfl ?hi ?_; (case hw => (first | rfl | (simp [Region.wanted, yielded]; done))); (case hi => (rw [vfn_size]; kernel_rfl))) | (go_at_call 78; with_reducible refine (V.out _).mono ?_; rintro e w1 ⟨rfl, hb⟩; replace hB := hB.trans (hb.mono hB.size); replace p := p.below hb p.lt; replace q := q.below hb q.lt; replace r := r.below hb r.lt; clear hb; have cq : w1.cell? ⟨w.heap.size + 1, 0, none⟩ = some (.int .i64 m) := q.cellIs rfl) | (go_at_call 184; with_reducible refine (LE.out _).mono ?_; clear cq; rintro e w3 ⟨rfl, hb⟩; replace hB := hB.trans (hb.mono hB.size); replace p := p.below hb p.lt; replace q := q.below hb q.lt; replace r := r.below hb r.lt; clear hb; have cq : w3.cell? ⟨w.heap.size + 1, 0, none⟩ = some (.int .i64 m) := q.cellIs rfl))
  have n1 := blk.new w3 #[.int .i64 (n : Int)] 2
  replace p := p.alloc (.cells #[.int .i64 (n : Int)] 2)
  replace q := q.alloc (.cells #[.int .i64 (n : Int)] 2)
  replace r := r.alloc (.cells #[.int .i64 (n : Int)] 2)
  replace hB := hB.alloc hB.size (.cells #[.int .i64 (n : Int)] 2)
  clear cq
  generalize w3.alloc (.cells #[.int .i64 (n : Int)] 2) = w4 at *
  generalize w3.heap.size = nb at *
  have cq : w4.cell? ⟨w.heap.size + 1, 0, none⟩ = some (.int .i64 m) := q.cellIs rfl
  have cn : w4.cell? ⟨nb, 0, none⟩ = some (.int .i64 (n : Int)) := n1.cellIs rfl
  by_cases hl : (n : Int) ≤ m
  · have d3 : decide ((n : Int) ≤ m) = true := decide_eq_true hl
    have H3 := Lib.hid hl
    clear hl
    go_wp2_with (first | (refine wpList_load_rowG ?hw _ _ rfl _ rfl _ _ _ _ p Try.underlying31 rfl ?hi ?_; (case hw => (first | rfl | (simp [Region.wanted, yielded]; done))); (case hi => (rw [vfn_size]; kernel_rfl))) | (refine wpList_store_row rfl _ _ _ rfl _ rfl _ rfl _ _ r (by rw [vfn_size]; kernel_rfl) (by simp only [vfn_size]) (vfn_one _) ?_))
    refine bodyPost_ret (results_vec rfl _ _ _ _ _ _ _ rfl (r.row (vfn f)) Try.underlying31 rfl (by rw [vfn_size]; kernel_rfl)) rfl ?_; refine ⟨?_, Below.setRow hB (by omega) _⟩
    rw [← HX.out, ← HE.out, if_pos H3.out]; rfl
  · have d3 : decide ((n : Int) ≤ m) = false := decide_eq_false hl
    have H3 := Lib.hid hl
    clear hl
    have hmn : (m.toNat : Int) = m := by have := H0.out; omega
    have HC : Hid (∀ i : Nat, i < 3 → ∀ w1, Below w4.heap.size w4 w1 → Calls Try.prog 185 #[.int .i64 i, .pointer (some ⟨w.heap.size, 0, none⟩), .pointer (some ⟨w.heap.size + 1, 0, none⟩), .pointer (some ⟨nb, 0, none⟩)] w1 fun e w' => e = .returned (.tuple #[.int .i64 (limX f m i), .int .i64 0]) ∧ Below w1.heap.size w1 w') := fun i hi w1 hb => by
      have q' := q.below hb q.lt
      rw [← hmn] at q'
      have := limC_any f m.toNat n w.heap.size (w.heap.size + 1) nb 2 2 w1 HK.out HN.out (by have := H3.out; omega) (by have := H1.out; omega) (p.below hb p.lt) q' (n1.below hb n1.lt) i hi
      rw [HN.out] at this
      exact this
    have HG : Hid (eachF (limX f m) (fun _ => 0) = limX f m ∧ eachE (limX f m) (fun _ => 0) = 0) := each_good (fun i hi => ⟨rfl, tow_vb (by have := H3.out; rw [← HN.out]; omega) (lst_part HK.out i hi) (by have := H1.out; omega)⟩)
    have HX2 : Hid (limX f m = X) := by show _ = _; rw [← HX.out, if_neg H3.out]
    clear hmn
    go_wp2_with (first | (go_at_call 81; refine (eachLim_any (limX f m) (fun _ => 0) _ _ _ _ HC).mono ?_; rintro e w5 ⟨rfl, hb⟩; rw [HG.out.1, HG.out.2, HX2.out]; replace hB := hB.trans (hb.mono hB.size); replace r := r.below hb r.lt; clear hb) | (refine wpList_store_row rfl _ _ _ rfl _ rfl _ rfl _ _ r (by rw [vfn_size]; kernel_rfl) (by simp only [vfn_size]) (vfn_one _) ?_))
    refine bodyPost_ret (results_vec rfl _ _ _ _ _ _ _ rfl (r.row (vfn X)) Try.underlying31 rfl (by rw [vfn_size]; kernel_rfl)) rfl ?_; refine ⟨?_, Below.setRow hB (by omega) _⟩
    rw [← HE.out]; rfl
end Go.Proofs.Ytkmelddejdikgaa
