/-
  Shortened vectors, in the package: sums of squares, the least integer that is not below a norm, quotients toward zero. Shortened vectors, in the package: the least integer that is not below a norm. Shortened vectors, in the package: quotients toward zero, and Limit.
-/
import Derived.Test.YtnkjbdfhdenbcaaVUnit
import Derived.Test.YtnkjbdfhdenbcaaShift
set_option linter.unusedSimpArgs false
set_option linter.unusedVariables false
namespace Go.Proofs.Ytnkjbdfhdenbcaa
open Go.RowKit PM Dt
theorem sqs_small : ∀ (xs : List Int), (∀ k, k < xs.length → -4398046511104 ≤ xs.getD k 0 ∧ xs.getD k 0 ≤ 4398046511104) → sqs xs ≤ xs.length * 19342813113834066795298816
  | [], _ => by rw [sqs_nil]; exact Nat.zero_le _
  | x :: xs, hi => by
    have h1 := sqs_small xs (fun i h => by have := hi (i + 1) (by simpa using h); simpa using this)
    have hx : -4398046511104 ≤ x ∧ x ≤ 4398046511104 := by have := hi 0 (by simp); simpa using this
    have h2 : x.natAbs * x.natAbs ≤ 19342813113834066795298816 := Nat.le_trans (Nat.mul_le_mul (show x.natAbs ≤ 4398046511104 by omega) (show x.natAbs ≤ 4398046511104 by omega)) (by decide)
    rw [sqs_cons, List.length_cons]
    omega
end Go.Proofs.Ytnkjbdfhdenbcaa
namespace Go.Proofs.Ytnkjbdfhdenbcaa
open Go.RowKit PM Dt
def sq3 (f : Nat → Int) : Nat := sqs [f 0, f 1, f 2]
def lstN (f : Nat → Int) : Nat := isqrt (sq3 f)
/-- The least integer that is not below the norm. -/
def lst (f : Nat → Int) : Nat := lstN f + if sq3 f = lstN f * lstN f then 0 else 1
theorem ok_sq {f : Nat → Int} (h : okV f = true) : sq3 f ≤ 3626777458843887524118528 := by
  have q : ∀ i, i < 3 → f i * f i ≤ 1208925819614629174706176 := fun i hi => by
    have hh := (vb_iff _).1 ((okV_iff f).1 h i hi)
    exact (bmul (P := 1099511627776) (R := 1099511627776) hh.1 hh.2 hh.1 hh.2).2
  have e := sqs3_i f
  have q0 := q 0 (by omega)
  have q1 := q 1 (by omega)
  have q2 := q 2 (by omega)
  unfold sq3
  omega
theorem lstN_spec {f : Nat → Int} (h : okV f = true) : lstN f * lstN f ≤ sq3 f ∧ sq3 f < (lstN f + 1) * (lstN f + 1) ∧ lstN f < 2199023255552 := by
  have hS := ok_sq h
  unfold lstN
  generalize sq3 f = S at *
  have h4 : S < 4 ^ 200 := Nat.lt_of_le_of_lt hS (by decide)
  exact ⟨(isqrt_ge h4).1 (Nat.le_refl _), (isqrt_lt h4).1 (Nat.lt_succ_self _), (isqrt_lt h4).2 (by omega)⟩
theorem lst_above {f : Nat → Int} (h : okV f = true) (m : Nat) : m < lst f ↔ m * m < sq3 f := by
  obtain ⟨h1, h2, h3⟩ := lstN_spec h
  unfold lst
  generalize lstN f = N at *
  generalize sq3 f = S at *
  have key : ∀ a b : Nat, a ≤ b → a * a ≤ b * b := fun a b h => Nat.mul_le_mul h h
  split
  · rename_i he
    constructor
    · intro hm
      have : (m + 1) * (m + 1) ≤ N * N := key _ _ (by omega)
      have e : (m + 1) * (m + 1) = m * m + 2 * m + 1 := by rw [Nat.add_mul, Nat.mul_add]; omega
      omega
    · intro hm
      apply Classical.byContradiction; intro hc
      have := key N m (by omega)
      omega
  · rename_i hne
    constructor
    · intro hm
      have := key m N (by omega)
      omega
    · intro hm
      apply Classical.byContradiction; intro hc
      have := key (N + 1) m (by omega)
      omega
theorem lst_small {f : Nat → Int} (h : okV f = true) : lst f ≤ 2199023255552 := by
  obtain ⟨_, _, h3⟩ := lstN_spec h
  unfold lst; split <;> omega
theorem lst_fit {f : Nat → Int} (h : okV f = true) : fitV (n3 f) = (lstN f : Int) := by
  obtain ⟨_, _, h3⟩ := lstN_spec h
  exact (fit_of (q := n3 f) (by unfold n3 hypQ; show _ ≤ ((lstN f : Nat) : Int); omega) (by unfold n3 hypQ; show ((lstN f : Nat) : Int) ≤ _; omega)).1
theorem lst_part {f : Nat → Int} (h : okV f = true) (i : Nat) (hi : i < 3) : (f i).natAbs ≤ lst f := by
  apply Classical.byContradiction; intro hc
  have h1 : ¬ ((lst f) * (lst f) < sq3 f) := fun hh => Nat.lt_irrefl _ ((lst_above h _).2 hh)
  have e := sqs3_i f
  have h2 : (lst f + 1) * (lst f + 1) ≤ (f i).natAbs * (f i).natAbs := Nat.mul_le_mul (by omega) (by omega)
  have h3 : (lst f + 1) * (lst f + 1) = lst f * lst f + 2 * lst f + 1 := by rw [Nat.add_mul, Nat.mul_add]; omega
  have h4 : (f i).natAbs * (f i).natAbs ≤ sq3 f := by
    unfold sq3
    rw [sqs_cons, sqs_cons, sqs_cons, sqs_nil]
    have : i = 0 ∨ i = 1 ∨ i = 2 := by omega
    rcases this with rfl | rfl | rfl <;> omega
  omega
theorem wpList_build1 {P : Program} {ops : Array Oper} {rest : List Oper} {o : Oper} {a : Act} {w : World} {Q : Exit → Act → World → Prop} (hg : o.guard = none) {t e : TypeId} {x0 : Operand} (ho : o.op = .buildSlice t 1 #[(0, x0)])
    {n0 : Int} (h0 : a.eval x0 = .int .i64 n0)
    (hu : P.underlying t = some (.slice e)) (hsz : (P.info? e).map (·.size) = some 1) (hz : ((P.info? e).bind (·.zero)).isSome = true)
    (h : ∀ b w', More w w' → blk w' b #[.int .i64 n0] e → wpList P ops Q rest (a.put o.dst (.slice (some ⟨b, 0, none⟩) 1 1)) w') : wpList P ops Q (o :: rest) a w :=
  wpList_buildI hg t e 1 _ ho [n0] hu hsz hz rfl (by omega) (by decide) (by simp [h0]) h
theorem ints1 {w : World} {b : Nat} {x : Int} {t : TypeId} (h : blk w b #[.int .i64 x] t) : Ints w (.slice (some ⟨b, 0, none⟩) 1 1) [x] :=
  Or.inr ⟨by simp, b, 0, 1, rfl, h.lt, fun k hk => by
    have hk : k < 1 := hk
    obtain rfl : k = 0 := by omega
    exact h.cellIs rfl⟩
end Go.Proofs.Ytnkjbdfhdenbcaa
namespace Go.Proofs.Ytnkjbdfhdenbcaa
open Go.RowKit PM Dt
def towV (a : Int) (m n : Nat) : Int := if a < 0 then -((a.natAbs * m / n : Nat) : Int) else ((a.natAbs * m / n : Nat) : Int)
theorem tow_le {x m n : Nat} (hn : 0 < n) (h : x ≤ n) : x * m / n ≤ m :=
  Nat.div_le_of_le_mul (Nat.mul_le_mul h (Nat.le_refl m))
theorem tow_hi {x m n : Nat} (hn : 0 < n) (h : x ≤ n) (hm : m ≤ 1099511627776) : x * m / 18446744073709551616 < n := by
  have h1 : x * m ≤ n * 1099511627776 := Nat.mul_le_mul h hm
  omega
theorem tow_wraps {q : Nat} (h : q ≤ 1099511627776) : IntKind.i64.wrap (q : Int) = (q : Int) ∧ IntKind.i64.wrap (-(q : Int)) = -(q : Int) ∧ wrap64 (q : Int) = (q : Int) ∧ wrap64 (-(q : Int)) = -(q : Int) :=
  ⟨by rw [IntKind.wrap_i64]; omega, by rw [IntKind.wrap_i64]; omega, by unfold wrap64; omega, by unfold wrap64; omega⟩
theorem tow_wrapA {a : Int} {A : Nat} (hA : A = a.natAbs) (h : A ≤ 2199023255552) : [wrap64 (-a)].foldl mx a = (A : Int) := by
  have hwn : wrap64 (-a) = -a := by unfold wrap64; omega
  rw [hwn]; show mx a (-a) = _; unfold mx; split <;> omega
theorem tow_wrapU {q : Nat} (h : q ≤ 2199023255552) : IntKind.u64.wrap (q : Int) = (q : Int) := by rw [IntKind.wrap_u64]; omega
end Go.Proofs.Ytnkjbdfhdenbcaa
