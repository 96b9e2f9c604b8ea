/-
  Small vectors, and parts of them. Filters, call by call: gyros' contracts in one form, and what stays.
-/
import Derived.Test.YtkmelddejdikgaaFlC
import Derived.Test.YtkmelddejdikgaaLenQ
set_option linter.unusedSimpArgs false
set_option linter.unusedVariables false
namespace Go.Proofs.Ytkmelddejdikgaa
open Go.RowKit PM Dt
theorem small_bd {f : Nat → Int} {m : Int} (h : smallB f m = true) : ∀ i, i < 3 → -m ≤ f i ∧ f i ≤ m := by
  simp only [smallB, sb, Bool.and_eq_true, decide_eq_true_eq] at h
  intro i hi
  rcases (show i = 0 ∨ i = 1 ∨ i = 2 by omega) with rfl | rfl | rfl
  · exact h.1
  · exact h.2.1
  · exact h.2.2
theorem vb_of {a : Int} (h : -1099511627776 ≤ a ∧ a ≤ 1099511627776) : vb a = true := (vb_iff _).2 h
theorem okV_of {f : Nat → Int} (h : ∀ i, i < 3 → -1099511627776 ≤ f i ∧ f i ≤ 1099511627776) : okV f = true := (okV_iff f).2 fun i hi => vb_of (h i hi)
theorem vsub_small {r B : Nat → Int} (hr : smallB r 268435456 = true) (hB : ∀ i, i < 3 → -16777216 ≤ B i ∧ B i ≤ 16777216) : ∀ i, i < 3 → vsubF r B i = r i - B i := by
  have h1 := small_bd hr
  have o1 : okV r = true := okV_of fun i hi => by have := h1 i hi; omega
  have o2 : okV B = true := okV_of fun i hi => by have := hB i hi; omega
  have o3 : okV (subF r B) = true := okV_of fun i hi => by have := hB i hi; have := h1 i hi; unfold subF; omega
  intro i hi
  unfold vsubF resF
  rw [o1, o2, o3]
  rfl
theorem ratio1 {a d : Int} (hd : 0 < d) (hd2 : d ≤ 1099511627776) (ha : I64 a) : ratioV a 1 d = (2 * a + d) / (2 * d) := by
  have h3 : d ≠ 0 := by omega
  have h4 : ¬ d < 0 := by omega
  have h0 : (2 * a + d) / (2 * d) ≤ 9223372036854775807 ∧ -9223372036854775808 ≤ (2 * a + d) / (2 * d) := by
    constructor
    · refine Int.le_of_lt_add_one ((Int.ediv_lt_iff_lt_mul (by omega)).2 ?_)
      have := ha.2
      have h5 : 9223372036854775808 * (2 * d) ≥ 9223372036854775808 * 2 := by omega
      by_cases h6 : d = 1
      · subst h6; omega
      · omega
    · refine (Int.le_ediv_iff_mul_le (by omega)).2 ?_
      have := ha.1
      omega
  unfold ratioV ratioQ
  rw [if_neg h3, if_neg h4, Int.mul_one]
  unfold nearest fitV inI
  rw [if_pos (by rw [Bool.and_eq_true, decide_eq_true_eq, decide_eq_true_eq]; exact ⟨h0.2, h0.1⟩)]
end Go.Proofs.Ytkmelddejdikgaa
namespace Go.Proofs.Ytkmelddejdikgaa
open Go.RowKit PM Dt
/-- A filter that is one. -/
structure FI (Q B : Nat → Int) : Prop where
  i : ∀ i, i < 4 → I64 (Q i)
  v : validQ Q = true
  b : ∀ i, i < 3 → -16777216 ≤ B i ∧ B i ≤ 16777216
theorem valid_nz {Q : Nat → Int} (hI : ∀ i, i < 4 → I64 (Q i)) (hv : validQ Q = true) : zQ Q = false := by
  obtain ⟨_, h, _⟩ := valid_nn hI hv
  cases hz : zQ Q with
  | false => rfl
  | true =>
    exfalso
    have z : ∀ i, i < 4 → Q i = 0 := fun i hi => by
      unfold zQ at hz
      have := List.all_eq_true.1 hz i (List.mem_range.2 hi)
      simpa using this
    unfold nn at h
    rw [z 0 (by omega), z 1 (by omega), z 2 (by omega), z 3 (by omega)] at h
    omega
theorem FI.nz {Q B : Nat → Int} (h : FI Q B) : zQ Q = false := valid_nz h.i h.v
theorem small_of {h : Nat → Int} {m : Int} (hh : ∀ i, i < 3 → -m ≤ h i ∧ h i ≤ m) : smallB h m = true := (smallB_iff h m).2 fun i hi => (sb_iff _ _).2 (hh i hi)
theorem ftF_ok {Q h : Nat → Int} (hI : ∀ i, i < 4 → I64 (Q i)) (hv : validQ Q = true) (hh : smallB h 1073741824 = true) : (∀ i, i < 4 → I64 (ftF Q h i)) ∧ validQ (ftF Q h) = true := by
  unfold ftF
  split
  · exact ⟨hI, hv⟩
  · obtain ⟨_, h1, h2, h3⟩ := turn_core hI hv hh
    rw [h1]
    obtain ⟨_, h4, _⟩ := qun_core h2 h3
    exact ⟨fun i hi => by have := okQ_bd h4 hi; exact ⟨by omega, by omega⟩, (qun_valid h2 h3).1⟩
def predE (r : Nat → Int) : Int := if smallB r 268435456 then 0 else 2
def predQ (Q B r : Nat → Int) : Nat → Int := if smallB r 268435456 then ftF Q (partF (vsubF r B) 2) else Q
def corQ (Q q : Nat → Int) : Nat → Int := if betE Q q = 0 then ftF Q (partF (offF (betF Q q)) 4) else Q
def corB (Q B q : Nat → Int) : Nat → Int := if betE Q q = 0 ∧ smallB (offF (betF Q q)) 1048576 = true then corF B (offF (betF Q q)) else B
theorem conj_nn {f : Nat → Int} (hk : okQ f = true) : nn (conjF f) = nn f := by
  have e0 : conjF f 0 = f 0 := rfl
  have w : ∀ i, i < 4 → wrap64 (-f i) = -f i := fun i hi => by have := okQ_bd hk hi; unfold wrap64; omega
  have e1 : conjF f 1 = -f 1 := w 1 (by omega)
  have e2 : conjF f 2 = -f 2 := w 2 (by omega)
  have e3 : conjF f 3 = -f 3 := w 3 (by omega)
  unfold nn
  rw [e0, e1, e2, e3]
  grind
theorem sq_le_of {x y : Int} (hy : 0 ≤ y) (h : x * x < y * y) : -y < x ∧ x < y := by
  constructor
  · apply Classical.byContradiction; intro hn
    have h1 : y ≤ -x := by omega
    have h2 := Int.mul_le_mul h1 h1 hy (by omega)
    have h3 : -x * -x = x * x := by grind
    omega
  · apply Classical.byContradiction; intro hn
    have h1 : y ≤ x := by omega
    have h2 := Int.mul_le_mul h1 h1 hy (by omega)
    omega
theorem nn_part (f : Nat → Int) {i : Nat} (hi : i < 4) : f i * f i ≤ nn f := by
  have s : ∀ x : Int, 0 ≤ x * x := fun x => by
    rcases Int.le_total 0 x with h | h
    · exact Int.mul_nonneg h h
    · have := Int.mul_nonneg (show 0 ≤ -x by omega) (show 0 ≤ -x by omega)
      have e : -x * -x = x * x := by grind
      omega
  have s0 := s (f 0)
  have s1 := s (f 1)
  have s2 := s (f 2)
  have s3 := s (f 3)
  unfold nn
  rcases (show i = 0 ∨ i = 1 ∨ i = 2 ∨ i = 3 by omega) with rfl | rfl | rfl | rfl <;> omega
theorem pe_part {f g : Nat → Int} (h1 : nn f < 1073741829 * 1073741829) (h2 : nn g < 1073741829 * 1073741829) {i : Nat} (hi : i < 4) : -1152921515344265241 < pe f g i ∧ pe f g i < 1152921515344265241 := by
  refine sq_le_of (by decide) ?_
  have h3 := nn_part (pe f g) hi
  rw [pe_nn] at h3
  have h4 := nn_nonneg f
  have h5 := nn_nonneg g
  have h6 : nn f * nn g ≤ nn f * (1073741829 * 1073741829) := Int.mul_le_mul_of_nonneg_left (by omega) h4
  have h7 : (1152921515344265241 : Int) * 1152921515344265241 = 1152921515344265241 * (1073741829 * 1073741829) := by decide
  omega
theorem bet_small {f g : Nat → Int} (hI : ∀ i, i < 4 → I64 (f i)) (hJ : ∀ i, i < 4 → I64 (g i)) (hf : validQ f = true) (hg : validQ g = true) {i : Nat} (hi : i < 4) : -1073741836 ≤ betF f g i ∧ betF f g i ≤ 1073741836 := by
  obtain ⟨k1, l1, u1⟩ := valid_nn hI hf
  obtain ⟨k2, l2, u2⟩ := valid_nn hJ hg
  have kc : okQ (conjF f) = true := (okQ_iff _).2 fun j hj => by
    have := okQ_bd k1 hj
    refine (vb_iff _).2 ?_
    have w : wrap64 (-f j) = -f j := by unfold wrap64; omega
    unfold conjF
    split
    · have := okQ_bd k1 (i := 0) (by omega); omega
    · rw [w]; omega
  obtain ⟨e, he, l, u⟩ := prod_err kc k2 hi
  have := pe_part (f := conjF f) (g := g) (by rw [conj_nn k1]; exact u1) u2 hi
  unfold betF
  rw [hf, hg]
  show -1073741836 ≤ betX f g i ∧ betX f g i ≤ 1073741836
  unfold betX
  split
  · unfold negF; omega
  · omega
theorem betE_valid {f g : Nat → Int} (h : betE f g = 0) : validQ f = true ∧ validQ g = true := by
  unfold betE at h
  split at h
  · rename_i h2; simpa using h2
  · omega
theorem betE_cases (f g : Nat → Int) : betE f g = 0 ∨ betE f g = 2 := by unfold betE; split <;> simp
theorem half_small {r B : Nat → Int} (hr : smallB r 268435456 = true) (hB : ∀ i, i < 3 → -16777216 ≤ B i ∧ B i ≤ 16777216) : smallB (partF (vsubF r B) 2) 1073741824 = true := small_of fun i hi => by
  have h1 := small_bd hr i hi
  have h2 := hB i hi
  unfold partF
  rw [vsub_small hr hB i hi, ratio1 (by omega) (by omega) ⟨by omega, by omega⟩]
  omega
theorem quart_small {Q q : Nat → Int} (hI : ∀ i, i < 4 → I64 (Q i)) (hJ : ∀ i, i < 4 → I64 (q i)) (h : betE Q q = 0) : smallB (partF (offF (betF Q q)) 4) 1073741824 = true := small_of fun i hi => by
  obtain ⟨v1, v2⟩ := betE_valid h
  have := bet_small hI hJ v1 v2 (i := i + 1) (by omega)
  unfold partF offF
  rw [ratio1 (by omega) (by omega) ⟨by omega, by omega⟩]
  omega
theorem clampV_bd (x : Int) : -16777216 ≤ clampV x (-16777216) 16777216 ∧ clampV x (-16777216) 16777216 ≤ 16777216 := by
  unfold clampV; split <;> (try split) <;> omega
theorem FI.pred {Q B : Nat → Int} (h : FI Q B) (r : Nat → Int) : FI (predQ Q B r) B := by
  unfold predQ
  split
  · rename_i hr
    obtain ⟨h1, h2⟩ := ftF_ok h.i h.v (half_small hr h.b)
    exact ⟨h1, h2, h.b⟩
  · exact h
theorem FI.cor {Q B : Nat → Int} (h : FI Q B) {q : Nat → Int} (hq : ∀ i, i < 4 → I64 (q i)) : FI (corQ Q q) (corB Q B q) := by
  have hb : ∀ i, i < 3 → -16777216 ≤ corB Q B q i ∧ corB Q B q i ≤ 16777216 := fun i hi => by
    unfold corB
    split
    · exact clampV_bd _
    · exact h.b i hi
  unfold corQ
  split
  · rename_i he
    obtain ⟨h1, h2⟩ := ftF_ok h.i h.v (quart_small h.i hq he)
    exact ⟨h1, h2, hb⟩
  · exact ⟨h.i, h.v, hb⟩
theorem FI.new {q : Nat → Int} (hq : ∀ i, i < 4 → I64 (q i)) (hv : validQ q = true) : FI q (fun _ => 0) := ⟨hq, hv, fun i hi => by show -16777216 ≤ (0 : Int) ∧ (0 : Int) ≤ 16777216; omega⟩
theorem pred_any (Q B r : Nat → Int) (b : Nat) (w : World) (hg : blk w b (fltc (Q, B)) 160) (h : FI Q B) : Calls Try.prog 41 #[.pointer (some ⟨b, 0, none⟩), .agg (vfn r)] w fun e w' => e = .returned (.int .i64 (predE r)) ∧ Below w.heap.size (w.setRow b (fltc (predQ Q B r, B))) w' := by
  unfold predE predQ
  cases hr : smallB r 268435456 with
  | true => exact fpred_ok Q B r b w hg h.nz hr h.i
  | false =>
    have e : w.setRow b (fltc (Q, B)) = w := setRow_self w b _ _ _ hg
    rw [if_neg (by decide), if_neg (by decide), e]
    exact fpred_no Q B r b w hg h.nz hr
theorem cor_any (Q B q : Nat → Int) (b : Nat) (w : World) (hg : blk w b (fltc (Q, B)) 160) (h : FI Q B) (hq : ∀ i, i < 4 → I64 (q i)) : Calls Try.prog 42 #[.pointer (some ⟨b, 0, none⟩), .agg (qfn q)] w fun e w' => e = .returned (.int .i64 (betE Q q)) ∧ Below w.heap.size (w.setRow b (fltc (corQ Q q, corB Q B q))) w' := by
  unfold corQ corB
  rcases betE_cases Q q with he | he
  · cases hw : smallB (offF (betF Q q)) 1048576 with
    | true =>
      rw [if_pos he, if_pos ⟨he, rfl⟩, he]
      exact fcor_yes Q B q b w hg h.nz h.i hq he hw h.b
    | false =>
      rw [if_pos he, if_neg (by simp), he]
      exact fcor_off Q B q b w hg h.nz h.i hq he hw
  · have e : w.setRow b (fltc (Q, B)) = w := setRow_self w b _ _ _ hg
    rw [if_neg (by omega), if_neg (by omega), he, e]
    exact fcor_no Q B q b w hg h.nz h.i hq he
end Go.Proofs.Ytkmelddejdikgaa
