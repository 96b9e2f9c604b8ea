/-
  A body's memory: the block of the body and that of its wheels; the specification's record. No function of the program is walked here.
-/
import Derived.Test.YtkmelddejdikgaaBdM
import Derived.Test.YtkmelddejdikgaaGyA
set_option linter.unusedSimpArgs false
set_option linter.unusedVariables false
namespace Go.Proofs.Ytkmelddejdikgaa
open Go.RowKit PM Dt
def bdc (x : (Nat → Int) × (Nat → Int) × Nat) : Array Value := #[.int .i64 (x.1 0), .int .i64 (x.1 1), .int .i64 (x.1 2), .int .i64 (x.1 3), .int .i64 (x.2.1 0), .int .i64 (x.2.1 1), .int .i64 (x.2.1 2), .pointer (some ⟨x.2.2, 0, none⟩)]
def setc (x : (Nat → Int) × Int) : Array Value := #[.int .i64 (x.1 0), .int .i64 (x.1 1), .int .i64 (x.1 2), .int .i64 (x.1 3), .int .i64 x.2, .bool true]
def rbc (x : BSt) : Array Value := #[.int .i64 (x.Q 0), .int .i64 (x.Q 1), .int .i64 (x.Q 2), .int .i64 (x.Q 3), .int .i64 (x.T 0), .int .i64 (x.T 1), .int .i64 (x.T 2), .int .i64 (x.h 0), .int .i64 (x.h 1), .int .i64 (x.h 2), .int .i64 (x.h 3), .int .i64 x.f]
def BSt.zero : BSt := ⟨fun _ => 0, fun _ => 0, fun _ => 0, 0⟩
theorem zero_spd : (#[.int .i64 0, .int .i64 0, .int .i64 0, .int .i64 0] : Array Value) = qfn (fun _ => 0) := zero_quat
theorem bdc_size (x : (Nat → Int) × (Nat → Int) × Nat) : (bdc x).size = 8 := rfl
theorem rbc_size (x : BSt) : (rbc x).size = 12 := rfl
section
theorem c3 {n : Nat} {P : Nat → Prop} (h : n < 3) (h0 : P 0) (h1 : P 1) (h2 : P 2) : P n := by
  rcases (show n = 0 ∨ n = 1 ∨ n = 2 by omega) with rfl | rfl | rfl <;> assumption
theorem c4 {n : Nat} {P : Nat → Prop} (h : n < 4) (h0 : P 0) (h1 : P 1) (h2 : P 2) (h3 : P 3) : P n := by
  rcases (show n = 0 ∨ n = 1 ∨ n = 2 ∨ n = 3 by omega) with rfl | rfl | rfl | rfl <;> assumption
theorem c5 {n : Nat} {P : Nat → Prop} (h : n < 5) (h0 : P 0) (h1 : P 1) (h2 : P 2) (h3 : P 3) (h4 : P 4) : P n := by
  rcases (show n = 0 ∨ n = 1 ∨ n = 2 ∨ n = 3 ∨ n = 4 by omega) with rfl | rfl | rfl | rfl | rfl <;> assumption
end
variable (Q T h : Nat → Int) (f : Int) (s : Nat) (X : BSt)
theorem bd_q (j : Nat) (hj : j < (qfn Q).size) : (bdc (Q, T, s))[0 + j]? = (qfn Q)[j]? := by
  rw [qfn_size] at hj
  rw [qfn_get _ hj]
  exact c4 (P := fun j => (bdc (Q, T, s))[0 + j]? = some (.int .i64 (Q j))) hj rfl rfl rfl rfl
theorem bd_t (j : Nat) (hj : j < (vfn T).size) : (bdc (Q, T, s))[4 + j]? = (vfn T)[j]? := by
  rw [vfn_size] at hj
  rw [vfn_get _ hj]
  exact c3 (P := fun j => (bdc (Q, T, s))[4 + j]? = some (.int .i64 (T j))) hj rfl rfl rfl
theorem set_h (j : Nat) (hj : j < (qfn h).size) : (setc (h, f))[0 + j]? = (qfn h)[j]? := by
  rw [qfn_size] at hj
  rw [qfn_get _ hj]
  exact c4 (P := fun j => (setc (h, f))[0 + j]? = some (.int .i64 (h j))) hj rfl rfl rfl rfl
theorem set_i {j : Nat} (hj : j < 4) : (setc (h, f))[j]? = some (.int .i64 (h j)) :=
  c4 (P := fun j => (setc (h, f))[j]? = some (.int .i64 (h j))) hj rfl rfl rfl rfl
theorem rb_q (j : Nat) (hj : j < (qfn X.Q).size) : (rbc X)[0 + j]? = (qfn X.Q)[j]? := by
  rw [qfn_size] at hj
  rw [qfn_get _ hj]
  exact c4 (P := fun j => (rbc X)[0 + j]? = some (.int .i64 (X.Q j))) hj rfl rfl rfl rfl
theorem rb_t (j : Nat) (hj : j < (vfn X.T).size) : (rbc X)[4 + j]? = (vfn X.T)[j]? := by
  rw [vfn_size] at hj
  rw [vfn_get _ hj]
  exact c3 (P := fun j => (rbc X)[4 + j]? = some (.int .i64 (X.T j))) hj rfl rfl rfl
theorem rb_h (j : Nat) (hj : j < (qfn X.h).size) : (rbc X)[7 + j]? = (qfn X.h)[j]? := by
  rw [qfn_size] at hj
  rw [qfn_get _ hj]
  exact c4 (P := fun j => (rbc X)[7 + j]? = some (.int .i64 (X.h j))) hj rfl rfl rfl rfl
theorem over_bq (Q' : Nat → Int) : over (bdc (Q, T, s)) 0 (qfn Q').toList = bdc (Q', T, s) := by unfold qfn; rfl
theorem over_bt (T' : Nat → Int) : over (bdc (Q, T, s)) 4 (vfn T').toList = bdc (Q, T', s) := by unfold vfn; rfl
theorem over_v (F G : Nat → Int) : over (vfn F) 0 (vfn G).toList = vfn G := by unfold vfn; rfl
theorem over_qq (F G : Nat → Int) : over (qfn F) 0 (qfn G).toList = qfn G := by unfold qfn; rfl
def preH (new old : Nat → Int) (k : Nat) : Nat → Int := fun i => if i < k then new i else old i
theorem preH_ge {new old : Nat → Int} {k i : Nat} (hi : k ≤ i) : preH new old k i = old i := by unfold preH; rw [if_neg (by omega)]
theorem preH_zero (new old : Nat → Int) : preH new old 0 = old := by funext i; unfold preH; rw [if_neg (by omega)]
theorem preH_same {new old : Nat → Int} {k : Nat} (hk : new k = old k) : preH new old (k + 1) = preH new old k := by
  funext i; unfold preH
  by_cases h1 : i < k
  · rw [if_pos h1, if_pos (by omega)]
  · by_cases h2 : i = k
    · subst h2; rw [if_neg h1, if_pos (by omega), hk]
    · rw [if_neg h1, if_neg (by omega)]
theorem set_pre {new old : Nat → Int} {k : Nat} (hk : k < 4) (v : Int) (hv : v = new k) : (setc (preH new old k, f)).setIfInBounds k (.int .i64 v) = setc (preH new old (k + 1), f) := by
  subst hv
  unfold setc preH
  rcases (show k = 0 ∨ k = 1 ∨ k = 2 ∨ k = 3 by omega) with rfl | rfl | rfl | rfl <;> simp
theorem q_pre {new old : Nat → Int} {k : Nat} (hk : k < 4) (v : Int) (hv : v = new k) : (qfn (preH new old k)).setIfInBounds k (.int .i64 v) = qfn (preH new old (k + 1)) := by
  subst hv
  unfold qfn preH
  rcases (show k = 0 ∨ k = 1 ∨ k = 2 ∨ k = 3 by omega) with rfl | rfl | rfl | rfl <;> simp
theorem q_pre4 (new old : Nat → Int) : qfn (preH new old 4) = qfn new := by unfold qfn preH; simp
def bod (lo b : Nat) (w : World) (X : BSt) : Prop := ∃ s, lo ≤ s ∧ s < b ∧ blk w b (bdc (X.Q, X.T, s)) 158 ∧ blk w s (setc (X.h, X.f)) 230
variable {lo b : Nat} {w w' : World} {X}
theorem bod.lt (h : bod lo b w X) : b < w.heap.size := let ⟨_, _, _, k, _⟩ := h; blk.lt k
theorem bod.lolt (h : bod lo b w X) : lo < b := let ⟨_, l, u, _⟩ := h; by omega
theorem bod.below {B : Nat} (h : bod lo b w X) (hm : Below B w w') (hl : b < B) : bod lo b w' X := let ⟨s, l, u, k, m⟩ := h; ⟨s, l, u, k.below hm hl, m.below hm (by omega)⟩
theorem bod.alloc (h : bod lo b w X) (o : Obj) : bod lo b (w.alloc o) X := let ⟨s, l, u, k, m⟩ := h; ⟨s, l, u, k.alloc o, m.alloc o⟩
theorem bod.drew (h : bod lo b w X) : bod lo b w.drew X := h
theorem bod.rowOther (h : bod lo b w X) {g : Nat} (hg : g < lo ∨ b < g) (c : Array Value) : bod lo b (w.setRow g c) X := let ⟨s, l, u, k, m⟩ := h; ⟨s, l, u, k.rowOther (by omega) c, m.rowOther (by omega) c⟩
theorem bod.congr {Y : BSt} (h : bod lo b w X) (h1 : qfn X.Q = qfn Y.Q) (h2 : vfn X.T = vfn Y.T) (h3 : qfn X.h = qfn Y.h) (h4 : X.f = Y.f) : bod lo b w Y := by
  obtain ⟨s, l, u, k, m⟩ := h
  have e1 : bdc (X.Q, X.T, s) = bdc (Y.Q, Y.T, s) := by
    simp only [qfn, vfn, Array.mk.injEq, List.cons.injEq, Value.int.injEq, and_true, true_and] at h1 h2
    unfold bdc
    simp only [h1, h2]
  have e2 : setc (X.h, X.f) = setc (Y.h, Y.f) := by
    simp only [qfn, Array.mk.injEq, List.cons.injEq, Value.int.injEq, and_true, true_and] at h3
    unfold setc
    simp only [h3, h4]
  rw [e1] at k; rw [e2] at m
  exact ⟨s, l, u, k, m⟩
end Go.Proofs.Ytkmelddejdikgaa
