/-
  A control's memory, plainly: what a step makes of it. No function of the program is walked here.
-/
import Derived.Test.YtkmelddejdikgaaBdO
import Derived.Test.YtkmelddejdikgaaWhD
set_option linter.unusedSimpArgs false
set_option linter.unusedVariables false
namespace Go.Proofs.Ytkmelddejdikgaa
open Go.RowKit PM Dt
structure SeT where
  rate : Nat → Int
  sp : Nat → Int
  f : Int
  sun : Nat → Int
  att : Nat → Int
structure SSt where
  D : Nat → Int
  A : Nat → Int
  P : Nat → Int
  g : Bool
def SeT.zero : SeT := ⟨fun _ => 0, fun _ => 0, 0, fun _ => 0, fun _ => 0⟩
def SSt.zero : SSt := ⟨fun _ => 0, fun _ => 0, fun _ => 0, false⟩
def sec (v : SeT) : Array Value := #[.int .i64 (v.rate 0), .int .i64 (v.rate 1), .int .i64 (v.rate 2), .int .i64 (v.sp 0), .int .i64 (v.sp 1), .int .i64 (v.sp 2), .int .i64 (v.sp 3), .int .i64 v.f, .int .i64 (v.sun 0), .int .i64 (v.sun 1), .int .i64 (v.sun 2), .int .i64 (v.att 0), .int .i64 (v.att 1), .int .i64 (v.att 2), .int .i64 (v.att 3)]
def ssc (X : SSt) : Array Value := #[.int .i64 (X.D 0), .int .i64 (X.D 1), .int .i64 (X.D 2), .int .i64 (X.A 0), .int .i64 (X.A 1), .int .i64 (X.A 2), .int .i64 (X.P 0), .int .i64 (X.P 1), .int .i64 (X.P 2), .int .i64 (X.P 3), .bool X.g, .bool true]
theorem sec_size (v : SeT) : (sec v).size = 15 := rfl
theorem ssc_size (X : SSt) : (ssc X).size = 12 := rfl
theorem sec_one (v : SeT) : (sec v).all (·.oneCell') = true := by simp [sec, Value.oneCell']
theorem sec_zero : (#[.int .i64 0, .int .i64 0, .int .i64 0, .int .i64 0, .int .i64 0, .int .i64 0, .int .i64 0, .int .i64 0, .int .i64 0, .int .i64 0, .int .i64 0, .int .i64 0, .int .i64 0, .int .i64 0, .int .i64 0] : Array Value) = sec SeT.zero := rfl
theorem se_r (v : SeT) (j : Nat) (hj : j < (vfn v.rate).size) : (sec v)[0 + j]? = (vfn v.rate)[j]? := by
  rw [vfn_size] at hj
  rw [vfn_get _ hj]
  exact c3 (P := fun j => (sec v)[0 + j]? = some (.int .i64 (v.rate j))) hj rfl rfl rfl
theorem se_p (v : SeT) (j : Nat) (hj : j < (qfn v.sp).size) : (sec v)[3 + j]? = (qfn v.sp)[j]? := by
  rw [qfn_size] at hj
  rw [qfn_get _ hj]
  exact c4 (P := fun j => (sec v)[3 + j]? = some (.int .i64 (v.sp j))) hj rfl rfl rfl rfl
theorem se_s (v : SeT) (j : Nat) (hj : j < (vfn v.sun).size) : (sec v)[8 + j]? = (vfn v.sun)[j]? := by
  rw [vfn_size] at hj
  rw [vfn_get _ hj]
  exact c3 (P := fun j => (sec v)[8 + j]? = some (.int .i64 (v.sun j))) hj rfl rfl rfl
theorem se_ri (v : SeT) {k : Nat} (hk : k < 3) : (sec v)[k]? = some (.int .i64 (v.rate k)) := c3 (P := fun j => (sec v)[j]? = some (.int .i64 (v.rate j))) hk rfl rfl rfl
theorem st_d (X : SSt) (j : Nat) (hj : j < (vfn X.D).size) : (ssc X)[0 + j]? = (vfn X.D)[j]? := by
  rw [vfn_size] at hj
  rw [vfn_get _ hj]
  exact c3 (P := fun j => (ssc X)[0 + j]? = some (.int .i64 (X.D j))) hj rfl rfl rfl
theorem st_a (X : SSt) (j : Nat) (hj : j < (vfn X.A).size) : (ssc X)[3 + j]? = (vfn X.A)[j]? := by
  rw [vfn_size] at hj
  rw [vfn_get _ hj]
  exact c3 (P := fun j => (ssc X)[3 + j]? = some (.int .i64 (X.A j))) hj rfl rfl rfl
theorem st_p (X : SSt) (j : Nat) (hj : j < (qfn X.P).size) : (ssc X)[6 + j]? = (qfn X.P)[j]? := by
  rw [qfn_size] at hj
  rw [qfn_get _ hj]
  exact c4 (P := fun j => (ssc X)[6 + j]? = some (.int .i64 (X.P j))) hj rfl rfl rfl rfl
theorem st_di (X : SSt) {k : Nat} (hk : k < 3) : (ssc X)[k]? = some (.int .i64 (X.D k)) := c3 (P := fun j => (ssc X)[j]? = some (.int .i64 (X.D j))) hk rfl rfl rfl
theorem over_sa (D A P A' : Nat → Int) (g : Bool) : over (ssc ⟨D, A, P, g⟩) 3 (vfn A').toList = ssc ⟨D, A', P, g⟩ := by unfold vfn; rfl
theorem over_sp (D A P P' : Nat → Int) (g : Bool) : over (ssc ⟨D, A, P, g⟩) 6 (qfn P').toList = ssc ⟨D, A, P', g⟩ := by unfold qfn; rfl
theorem set_g (D A P : Nat → Int) (g : Bool) : (ssc ⟨D, A, P, g⟩).setIfInBounds 10 (.bool true) = ssc ⟨D, A, P, true⟩ := rfl
theorem st_pre (A P : Nat → Int) (g : Bool) {new old : Nat → Int} {k : Nat} (hk : k < 3) (v : Int) (hv : v = new k) : (ssc ⟨preH new old k, A, P, g⟩).setIfInBounds k (.int .i64 v) = ssc ⟨preH new old (k + 1), A, P, g⟩ := by
  subst hv
  unfold ssc preH
  rcases (show k = 0 ∨ k = 1 ∨ k = 2 by omega) with rfl | rfl | rfl <;> simp
theorem st_pre3 (A P new old : Nat → Int) (g : Bool) : ssc ⟨preH new old 3, A, P, g⟩ = ssc ⟨new, A, P, g⟩ := by unfold ssc preH; simp
theorem v_pre {new old : Nat → Int} {k : Nat} (hk : k < 3) (v : Int) (hv : v = new k) : (vfn (preH new old k)).setIfInBounds k (.int .i64 v) = vfn (preH new old (k + 1)) := by
  subst hv
  unfold vfn preH
  rcases (show k = 0 ∨ k = 1 ∨ k = 2 by omega) with rfl | rfl | rfl <;> simp
theorem v_pre3 (new old : Nat → Int) : vfn (preH new old 3) = vfn new := by unfold vfn preH; simp
def spdE (a b : Nat → Int) : Bool := (List.range 4).all fun j => a j == b j
def senseOk (v : SeT) : Bool := newB v.sp v.f && (smallB v.rate 268435456 && smallB v.sun 2147483648)
def arrB (X : SSt) (v : SeT) : Bool := X.g && spdE v.sp X.P
def stD (arr : Bool) (X : SSt) (To : Nat → Int) : Nat → Int := fun i => if arr then X.D i + clampV (To i - X.D i) (-262144) 262144 else X.D i
def rstF (v : SeT) (D : Nat → Int) : Nat → Int := fun i => sumW v.sp i + (v.rate i / 4 - D i)
def stP (v : SeT) (D : Nat → Int) : Nat → Int := allF (rstF v D) v.f
def stX (X : SSt) (v : SeT) (A To : Nat → Int) : SSt := ⟨stD (arrB X v) X To, A, stP v (stD (arrB X v) X To), true⟩
def stC (X : SSt) (v : SeT) (To : Nat → Int) : Nat → Int := cmdF v.sp v.f (stP v (stD (arrB X v) X To))
theorem clampR_bd (x : Int) : -262144 ≤ clampV x (-262144) 262144 ∧ clampV x (-262144) 262144 ≤ 262144 := by
  unfold clampV; split <;> (try split) <;> omega
end Go.Proofs.Ytkmelddejdikgaa
