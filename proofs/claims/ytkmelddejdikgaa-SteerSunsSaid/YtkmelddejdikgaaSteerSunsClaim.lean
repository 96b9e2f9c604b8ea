/-
  The statement SteerSuns holds: for every input the law returns true, and its arguments read as they did. No condition. The walk is told in YtkmelddejdikgaaSuW; the frame of the row is printed after the kit's proof-skeleton.
-/
import Derived.Test.YtkmelddejdikgaaRows
import Derived.Test.YtkmelddejdikgaaSuW
import Derived.Test.YtkmelddejdikgaaArgV
import Derived.Test.YtkmelddejdikgaaArg
import Derived.WalkKit
import Derived.ProofKit
import Derived.OpenShut
import Derived.ShutString
import Derived.ChangeOld
import Derived.Below
namespace Go.Proofs.Ytkmelddejdikgaa.steerSuns
open Go.ChangeShapes Go.WideShapes Go.ChangeAt Go.RowKit PM Dt
open Go.ChangeMaps (open_string shut_string)
set_option linter.unusedVariables false      -- a walk need not use every fact of its parameters
theorem own : ownKnob Try.prog.godebug = none := by kernel_rfl
theorem walk (x0 : ((Nat → Int) × (Nat → Int) × (Nat → Int) × Int)) (h0 : Wst6 x0) (x1 : (Nat → Int)) (h1 : (∀ i, i < 3 → I64 (x1 i))) (w : World) :
    Calls Try.prog 8 #[.agg (stc x0), .agg (vfn x1)] w fun e w' => e = .returned (.bool true) ∧ Below w.heap.size w w' := by
  exact ssun_any ⟨x0.1, x0.2.1, x0.2.2.1, x0.2.2.2⟩ x1 w h0.1 h1
set_option maxRecDepth 100000 in
theorem lifted (os : Os) (started : os.Started) (H : Type) (enc : TypeId × Value → H) :
    ReturnsInHanded {} Try.checked os 8 .any (Rows.steerSunsSpec.pre6 enc Try.prog Try.f8 Rows.steerSunsRow.domain false) (Rows.steerSunsSpec.post enc Try.prog Try.f8 false true false false) := by
  refine returnsInHanded_of_change (C := Try.checked) own started (by kernel_rfl) Try.func8
    (ChangeSpec.witness6 (enc := enc) (C := Try.checked) false ⟨#[], #[.agg #[.int .i64 0, .int .i64 0, .int .i64 0, .int .i64 0, .int .i64 0, .int .i64 0, .int .i64 0, .int .i64 0, .int .i64 0, .int .i64 0, .int .i64 0, .int .i64 0], .agg #[.int .i64 0, .int .i64 0, .int .i64 0]], []⟩ 8 (by kernel_rfl) (by kernel_rfl) (by kernel_rfl) (by kernel_rfl)) ?_
  intro W base args ds gs before hval0 hW hcnd _
  have hval : ∀ (j : Nat) t v, Try.f8.params[j]? = some t → args[j]? = some v → Value.okWide Try.prog W .any base t v := hval0
  have hW' := hW
  obtain ⟨p, q, hA0, hV, rfl, hfz, hnd⟩ := hW
  have hA : DataW.TrodAll enc Try.prog W 0 (fun _ => true) true Try.f8.params.toList args.toList ds p := hA0
  rw [Try.params8] at hA hval
  have hA2 := hA
  obtain ⟨v0, vs0, d0, ds0, p0, q0, hargs, rfl, rfl, t0, r0⟩ := trodAll_cons hA
  obtain ⟨v1, vs1, d1, ds1, p1, q1, rfl, rfl, rfl, t1, r1⟩ := trodAll_cons r0
  obtain ⟨rfl, rfl, rfl⟩ := trodAll_nil r1
  obtain rfl : args = #[v0, v1] := by cases args; simp_all
  obtain ⟨rfl, rfl⟩ := trodVars_none hV
  obtain ⟨x0, rfl, h0⟩ := open_st6 (hval 0 76 v0 rfl rfl) t0
  obtain ⟨x1, rfl, h1⟩ := open_vect (hval 1 31 v1 rfl rfl) t1
  clear hA0 hval0
  refine (walk x0 h0 x1 h1 W).mono fun e W' ⟨he, hg⟩ => ?_
  subst he
  refine ⟨_, rfl, _, _, _, [], _, [], hW', (trodAll_cons_mk (shut_bool Try.underlying4 _) trodAll_mk0), all_stays (by kernel_rfl) hg _ _ _ _ (by kernel_rfl) hA2 (fun p hp => hW'.lt p (List.mem_append_left _ hp)) (fun p hp => ?_), rfl, hg.frame _, fun h => by cases h⟩
  have hlt := hW'.lt p (List.mem_append_left _ hp)
  first | exact decide_eq_true hlt | rfl | simpa using hlt
theorem joined : joinedFacts Try.pinned.checked.prog 8 Try.f8 Rows.steerSunsSpec Rows.steerSunsRow = true := by
  have c1 : (Rows.steerSunsRow.lifted == Program.liftsFinal Try.pinned.checked.prog) = true := by rw [prog_liftsFinal]; rfl
  have c2 : (Program.make Try.pinned.checked.prog == some Rows.steerSunsRow.make) = true := by rw [prog_make]; rfl
  have c3 := prog_mayEnter
  unfold joinedFacts
  simp only [c1, c2, c3]
  repeat (rw [Bool.and_eq_true]; refine ⟨?_, ?_⟩)
  all_goals kernel_rfl
theorem over : Rows.steerSunsRow.holds Try.pinned (OpenSpec.ofChange Rows.steerSunsSpec) :=
  OpenClaim.holds_of_wide 8 Try.f8 rfl rfl rfl rfl rfl rfl rfl ⟨rfl, rfl, rfl, rfl, rfl⟩ rfl rfl rfl rfl rfl (by kernel_rfl) Try.func8 joined
    (of_decide_eq_true (by kernel_rfl)) (by unfold Func.isWrapper; first | (rw [if_pos (by decide +kernel)]; kernel_rfl) | (rw [if_neg (by decide +kernel)]; exact ⟨rfl, rfl⟩))
    (fun os started H enc _ => lifted os started H enc)
theorem proved : Rows.SteerSunsSaid :=
  over
#print axioms proved
end Go.Proofs.Ytkmelddejdikgaa.steerSuns
