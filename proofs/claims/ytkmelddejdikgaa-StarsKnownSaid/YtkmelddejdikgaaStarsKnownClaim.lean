/-
  The statement StarsKnown holds: for every input the law returns true, and its arguments read as they did. No condition. The walk is told in YtkmelddejdikgaaSkM; the frame of the row is printed after the kit's proof-skeleton.
-/
import Derived.Test.YtkmelddejdikgaaRows
import Derived.Test.YtkmelddejdikgaaSkM
import Derived.Test.YtkmelddejdikgaaArg
import Derived.WalkKit
import Derived.ProofKit
import Derived.OpenShut
import Derived.ShutString
import Derived.ChangeOld
import Derived.Below
namespace Go.Proofs.Ytkmelddejdikgaa.starsKnown
open Go.ChangeShapes Go.WideShapes Go.ChangeAt Go.RowKit PM Dt
open Go.ChangeMaps (open_string shut_string)
set_option linter.unusedVariables false      -- a walk need not use every fact of its parameters
theorem own : ownKnob Try.prog.godebug = none := by kernel_rfl
theorem walk  (w : World) :
    Calls Try.prog 4 #[] w fun e w' => e = .returned (.bool true) ∧ Below w.heap.size w w' := by
  exact starsknown_any w
set_option maxRecDepth 100000 in
theorem lifted (os : Os) (started : os.Started) (H : Type) (enc : TypeId × Value → H) :
    ReturnsInHanded {} Try.checked os 4 .any (Rows.starsKnownSpec.pre6 enc Try.prog Try.f4 Rows.starsKnownRow.domain false) (Rows.starsKnownSpec.post enc Try.prog Try.f4 false true false false) := by
  refine returnsInHanded_of_change (C := Try.checked) own started (by kernel_rfl) Try.func4
    (ChangeSpec.witness6 (enc := enc) (C := Try.checked) false ⟨#[], #[], []⟩ 8 (by kernel_rfl) (by kernel_rfl) (by kernel_rfl) (by kernel_rfl)) ?_
  intro W base args ds gs before hval0 hW hcnd _
  have hval : ∀ (j : Nat) t v, Try.f4.params[j]? = some t → args[j]? = some v → Value.okWide Try.prog W .any base t v := hval0
  have hW' := hW
  obtain ⟨p, q, hA0, hV, rfl, hfz, hnd⟩ := hW
  have hA : DataW.TrodAll enc Try.prog W 0 (fun _ => true) true Try.f4.params.toList args.toList ds p := hA0
  rw [Try.params4] at hA hval
  have hA2 := hA
  obtain ⟨rfl, rfl, rfl⟩ := trodAll_none hA
  obtain ⟨rfl, rfl⟩ := trodVars_none hV
  clear hA0 hval0
  refine (walk  W).mono fun e W' ⟨he, hg⟩ => ?_
  subst he
  refine ⟨_, rfl, _, _, _, [], _, [], hW', (trodAll_cons_mk (shut_bool Try.underlying4 _) trodAll_mk0), all_stays (by kernel_rfl) hg _ _ _ _ (by kernel_rfl) hA2 (fun p hp => hW'.lt p (List.mem_append_left _ hp)) (fun p hp => ?_), rfl, hg.frame _, fun h => by cases h⟩
  have hlt := hW'.lt p (List.mem_append_left _ hp)
  first | exact decide_eq_true hlt | rfl | simpa using hlt
theorem joined : joinedFacts Try.pinned.checked.prog 4 Try.f4 Rows.starsKnownSpec Rows.starsKnownRow = true := by
  have c1 : (Rows.starsKnownRow.lifted == Program.liftsFinal Try.pinned.checked.prog) = true := by rw [prog_liftsFinal]; rfl
  have c2 : (Program.make Try.pinned.checked.prog == some Rows.starsKnownRow.make) = true := by rw [prog_make]; rfl
  have c3 := prog_mayEnter
  unfold joinedFacts
  simp only [c1, c2, c3]
  repeat (rw [Bool.and_eq_true]; refine ⟨?_, ?_⟩)
  all_goals kernel_rfl
theorem over : Rows.starsKnownRow.holds Try.pinned (OpenSpec.ofChange Rows.starsKnownSpec) :=
  OpenClaim.holds_of_wide 4 Try.f4 rfl rfl rfl rfl rfl rfl rfl ⟨rfl, rfl, rfl, rfl, rfl⟩ rfl rfl rfl rfl rfl (by kernel_rfl) Try.func4 joined
    (of_decide_eq_true (by kernel_rfl)) (by unfold Func.isWrapper; first | (rw [if_pos (by decide +kernel)]; kernel_rfl) | (rw [if_neg (by decide +kernel)]; exact ⟨rfl, rfl⟩))
    (fun os started H enc _ => lifted os started H enc)
/-- ████ THE STATEMENT ████ -/
theorem proved : Rows.StarsKnownSaid :=
  over
#print axioms proved
end Go.Proofs.Ytkmelddejdikgaa.starsKnown
