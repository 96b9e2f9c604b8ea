/-
  The statement OrbitSpans holds: for every input the law returns true, and its arguments read as they did. No condition. The walk is YtnkjbdfhdenbcaaLawOQ's; the frame of the row was printed by the kit's proof-skeleton.
-/
import Derived.Test.YtnkjbdfhdenbcaaRows
import Derived.Test.YtnkjbdfhdenbcaaLawOQ
import Derived.Test.YtnkjbdfhdenbcaaFrameO
import Derived.WalkKit
import Derived.ProofKit
import Derived.OpenShut
import Derived.ShutString
import Derived.ChangeOld
import Derived.Below
namespace Go.Proofs.Ytnkjbdfhdenbcaa.orbitSpans
open Go.ChangeShapes Go.WideShapes Go.ChangeAt Go.RowKit
open Go.ChangeMaps (open_string shut_string)
set_option linter.unusedVariables false      -- a walk need not use every 'w<i>' (that an integer argument fits its kind)

theorem own : ownKnob Try.prog.godebug = none := by kernel_rfl

theorem walk (a0 : Nat → Int) (a1 : Nat → Int) (a2 : Nat → Int) (w0 : Worb a0) (w1 : Wstn a1) (w2 : Wspn a2) (w : World) :
    Calls Try.prog 3 #[.agg (ofn a0), .agg (stn a1), .agg (spn a2)] w fun e w' => e = .returned (.bool true) ∧ Below w.heap.size w w' := by
  exact ospans_any a0 a1 a2 w (Worb_OO w0) (Wstn_SS w1) (wfI64 w2.1) (wfI64 w2.2)

set_option maxRecDepth 100000 in
theorem lifted (os : Os) (started : os.Started) (H : Type) (enc : TypeId × Value → H) :
    ReturnsInHanded {} Try.checked os 3 .any (Rows.orbitSpansSpec.pre6 enc Try.prog Try.f3 Rows.orbitSpansRow.domain false) (Rows.orbitSpansSpec.post enc Try.prog Try.f3 false true false false) := by
  refine returnsInHanded_of_change (C := Try.checked) own started (by kernel_rfl) Try.func3
    (ChangeSpec.witness6 (enc := enc) (C := Try.checked) false ⟨#[], #[.agg #[.int .i64 0, .int .i64 0, .int .i64 0, .int .u32 0, .int .u32 0, .int .u32 0, .int .u32 0, .int .i64 0], .agg #[.int .u32 0, .int .u32 0, .int .i64 0], .agg #[.int .i64 0, .int .i64 0]], []⟩ 8 (by kernel_rfl) (by kernel_rfl) (by kernel_rfl) (by kernel_rfl)) ?_
  intro W base args ds gs before hval0 hW hcnd _
  have hval : ∀ (j : Nat) t v, Try.f3.params[j]? = some t → args[j]? = some v → Value.okWide Try.prog W .any base t v := hval0
  have hW' := hW
  obtain ⟨p, q, hA0, hV, rfl, hfz, hnd⟩ := hW
  have hA : DataW.TrodAll enc Try.prog W 0 (fun _ => true) true Try.f3.params.toList args.toList ds p := hA0
  rw [Try.params3] at hA hval
  obtain ⟨v0, vs0, d0, ds0, p0, q0, hargs, rfl, rfl, h0, r0⟩ := trodAll_cons hA
  obtain ⟨v1, vs1, d1, ds1, p1, q1, rfl, rfl, rfl, h1, r1⟩ := trodAll_cons r0
  obtain ⟨v2, vs2, d2, ds2, p2, q2, rfl, rfl, rfl, h2, r2⟩ := trodAll_cons r1
  obtain ⟨rfl, rfl, rfl⟩ := trodAll_nil r2
  obtain rfl : args = #[v0, v1, v2] := by cases args; simp_all
  obtain ⟨rfl, rfl⟩ := trodVars_none hV
  obtain ⟨a0, rfl, rfl, rfl, w0⟩ := open_orb (hval 0 24 v0 rfl rfl) h0
  obtain ⟨a1, rfl, rfl, rfl, w1⟩ := open_stn (hval 1 26 v1 rfl rfl) h1
  obtain ⟨a2, rfl, rfl, rfl, w2⟩ := open_spn (hval 2 28 v2 rfl rfl) h2
  clear hA0 hval0
  simp only [List.append_nil] at hW'
  refine (walk a0 a1 a2 w0 w1 w2 W).mono fun e W' ⟨he, hg⟩ => ?_
  subst he
  exact ⟨_, rfl, _, _, _, [], _, [], hW', (trodAll_cons_mk (shut_bool Try.underlying4 _) trodAll_mk0), (trodAll_cons_mk (shut_orb w0) (trodAll_cons_mk (shut_stn w1) (trodAll_cons_mk (shut_spn w2) trodAll_mk0))), rfl, hg.frame _, fun h => by cases h⟩

theorem joined : joinedFacts Try.pinned.checked.prog 3 Try.f3 Rows.orbitSpansSpec Rows.orbitSpansRow = true := by
  have c1 : (Rows.orbitSpansRow.lifted == Program.liftsFinal Try.pinned.checked.prog) = true := by rw [prog_liftsFinal]; rfl
  have c2 : (Program.make Try.pinned.checked.prog == some Rows.orbitSpansRow.make) = true := by rw [prog_make]; rfl
  have c3 := prog_mayEnter
  unfold joinedFacts
  simp only [c1, c2, c3]
  repeat (rw [Bool.and_eq_true]; refine ⟨?_, ?_⟩)
  all_goals kernel_rfl
theorem over : Rows.orbitSpansRow.holds Try.pinned (OpenSpec.ofChange Rows.orbitSpansSpec) :=
  OpenClaim.holds_of_wide 3 Try.f3 rfl rfl rfl rfl rfl rfl rfl ⟨rfl, rfl, rfl, rfl, rfl⟩ rfl rfl rfl rfl rfl (by kernel_rfl) Try.func3 joined
    (of_decide_eq_true (by kernel_rfl)) (by unfold Func.isWrapper; first | (rw [if_pos (by decide +kernel)]; kernel_rfl) | (rw [if_neg (by decide +kernel)]; exact ⟨rfl, rfl⟩))
    (fun os started H enc _ => lifted os started H enc)

/-- ████ THE STATEMENT ████ -/
theorem proved : Rows.OrbitSpansSaid :=
  over
#print axioms proved
end Go.Proofs.Ytnkjbdfhdenbcaa.orbitSpans
