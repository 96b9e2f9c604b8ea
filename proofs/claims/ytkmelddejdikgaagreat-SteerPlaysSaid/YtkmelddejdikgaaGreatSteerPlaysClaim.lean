/-
  The statement SteerPlays holds: for every input the law returns true, and its arguments read as they did. No condition. The walk is told in YtkmelddejdikgaaGreatRsH; the frame of the row is printed after the kit's proof-skeleton.
-/
import Derived.Test.YtkmelddejdikgaaGreatRows
import Derived.Test.YtkmelddejdikgaaGreatRsH
import Derived.Test.YtkmelddejdikgaaGreatArgS
import Derived.Test.YtkmelddejdikgaaGreatArg
import Derived.WalkKit
import Derived.ProofKit
import Derived.OpenShut
import Derived.ShutString
import Derived.ChangeOld
import Derived.Below
namespace Go.Proofs.YtkmelddejdikgaaGreat.steerPlays
open Go.ChangeShapes Go.WideShapes Go.ChangeAt Go.RowKit PM Dt
open Go.ChangeMaps (open_string shut_string)
set_option linter.unusedVariables false      -- a walk need not use every fact of its parameters
theorem own : ownKnob Tryz.prog.godebug = none := by kernel_rfl
theorem walk (a0 : Option Addr) (n0 c0 : Nat) (x0 : Nat → (Int × (Nat → Int) × (Nat → Int) × Int × (Nat → Int) × (Nat → Int) × (Nat → Int))) (hn0 : n0 ≤ maxLen) (h0 : ∀ k, k < n0 → Wa26 (x0 k)) (w : World) (el0 : ElemsA w a0 n0 20 (fun k => (a26p (x0 k)).toList)) :
 Calls Tryz.prog 3 #[.slice a0 n0 c0] w fun e w' => e = .returned (.bool true) ∧ Below w.heap.size w w' := by
 exact splays_any a0 n0 c0 (fun k => ((x0 k).1, ⟨(x0 k).2.1, (x0 k).2.2.1, (x0 k).2.2.2.1, (x0 k).2.2.2.2.1, (x0 k).2.2.2.2.2.1⟩, (x0 k).2.2.2.2.2.2)) w el0 (fun k hk => ⟨(h0 k hk).2.2.2.2.2.1, (h0 k hk).2.2.2.2.2.2⟩)
set_option maxRecDepth 100000 in
theorem lifted (os : Os) (started : os.Started) (H : Type) (enc : TypeId × Value → H) :
 ReturnsInHanded {} Tryz.checked os 3 .any (Rows.steerPlaysSpec.pre6 enc Tryz.prog Tryz.f3 Rows.steerPlaysRow.domain false) (Rows.steerPlaysSpec.post enc Tryz.prog Tryz.f3 false true false false) := by
 refine returnsInHanded_of_change (C := Tryz.checked) own started (by kernel_rfl) Tryz.func3
  (ChangeSpec.witness6 (enc := enc) (C := Tryz.checked) false ⟨#[], #[.slice none 0 0], []⟩ 8 (by kernel_rfl) (by kernel_rfl) (by kernel_rfl) (by kernel_rfl)) ?_
 intro W base args ds gs before hval0 hW hcnd _
 have hval : ∀ (j : Nat) t v, Tryz.f3.params[j]? = some t → args[j]? = some v → Value.okWide Tryz.prog W .any base t v := hval0
 have hW' := hW
 obtain ⟨p, q, hA0, hV, rfl, hfz, hnd⟩ := hW
 have hA : DataW.TrodAll enc Tryz.prog W 0 (fun _ => true) true Tryz.f3.params.toList args.toList ds p := hA0
 rw [Tryz.params3] at hA hval
 have hA2 := hA
 obtain ⟨v0, vs0, d0, ds0, p0, q0, hargs, rfl, rfl, t0, r0⟩ := trodAll_cons hA
 obtain ⟨rfl, rfl, rfl⟩ := trodAll_nil r0
 obtain rfl : args = #[v0] := by cases args; simp_all
 obtain ⟨rfl, rfl⟩ := trodVars_none hV
 obtain ⟨a0, n0, c0, rfl, hn0, x0, el0, h0⟩ := open_a26s (hval 0 22 v0 rfl rfl) t0
 clear hA0 hval0
 refine (walk a0 n0 c0 x0 hn0 h0 W el0).mono fun e W' ⟨he, hg⟩ => ?_
 subst he
 refine ⟨_, rfl, _, _, _, [], _, [], hW', (trodAll_cons_mk (shut_bool Tryz.underlying4 _) trodAll_mk0), all_stays (by kernel_rfl) hg _ _ _ _ (by kernel_rfl) hA2 (fun p hp => hW'.lt p (List.mem_append_left _ hp)) (fun p hp => ?_), rfl, hg.frame _, fun h => by cases h⟩
 have hlt := hW'.lt p (List.mem_append_left _ hp)
 first | exact decide_eq_true hlt | rfl | simpa using hlt
theorem joined : joinedFacts Tryz.pinned.checked.prog 3 Tryz.f3 Rows.steerPlaysSpec Rows.steerPlaysRow = true := by
 have c1 : (Rows.steerPlaysRow.lifted == Program.liftsFinal Tryz.pinned.checked.prog) = true := by rw [prog_liftsFinal]; rfl
 have c2 : (Program.make Tryz.pinned.checked.prog == some Rows.steerPlaysRow.make) = true := by rw [prog_make]; rfl
 have c3 := prog_mayEnter
 unfold joinedFacts
 simp only [c1, c2, c3]
 repeat (rw [Bool.and_eq_true]; refine ⟨?_, ?_⟩)
 all_goals kernel_rfl
theorem over : Rows.steerPlaysRow.holds Tryz.pinned (OpenSpec.ofChange Rows.steerPlaysSpec) :=
 OpenClaim.holds_of_wide 3 Tryz.f3 rfl rfl rfl rfl rfl rfl rfl ⟨rfl, rfl, rfl, rfl, rfl⟩ rfl rfl rfl rfl rfl (by kernel_rfl) Tryz.func3 joined
  (of_decide_eq_true (by kernel_rfl)) (by unfold Func.isWrapper; first | (rw [if_pos (by decide +kernel)]; kernel_rfl) | (rw [if_neg (by decide +kernel)]; exact ⟨rfl, rfl⟩))
  (fun os started H enc _ => lifted os started H enc)
theorem proved : Rows.SteerPlaysSaid :=
 over
#print axioms proved
end Go.Proofs.YtkmelddejdikgaaGreat.steerPlays
