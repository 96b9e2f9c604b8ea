/-
  The statement BodyPlays holds: for every input the law returns true, and its arguments read as they did. No condition. The walk is told in YtjnocbjngojigaaGreatRlA; the frame of the row is printed after the kit's proof-skeleton.
-/
import Derived.Test.YtjnocbjngojigaaGreatRows
import Derived.Test.YtjnocbjngojigaaGreatRlA
import Derived.Test.YtjnocbjngojigaaGreatArgB
import Derived.Test.YtjnocbjngojigaaGreatArg
import Derived.WalkKit
import Derived.ProofKit
import Derived.OpenShut
import Derived.ShutString
import Derived.ChangeOld
import Derived.Below
namespace Go.Proofs.YtjnocbjngojigaaGreat.bodyPlays
open Go.ChangeShapes Go.WideShapes Go.ChangeAt Go.RowKit PM Dt
open Go.ChangeMaps (open_string shut_string)
set_option linter.unusedVariables false      -- a walk need not use every fact of its parameters
theorem own : ownKnob Tryz.prog.godebug = none := by kernel_rfl
theorem walk (x0 : ((Nat → Int) × (Nat → Int) × (Nat → Int) × Int)) (h0 : Wstc x0) (a1 : Option Addr) (n1 c1 : Nat) (x1 : Nat → ActT) (hn1 : n1 ≤ maxLen) (h1 : ∀ k, k < n1 → Wact (x1 k)) (w : World) (el1 : ElemsA w a1 n1 9 (fun k => (actc (x1 k)).toList)) :
    Calls Tryz.prog 4 #[.agg (stc x0), .slice a1 n1 c1] w fun e w' => e = .returned (.bool true) ∧ Below w.heap.size w w' := by
  exact bplays_any ⟨x0.1, x0.2.1, x0.2.2.1, x0.2.2.2⟩ a1 n1 c1 x1 w h0.1 el1
set_option maxRecDepth 100000 in
theorem lifted (os : Os) (started : os.Started) (H : Type) (enc : TypeId × Value → H) :
    ReturnsInHanded {} Tryz.checked os 4 .any (Rows.bodyPlaysSpec.pre6 enc Tryz.prog Tryz.f4 Rows.bodyPlaysRow.domain false) (Rows.bodyPlaysSpec.post enc Tryz.prog Tryz.f4 false true false false) := by
  refine returnsInHanded_of_change (C := Tryz.checked) own started (by kernel_rfl) Tryz.func4
    (ChangeSpec.witness6 (enc := enc) (C := Tryz.checked) false ⟨#[], #[.agg #[.int .i64 0, .int .i64 0, .int .i64 0, .int .i64 0, .int .i64 0, .int .i64 0, .int .i64 0, .int .i64 0, .int .i64 0, .int .i64 0, .int .i64 0, .int .i64 0], .slice none 0 0], []⟩ 8 (by kernel_rfl) (by kernel_rfl) (by kernel_rfl) (by kernel_rfl)) ?_
  intro W base args ds gs before hval0 hW hcnd _
  have hval : ∀ (j : Nat) t v, Tryz.f4.params[j]? = some t → args[j]? = some v → Value.okWide Tryz.prog W .any base t v := hval0
  have hW' := hW
  obtain ⟨p, q, hA0, hV, rfl, hfz, hnd⟩ := hW
  have hA : DataW.TrodAll enc Tryz.prog W 0 (fun _ => true) true Tryz.f4.params.toList args.toList ds p := hA0
  rw [Tryz.params4] at hA hval
  have hA2 := hA
  obtain ⟨v0, vs0, d0, ds0, p0, q0, hargs, rfl, rfl, t0, r0⟩ := trodAll_cons hA
  obtain ⟨v1, vs1, d1, ds1, p1, q1, rfl, rfl, rfl, t1, r1⟩ := trodAll_cons r0
  obtain ⟨rfl, rfl, rfl⟩ := trodAll_nil r1
  obtain rfl : args = #[v0, v1] := by cases args; simp_all
  obtain ⟨rfl, rfl⟩ := trodVars_none hV
  obtain ⟨x0, rfl, h0⟩ := open_stc (hval 0 46 v0 rfl rfl) t0
  obtain ⟨a1, n1, c1, rfl, hn1, x1, el1, h1⟩ := open_acts (hval 1 47 v1 rfl rfl) t1
  clear hA0 hval0
  refine (walk x0 h0 a1 n1 c1 x1 hn1 h1 W el1).mono fun e W' ⟨he, hg⟩ => ?_
  subst he
  refine ⟨_, rfl, _, _, _, [], _, [], hW', (trodAll_cons_mk (shut_bool Tryz.underlying4 _) trodAll_mk0), all_stays (by kernel_rfl) hg _ _ _ _ (by kernel_rfl) hA2 (fun p hp => hW'.lt p (List.mem_append_left _ hp)) (fun p hp => ?_), rfl, hg.frame _, fun h => by cases h⟩
  have hlt := hW'.lt p (List.mem_append_left _ hp)
  first | exact decide_eq_true hlt | rfl | simpa using hlt
theorem joined : joinedFacts Tryz.pinned.checked.prog 4 Tryz.f4 Rows.bodyPlaysSpec Rows.bodyPlaysRow = true := by
  have c1 : (Rows.bodyPlaysRow.lifted == Program.liftsFinal Tryz.pinned.checked.prog) = true := by rw [prog_liftsFinal]; rfl
  have c2 : (Program.make Tryz.pinned.checked.prog == some Rows.bodyPlaysRow.make) = true := by rw [prog_make]; rfl
  have c3 := prog_mayEnter
  unfold joinedFacts
  simp only [c1, c2, c3]
  repeat (rw [Bool.and_eq_true]; refine ⟨?_, ?_⟩)
  all_goals kernel_rfl
theorem over : Rows.bodyPlaysRow.holds Tryz.pinned (OpenSpec.ofChange Rows.bodyPlaysSpec) :=
  OpenClaim.holds_of_wide 4 Tryz.f4 rfl rfl rfl rfl rfl rfl rfl ⟨rfl, rfl, rfl, rfl, rfl⟩ rfl rfl rfl rfl rfl (by kernel_rfl) Tryz.func4 joined
    (of_decide_eq_true (by kernel_rfl)) (by unfold Func.isWrapper; first | (rw [if_pos (by decide +kernel)]; kernel_rfl) | (rw [if_neg (by decide +kernel)]; exact ⟨rfl, rfl⟩))
    (fun os started H enc _ => lifted os started H enc)
theorem proved : Rows.BodyPlaysSaid :=
  over
#print axioms proved
end Go.Proofs.YtjnocbjngojigaaGreat.bodyPlays
