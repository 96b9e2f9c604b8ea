/-
  The statement TopPointing holds: for every input the law returns true, and its arguments read as they did. No condition. The walk is told in YtbhahonkhiiilaaGreatTpD; the frame of the row is printed after the kit's proof-skeleton.
-/
import Derived.Test.YtbhahonkhiiilaaGreatRows
import Derived.Test.YtbhahonkhiiilaaGreatTpD
import Derived.Test.YtbhahonkhiiilaaGreatTpC
import Derived.Test.YtbhahonkhiiilaaGreatFrameV
import Derived.WalkKit
import Derived.ProofKit
import Derived.OpenShut
import Derived.ShutString
import Derived.ChangeOld
import Derived.Below
set_option linter.unusedSimpArgs false
set_option linter.unusedVariables false
namespace Go.Proofs.YtbhahonkhiiilaaGreat.topPointing
open Go.ChangeShapes Go.WideShapes Go.ChangeAt Go.RowKit PM Dt
open Go.ChangeMaps (open_string shut_string)
set_option linter.unusedVariables false      -- a walk need not use every fact of its parameters
theorem own:ownKnob Tryz.prog.godebug=none:=by kernel_rfl
theorem walk (x0:(cG×(Nat->Int))) (h0:Kk x0) (x1:(Nat->Int)) (h1:KH x1) (w:World):
 Calls Tryz.prog 3 #[.agg (fx x0),.agg (aj x1)] w fun e w'=>e=.returned (.bool true)/\Below w.heap.size w w':=by
 exact DA x0.1 x0.2 x1 w h0 h1
set_option maxRecDepth 100000 in
theorem lifted (os:Os) (started:os.Started) (H:Type) (enc:TypeId×Value->H):
 ReturnsInHanded {} Tryz.checked os 3 .any (Rows.topPointingSpec.pre6 enc Tryz.prog Tryz.f3 Rows.topPointingRow.domain false) (Rows.topPointingSpec.post enc Tryz.prog Tryz.f3 false true false false):=by
 refine returnsInHanded_of_change (C:=Tryz.checked) own started (by kernel_rfl) Tryz.func3
  (ChangeSpec.witness6 (enc:=enc) (C:=Tryz.checked) false ⟨#[],#[.agg #[.int .i64 0,.int .i64 0,.int .i64 0,.int .i64 0,.int .i64 0,.int .i64 0,.int .i64 0,.int .i64 0,.int .i64 0,.int .i64 0,.int .i64 0,.int .i64 0,.int .i64 0,.int .i64 0,.int .i64 0],.agg #[.int .i64 0,.int .i64 0,.int .i64 0,.int .i64 0]],[]⟩ 8 (by kernel_rfl) (by kernel_rfl) (by kernel_rfl) (by kernel_rfl)) ?_
 intro W base args ds gs before hval0 hW hcnd _
 have hval:∀(j:Nat) t v,Tryz.f3.params[j]?=some t->args[j]?=some v->Value.okWide Tryz.prog W .any base t v:=hval0
 have hW':=hW
 obtain⟨p,q,hA0,hV,rfl,hfz,hnd⟩:=hW
 have hA:DataW.TrodAll enc Tryz.prog W 0 (fun _=>true) true Tryz.f3.params.toList args.toList ds p:=hA0
 rw[Tryz.params3]at hA hval
 have hA2:=hA
 obtain⟨v0,vs0,d0,ds0,p0,q0,hargs,rfl,rfl,t0,r0⟩:=trodAll_cons hA
 obtain⟨v1,vs1,d1,ds1,p1,q1,rfl,rfl,rfl,t1,r1⟩:=trodAll_cons r0
 obtain⟨rfl,rfl,rfl⟩:=trodAll_nil r1
 obtain rfl:args=#[v0,v1]:=by cases args;simp_all
 obtain⟨rfl,rfl⟩:=trodVars_none hV
 obtain⟨x0,rfl,h0⟩:=Co (hval 0 27 v0 rfl rfl) t0
 obtain⟨x1,rfl,h1⟩:=BV (hval 1 23 v1 rfl rfl) t1
 clear hA0 hval0
 refine(walk x0 h0 x1 h1 W).mono fun e W' ⟨he,hg⟩=>?_
 subst he
 refine⟨_,rfl,_,_,_,[],_,[],hW',(trodAll_cons_mk (shut_bool Tryz.underlying4 _) trodAll_mk0),rT (by kernel_rfl) hg _ _ _ _ (by kernel_rfl) hA2 (fun p hp=>hW'.lt p (List.mem_append_left _ hp)) (fun p hp=>?_),rfl,hg.frame _,fun h=>by cases h⟩
 have hlt:=hW'.lt p (List.mem_append_left _ hp)
 first|exact decide_eq_true hlt|rfl|simpa using hlt
theorem joined:joinedFacts Tryz.pinned.checked.prog 3 Tryz.f3 Rows.topPointingSpec Rows.topPointingRow=true:=by
 have c1:(Rows.topPointingRow.lifted==Program.liftsFinal Tryz.pinned.checked.prog)=true:=by rw[n6];rfl
 have c2:(Program.make Tryz.pinned.checked.prog==some Rows.topPointingRow.make)=true:=by rw[Ao];rfl
 have c3:=qJ
 unfold joinedFacts
 simp only[c1,c2,c3]
 repeat(rw[Bool.and_eq_true];refine⟨?_,?_⟩)
 all_goals kernel_rfl
theorem gc:Rows.topPointingRow.holds Tryz.pinned (OpenSpec.ofChange Rows.topPointingSpec):=
 OpenClaim.holds_of_wide 3 Tryz.f3 rfl rfl rfl rfl rfl rfl rfl ⟨rfl,rfl,rfl,rfl,rfl⟩ rfl rfl rfl rfl rfl (by kernel_rfl) Tryz.func3 joined
  (of_decide_eq_true (by kernel_rfl)) (by unfold Func.isWrapper;first|(rw[if_pos (by decide+kernel)];kernel_rfl)|(rw[if_neg (by decide+kernel)];exact⟨rfl,rfl⟩))
  (fun os started H enc _=>lifted os started H enc)
theorem proved:Rows.TopPointingSaid:=
 gc
#print axioms proved
end Go.Proofs.YtbhahonkhiiilaaGreat.topPointing
