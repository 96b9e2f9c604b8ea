/-
  Bodies: the readers. Acts on bodies. The bodies of the specification: New. The wheels of the specification: friction, Sum, Step. Of the specification: floor, within, arrived, Valid. Of the specification: Command, Allocate. Of the specification: a step of a control. Of the specification: Rest.
-/
import Derived.Test.YtkmelddejdikgaaGreatBdA
import Derived.Test.YtkmelddejdikgaaGreatBdP
import Derived.Test.YtkmelddejdikgaaGreatLawVec
import Derived.Test.YtkmelddejdikgaaGreatQEq
import Derived.Test.YtkmelddejdikgaaGreatArg
import Derived.Test.YtkmelddejdikgaaGreatVLimR
import Derived.Test.YtkmelddejdikgaaGreatWhB
import Derived.Test.YtkmelddejdikgaaGreatStA
import Derived.Test.YtkmelddejdikgaaGreatWhD
import Derived.Test.YtkmelddejdikgaaGreatStL
set_option maxRecDepth 100000
set_option linter.unusedSimpArgs false
set_option linter.unusedVariables false
namespace Go.Proofs.YtkmelddejdikgaaGreat
open Go.RowKit PM Dt
def failX (X : BSt) (i : Int) : BSt := ⟨X.Q, X.T, failH X.h X.f i, failF X.f i⟩
theorem valR_range {P : Program} {op : Oper} {a : Act} {w : World} (ty : TypeId) (x : Operand) (ho : op.op = .load ty x) (b o : Nat) (hx : a.eval x = .pointer (some ⟨b, o, none⟩))
 (C : List Value) (oo j0 : Nat) (hr : w.rangeAt b oo C) (hoo : o = oo + j0) (cs : Array Value) (hc : ∀ j, j < cs.size → C[j0 + j]? = cs[j]?) (d : TypeDesc)
 (hu : P.underlying ty = some d) (hd : d.isRow = true) (hi : (P.info? ty).map (·.size) = some cs.size) {v : Value} (hv : v = .agg cs) : ValR v w ((execOp a.eval op).run P w) := by
 have hr2 : w.rangeAt b o cs.toList := fun j u hj => by
  have h1 : j < cs.toList.length := (List.getElem?_eq_some_iff.1 hj).1
  have h2 : cs[j]? = some u := by simpa using hj
  have h3 := hr (j0 + j) u ((hc j (by simpa using h1)).trans h2)
  rw [hoo, Nat.add_assoc]
  exact h3
 unfold execOp
 simp only [ho, hx, Instr.loadAt, Instr.sureAddr, Sem.run_bind, Sem.run_pure, Result.andThen_ok, run_loadVar_mid w b o ty cs.toList d hr2 hu hd (by simpa using hi)]
 exact ⟨by rw [hv], rfl⟩
theorem range_below {B : Nat} {w w' : World} {b o : Nat} {C : List Value} (h : w.rangeAt b o C) (hb : Below B w w') (hl : b < B) : w'.rangeAt b o C := fun j u hj => by
 rw [hb.cell (p := ⟨b, o + j, none⟩) hl]; exact h j u hj
theorem BI.fail {X : BSt} (k : BI X) (i : Int) : BI (failX X i) := by
 refine ⟨k.q, k.v, k.t, ?_⟩
 show SI (failH X.h X.f i) (failF X.f i)
 unfold failH failF
 split
 ·rename_i h
  have hi : 0 ≤ i ∧ i ≤ 3 := by
   unfold failE at h
   by_cases h1 : i < 0
   ·simp [h1] at h
   ·by_cases h2 : 3 < i
    ·simp [h1, h2] at h
    ·omega
  obtain ⟨j, rfl⟩ : ∃ j : Nat, i = j := ⟨i.toNat, by omega⟩
  rw [Int.toNat_natCast]
  exact k.s.fail (by omega)
 ·exact k.s
theorem rsc_of (h : Nat → Int) (f : Int) : #[Value.int .i64 (h 0), .int .i64 (h 1), .int .i64 (h 2), .int .i64 (h 3), .int .i64 f] = rsc (h, f) := rfl
set_option maxHeartbeats 6000000 in
theorem rwnew_no (h : Nat → Int) (f : Int) (w : World) (hn : newB h f = false) : Calls Tryz.prog 65 #[.agg (qfn h), .int .i64 f] w fun e w' => e = .returned (.tuple #[.agg (rsc (fun _ => 0, 0)), .int .i64 2]) ∧ Below w.heap.size w w' := by
 by_cases h1 : f < -1
 ·have d1 : decide (f < -1) = true := decide_eq_true h1
  go_enter Tryz.func65, Tryz.ntmps65
  go_upto_region 1 with (fail)
  simp only [rsc_zero]
  have v : blk ((w.alloc (.cells (qfn h) 28)).alloc (.cells (rsc (fun _ => 0, 0)) 111)) w.heap.size (qfn h) 28 := (blk.new _ _ _).alloc _
  have r : blk ((w.alloc (.cells (qfn h) 28)).alloc (.cells (rsc (fun _ => 0, 0)) 111)) (w.heap.size + 1) (rsc (fun _ => 0, 0)) 111 := blk.new' (by simp)
  have hB : Below w.heap.size w ((w.alloc (.cells (qfn h) 28)).alloc (.cells (rsc (fun _ => 0, 0)) 111)) := by go_grown
  generalize ((w.alloc (.cells (qfn h) 28)).alloc (.cells (rsc (fun _ => 0, 0)) 111)) = w0 at *
  go_upto_region 2 with (fail)
  have lt_v := v.lt
  have lt_r := r.lt
  have hW0 : w.heap.size ≤ w0.heap.size := by simpa using hB.size
  apply wp_region_Q 3 [0, 1, 3] [] [_, (fun _ => undef), _] (fun p L w' => w0.heap.size ≤ w'.heap.size ∧ Below w.heap.size w w' ∧ blk w' w.heap.size (qfn h) 28 ∧ blk w' (w.heap.size + 1) (bif L 1 then (rsc (fun _ => 0, 0)) else (rsc (fun _ => 0, 0))) 111) _ [(0, 13), (2, 5)] [0, 1, 2]
  case hn => rfl
  case hB => kernel_rfl
  case hds => kernel_rfl
  case hA => (intro p; simp only [putsD, Act.put, sIT, sCZ, sCS, gCZ, gCS]; exact rfl)
  case h0 => exact fun p => ⟨Nat.le_refl _, hB, v, r⟩
  case hmore => exact fun p L w1 w2 ⟨hsz, hB, v, r⟩ hm => ⟨Nat.le_trans hsz hm.size, hB.trans (hm.mono (Nat.le_trans hW0 hsz)), v.below hm v.lt, r.below hm r.lt⟩
  case hs =>
   intro more
   refine sWW ?_ ?_
   ·intros; (try simp only [vfn, qfn]); go_simp; exact ⟨rfl, rfl⟩
   refine AllI.cons ?_ ?_
   ·refine stepI_store 1 rfl (fun p => rfl) (fun p => rfl) _ _ _ rfl (fun _ => (w.heap.size + 1)) 0 (fun p => rfl) (fun p => (rsc (fun _ => 0, 0))) (fun p => congrArg Value.agg rsc_zero) (fun p => (rsc (fun _ => 0, 0))) (fun p => (rsc (fun _ => 0, 0))) 111 (fun p => over_ss _ _) (fun p => by first | (rw [rsc_size, rsc_size]; decide) | simp [rsc_size, rsc_size]) (fun p => by rw [rsc_size]; kernel_rfl) (fun p => rsc_one _) ?_ ?_
    ·rintro p L w1 ⟨hsz, hB, v, r⟩ hk
     have L1 : L 1 = false := hk.1
     rw [L1] at r
     try simp only [cond_true, cond_false] at r
     exact r
    ·rintro p L w1 ⟨hsz, hB, v, r⟩ hk
     have L1 : L 1 = false := hk.1
     skip
     refine ⟨(by simpa using hsz), Below.setRow hB (by first | exact Nat.le_trans hW0 hp.1 | exact ge_r | omega | (have := hB.size; simp at this ⊢; omega)) _, v.rowOther (by first | exact ne_v_r | exact Ne.symm ne_r_v | omega) _, ?_⟩
     rw [show upL L 1 1 = true from rfl]
     exact r.row _
   refine sWW ?_ ?_
   ·intros; go_simp; exact ⟨rfl, rfl⟩
   exact AllI.nil
  case hV0 => exact fun p q => AllI.nil
  case he =>
  clear hB v r
  rintro p w0r ⟨hsz, hB, v, r⟩
  replace r : blk w0r (w.heap.size + 1) (rsc (fun _ => 0, 0)) 111 := r
  clear lt_v lt_r hsz hW0
  go_wp2_with (fail)
  refine bodyPost_ret (results_vec rfl _ _ _ _ _ _ _ rfl r Tryz.underlying111 rfl (by first | kernel_rfl | (rw [rsc_size]; kernel_rfl))) rfl ?_
  refine ⟨?_, hB⟩
  rfl
 ·have d1 : decide (f < -1) = false := decide_eq_false h1
  by_cases h2 : 3 < f
  ·have d2 : decide (3 < f) = true := decide_eq_true h2
   go_enter Tryz.func65, Tryz.ntmps65
   go_upto_region 1 with (fail)
   simp only [rsc_zero]
   have v : blk ((w.alloc (.cells (qfn h) 28)).alloc (.cells (rsc (fun _ => 0, 0)) 111)) w.heap.size (qfn h) 28 := (blk.new _ _ _).alloc _
   have r : blk ((w.alloc (.cells (qfn h) 28)).alloc (.cells (rsc (fun _ => 0, 0)) 111)) (w.heap.size + 1) (rsc (fun _ => 0, 0)) 111 := blk.new' (by simp)
   have hB : Below w.heap.size w ((w.alloc (.cells (qfn h) 28)).alloc (.cells (rsc (fun _ => 0, 0)) 111)) := by go_grown
   generalize ((w.alloc (.cells (qfn h) 28)).alloc (.cells (rsc (fun _ => 0, 0)) 111)) = w0 at *
   go_upto_region 2 with (fail)
   have lt_v := v.lt
   have lt_r := r.lt
   have hW0 : w.heap.size ≤ w0.heap.size := by simpa using hB.size
   apply wp_region_Q 3 [0, 1, 3] [] [_, (fun _ => undef), _] (fun p L w' => w0.heap.size ≤ w'.heap.size ∧ Below w.heap.size w w' ∧ blk w' w.heap.size (qfn h) 28 ∧ blk w' (w.heap.size + 1) (bif L 1 then (rsc (fun _ => 0, 0)) else (rsc (fun _ => 0, 0))) 111) _ [(0, 13), (2, 5)] [0, 1, 2]
   case hn => rfl
   case hB => kernel_rfl
   case hds => kernel_rfl
   case hA => (intro p; simp only [putsD, Act.put, sIT, sCZ, sCS, gCZ, gCS]; exact rfl)
   case h0 => exact fun p => ⟨Nat.le_refl _, hB, v, r⟩
   case hmore => exact fun p L w1 w2 ⟨hsz, hB, v, r⟩ hm => ⟨Nat.le_trans hsz hm.size, hB.trans (hm.mono (Nat.le_trans hW0 hsz)), v.below hm v.lt, r.below hm r.lt⟩
   case hs =>
    intro more
    refine sWW ?_ ?_
    ·intros; (try simp only [vfn, qfn]); go_simp; exact ⟨rfl, rfl⟩
    refine AllI.cons ?_ ?_
    ·refine stepI_store 1 rfl (fun p => rfl) (fun p => rfl) _ _ _ rfl (fun _ => (w.heap.size + 1)) 0 (fun p => rfl) (fun p => (rsc (fun _ => 0, 0))) (fun p => congrArg Value.agg rsc_zero) (fun p => (rsc (fun _ => 0, 0))) (fun p => (rsc (fun _ => 0, 0))) 111 (fun p => over_ss _ _) (fun p => by first | (rw [rsc_size, rsc_size]; decide) | simp [rsc_size, rsc_size]) (fun p => by rw [rsc_size]; kernel_rfl) (fun p => rsc_one _) ?_ ?_
     ·rintro p L w1 ⟨hsz, hB, v, r⟩ hk
      have L1 : L 1 = false := hk.1
      rw [L1] at r
      try simp only [cond_true, cond_false] at r
      exact r
     ·rintro p L w1 ⟨hsz, hB, v, r⟩ hk
      have L1 : L 1 = false := hk.1
      skip
      refine ⟨(by simpa using hsz), Below.setRow hB (by first | exact Nat.le_trans hW0 hp.1 | exact ge_r | omega | (have := hB.size; simp at this ⊢; omega)) _, v.rowOther (by first | exact ne_v_r | exact Ne.symm ne_r_v | omega) _, ?_⟩
      rw [show upL L 1 1 = true from rfl]
      exact r.row _
    refine sWW ?_ ?_
    ·intros; go_simp; exact ⟨rfl, rfl⟩
    exact AllI.nil
   case hV0 => exact fun p q => AllI.nil
   case he =>
   clear hB v r
   rintro p w0r ⟨hsz, hB, v, r⟩
   replace r : blk w0r (w.heap.size + 1) (rsc (fun _ => 0, 0)) 111 := r
   clear lt_v lt_r hsz hW0
   go_wp2_with (fail)
   refine bodyPost_ret (results_vec rfl _ _ _ _ _ _ _ rfl r Tryz.underlying111 rfl (by first | kernel_rfl | (rw [rsc_size]; kernel_rfl))) rfl ?_
   refine ⟨?_, hB⟩
   rfl
  ·have d2 : decide (3 < f) = false := decide_eq_false h2
   have hf : isW f = true := by unfold isW; rw [decide_eq_true (show -1 ≤ f by omega), decide_eq_true (show f ≤ 3 by omega)]; rfl
   clear h1 h2
   go_enter Tryz.func65, Tryz.ntmps65
   go_upto_region 1 with (fail)
   simp only [rsc_zero]
   have v : blk ((w.alloc (.cells (qfn h) 28)).alloc (.cells (rsc (fun _ => 0, 0)) 111)) w.heap.size (qfn h) 28 := (blk.new _ _ _).alloc _
   have r : blk ((w.alloc (.cells (qfn h) 28)).alloc (.cells (rsc (fun _ => 0, 0)) 111)) (w.heap.size + 1) (rsc (fun _ => 0, 0)) 111 := blk.new' (by simp)
   have hB : Below w.heap.size w ((w.alloc (.cells (qfn h) 28)).alloc (.cells (rsc (fun _ => 0, 0)) 111)) := by go_grown
   generalize ((w.alloc (.cells (qfn h) 28)).alloc (.cells (rsc (fun _ => 0, 0)) 111)) = w0 at *
   go_wp2_with (fail)
   go_loopg [6] 4 (fun g iv wr => ∃ k : Nat, g + k = 4 ∧ iv = .int .i64 k ∧ Hid (∀ j, j < k → whB h f j = true) ∧ blk wr w.heap.size (qfn h) 28 ∧ blk wr (w.heap.size + 1) (rsc (fun _ => 0, 0)) 111 ∧ Below w.heap.size w wr)
   case atStart => exact ⟨0, rfl, rfl, fun j hj => by omega, v, r, hB⟩
   case round =>
    clear hB v r
    obtain ⟨k, hk, rfl, hall, v, r, hB⟩ := hrel
    by_cases hkn : k < 4
    ·have hdk : decide ((k : Int) < 4) = true := decide_eq_true (by omega)
     have hdk' : decide (k < 4) = true := decide_eq_true (by omega)
     have hk3 : (k : Int) < 4 := by omega
     have hw3 : IntKind.i64.wrap ((k : Int) + 1) = ((k + 1 : Nat) : Int) := by rw [IntKind.wrap_i64]; omega
     have hc : wr.cell? ⟨w.heap.size, k, none⟩ = some (.int .i64 (h k)) := v.cellIs (qfn_get h hkn)
     by_cases h1 : h k < -16777216
     ·have d1 : decide (h k < -16777216) = true := decide_eq_true h1
      have HV : whB h f k = false := by unfold whB; rw [decide_eq_false (show ¬ -16777216 ≤ h k by omega)]; rfl
      replace HV := Lib.hid HV
      clear h1
      go_upto_region 7 with (fail)
      have lt_v := v.lt
      have lt_r := r.lt
      have hW0 : w.heap.size ≤ wr.heap.size := by simpa using hB.size
      apply wp_region_Q 3 [0, 1, 3] [] [_, (fun _ => undef), _] (fun p L w' => wr.heap.size ≤ w'.heap.size ∧ Below w.heap.size w w' ∧ blk w' w.heap.size (qfn h) 28 ∧ blk w' (w.heap.size + 1) (bif L 1 then (rsc (fun _ => 0, 0)) else (rsc (fun _ => 0, 0))) 111) _ [(0, 39), (2, 5)] [0, 1, 2]
      case hn => rfl
      case hB => kernel_rfl
      case hds => kernel_rfl
      case hA => (intro p; simp only [putsD, Act.put, sIT, sCZ, sCS, gCZ, gCS]; exact rfl)
      case h0 => exact fun p => ⟨Nat.le_refl _, hB, v, r⟩
      case hmore => exact fun p L w1 w2 ⟨hsz, hB, v, r⟩ hm => ⟨Nat.le_trans hsz hm.size, hB.trans (hm.mono (Nat.le_trans hW0 hsz)), v.below hm v.lt, r.below hm r.lt⟩
      case hs =>
       intro more
       refine sWW ?_ ?_
       ·intros; (try simp only [vfn, qfn]); go_simp; exact ⟨rfl, rfl⟩
       refine AllI.cons ?_ ?_
       ·refine stepI_store 1 rfl (fun p => rfl) (fun p => rfl) _ _ _ rfl (fun _ => (w.heap.size + 1)) 0 (fun p => rfl) (fun p => (rsc (fun _ => 0, 0))) (fun p => congrArg Value.agg rsc_zero) (fun p => (rsc (fun _ => 0, 0))) (fun p => (rsc (fun _ => 0, 0))) 111 (fun p => over_ss _ _) (fun p => by first | (rw [rsc_size, rsc_size]; decide) | simp [rsc_size, rsc_size]) (fun p => by rw [rsc_size]; kernel_rfl) (fun p => rsc_one _) ?_ ?_
        ·rintro p L w1 ⟨hsz, hB, v, r⟩ hk
         have L1 : L 1 = false := hk.1
         rw [L1] at r
         try simp only [cond_true, cond_false] at r
         exact r
        ·rintro p L w1 ⟨hsz, hB, v, r⟩ hk
         have L1 : L 1 = false := hk.1
         skip
         refine ⟨(by simpa using hsz), Below.setRow hB (by first | exact Nat.le_trans hW0 hp.1 | exact ge_r | omega | (have := hB.size; simp at this ⊢; omega)) _, v.rowOther (by first | exact ne_v_r | exact Ne.symm ne_r_v | omega) _, ?_⟩
         rw [show upL L 1 1 = true from rfl]
         exact r.row _
       refine sWW ?_ ?_
       ·intros; go_simp; exact ⟨rfl, rfl⟩
       exact AllI.nil
      case hV0 => exact fun p q => AllI.nil
      case he =>
      clear hB v r
      rintro p wrr ⟨hsz, hB, v, r⟩
      replace r : blk wrr (w.heap.size + 1) (rsc (fun _ => 0, 0)) 111 := r
      clear lt_v lt_r hsz hW0
      go_wp2_with (fail)
      refine bodyPost_ret (results_vec rfl _ _ _ _ _ _ _ rfl r Tryz.underlying111 rfl (by first | kernel_rfl | (rw [rsc_size]; kernel_rfl))) rfl ?_
      refine ⟨?_, hB⟩
      rfl
     ·have d1 : decide (h k < -16777216) = false := decide_eq_false h1
      by_cases h2 : 16777216 < h k
      ·have d2 : decide (16777216 < h k) = true := decide_eq_true h2
       have HV : whB h f k = false := by unfold whB; rw [decide_eq_false (show ¬ h k ≤ 16777216 by omega)]; simp
       replace HV := Lib.hid HV
       clear h1 h2
       go_upto_region 7 with (fail)
       have lt_v := v.lt
       have lt_r := r.lt
       have hW0 : w.heap.size ≤ wr.heap.size := by simpa using hB.size
       apply wp_region_Q 3 [0, 1, 3] [] [_, (fun _ => undef), _] (fun p L w' => wr.heap.size ≤ w'.heap.size ∧ Below w.heap.size w w' ∧ blk w' w.heap.size (qfn h) 28 ∧ blk w' (w.heap.size + 1) (bif L 1 then (rsc (fun _ => 0, 0)) else (rsc (fun _ => 0, 0))) 111) _ [(0, 39), (2, 5)] [0, 1, 2]
       case hn => rfl
       case hB => kernel_rfl
       case hds => kernel_rfl
       case hA => (intro p; simp only [putsD, Act.put, sIT, sCZ, sCS, gCZ, gCS]; exact rfl)
       case h0 => exact fun p => ⟨Nat.le_refl _, hB, v, r⟩
       case hmore => exact fun p L w1 w2 ⟨hsz, hB, v, r⟩ hm => ⟨Nat.le_trans hsz hm.size, hB.trans (hm.mono (Nat.le_trans hW0 hsz)), v.below hm v.lt, r.below hm r.lt⟩
       case hs =>
        intro more
        refine sWW ?_ ?_
        ·intros; (try simp only [vfn, qfn]); go_simp; exact ⟨rfl, rfl⟩
        refine AllI.cons ?_ ?_
        ·refine stepI_store 1 rfl (fun p => rfl) (fun p => rfl) _ _ _ rfl (fun _ => (w.heap.size + 1)) 0 (fun p => rfl) (fun p => (rsc (fun _ => 0, 0))) (fun p => congrArg Value.agg rsc_zero) (fun p => (rsc (fun _ => 0, 0))) (fun p => (rsc (fun _ => 0, 0))) 111 (fun p => over_ss _ _) (fun p => by first | (rw [rsc_size, rsc_size]; decide) | simp [rsc_size, rsc_size]) (fun p => by rw [rsc_size]; kernel_rfl) (fun p => rsc_one _) ?_ ?_
         ·rintro p L w1 ⟨hsz, hB, v, r⟩ hk
          have L1 : L 1 = false := hk.1
          rw [L1] at r
          try simp only [cond_true, cond_false] at r
          exact r
         ·rintro p L w1 ⟨hsz, hB, v, r⟩ hk
          have L1 : L 1 = false := hk.1
          skip
          refine ⟨(by simpa using hsz), Below.setRow hB (by first | exact Nat.le_trans hW0 hp.1 | exact ge_r | omega | (have := hB.size; simp at this ⊢; omega)) _, v.rowOther (by first | exact ne_v_r | exact Ne.symm ne_r_v | omega) _, ?_⟩
          rw [show upL L 1 1 = true from rfl]
          exact r.row _
        refine sWW ?_ ?_
        ·intros; go_simp; exact ⟨rfl, rfl⟩
        exact AllI.nil
       case hV0 => exact fun p q => AllI.nil
       case he =>
       clear hB v r
       rintro p wrr ⟨hsz, hB, v, r⟩
       replace r : blk wrr (w.heap.size + 1) (rsc (fun _ => 0, 0)) 111 := r
       clear lt_v lt_r hsz hW0
       go_wp2_with (fail)
       refine bodyPost_ret (results_vec rfl _ _ _ _ _ _ _ rfl r Tryz.underlying111 rfl (by first | kernel_rfl | (rw [rsc_size]; kernel_rfl))) rfl ?_
       refine ⟨?_, hB⟩
       rfl
      ·have d2 : decide (16777216 < h k) = false := decide_eq_false h2
       have e1 : decide (-16777216 ≤ h k) = true := decide_eq_true (by omega)
       have e2 : decide (h k ≤ 16777216) = true := decide_eq_true (by omega)
       by_cases h3 : (k : Int) = f
       ·have d3 : decide ((k : Int) = f) = true := decide_eq_true h3
        by_cases h4 : h k = 0
        ·have d4 : (h k != 0) = false := by simp [h4]
         have d5 : decide (h k = 0) = true := decide_eq_true h4
         have HV : whB h f k = true := by unfold whB; rw [e1, e2, d3, d5]; rfl
         clear e1 e2 d3 d5
         subst h3
         replace HV := Lib.hid HV
         clear h1 h2 h4
         go_wp2_with (fail)
         go_roundg (4 - (k + 1))
         case rel =>
          refine ⟨k + 1, by omega, rfl, fun j hj => ?_, v, r, hB⟩
          by_cases e : j = k
          ·subst e; exact HV.out
          ·exact hall.out j (by omega)
         case measure => omega
        ·have d4 : (h k != 0) = true := by simp [h4]
         have d5 : decide (h k = 0) = false := decide_eq_false h4
         have HV : whB h f k = false := by unfold whB; rw [e1, e2, d3, d5]; rfl
         clear e1 e2 d3 d5
         subst h3
         replace HV := Lib.hid HV
         clear h1 h2 h4
         go_upto_region 7 with (fail)
         have lt_v := v.lt
         have lt_r := r.lt
         have hW0 : w.heap.size ≤ wr.heap.size := by simpa using hB.size
         apply wp_region_Q 3 [0, 1, 3] [] [_, (fun _ => undef), _] (fun p L w' => wr.heap.size ≤ w'.heap.size ∧ Below w.heap.size w w' ∧ blk w' w.heap.size (qfn h) 28 ∧ blk w' (w.heap.size + 1) (bif L 1 then (rsc (fun _ => 0, 0)) else (rsc (fun _ => 0, 0))) 111) _ [(0, 39), (2, 5)] [0, 1, 2]
         case hn => rfl
         case hB => kernel_rfl
         case hds => kernel_rfl
         case hA => (intro p; simp only [putsD, Act.put, sIT, sCZ, sCS, gCZ, gCS]; exact rfl)
         case h0 => exact fun p => ⟨Nat.le_refl _, hB, v, r⟩
         case hmore => exact fun p L w1 w2 ⟨hsz, hB, v, r⟩ hm => ⟨Nat.le_trans hsz hm.size, hB.trans (hm.mono (Nat.le_trans hW0 hsz)), v.below hm v.lt, r.below hm r.lt⟩
         case hs =>
          intro more
          refine sWW ?_ ?_
          ·intros; (try simp only [vfn, qfn]); go_simp; exact ⟨rfl, rfl⟩
          refine AllI.cons ?_ ?_
          ·refine stepI_store 1 rfl (fun p => rfl) (fun p => rfl) _ _ _ rfl (fun _ => (w.heap.size + 1)) 0 (fun p => rfl) (fun p => (rsc (fun _ => 0, 0))) (fun p => congrArg Value.agg rsc_zero) (fun p => (rsc (fun _ => 0, 0))) (fun p => (rsc (fun _ => 0, 0))) 111 (fun p => over_ss _ _) (fun p => by first | (rw [rsc_size, rsc_size]; decide) | simp [rsc_size, rsc_size]) (fun p => by rw [rsc_size]; kernel_rfl) (fun p => rsc_one _) ?_ ?_
           ·rintro p L w1 ⟨hsz, hB, v, r⟩ hk
            have L1 : L 1 = false := hk.1
            rw [L1] at r
            try simp only [cond_true, cond_false] at r
            exact r
           ·rintro p L w1 ⟨hsz, hB, v, r⟩ hk
            have L1 : L 1 = false := hk.1
            skip
            refine ⟨(by simpa using hsz), Below.setRow hB (by first | exact Nat.le_trans hW0 hp.1 | exact ge_r | omega | (have := hB.size; simp at this ⊢; omega)) _, v.rowOther (by first | exact ne_v_r | exact Ne.symm ne_r_v | omega) _, ?_⟩
            rw [show upL L 1 1 = true from rfl]
            exact r.row _
          refine sWW ?_ ?_
          ·intros; go_simp; exact ⟨rfl, rfl⟩
          exact AllI.nil
         case hV0 => exact fun p q => AllI.nil
         case he =>
         clear hB v r
         rintro p wrr ⟨hsz, hB, v, r⟩
         replace r : blk wrr (w.heap.size + 1) (rsc (fun _ => 0, 0)) 111 := r
         clear lt_v lt_r hsz hW0
         go_wp2_with (fail)
         refine bodyPost_ret (results_vec rfl _ _ _ _ _ _ _ rfl r Tryz.underlying111 rfl (by first | kernel_rfl | (rw [rsc_size]; kernel_rfl))) rfl ?_
         refine ⟨?_, hB⟩
         rfl
       ·have d3 : decide ((k : Int) = f) = false := decide_eq_false h3
        have d6 : ((k : Int) == f) = false := by simp [h3]
        have HV : whB h f k = true := by unfold whB; rw [e1, e2, d3]; simp
        clear e1 e2
        replace HV := Lib.hid HV
        clear h1 h2 h3
        go_wp2_with (fail)
        go_roundg (4 - (k + 1))
        case rel =>
         refine ⟨k + 1, by omega, rfl, fun j hj => ?_, v, r, hB⟩
         by_cases e : j = k
         ·subst e; exact HV.out
         ·exact hall.out j (by omega)
        case measure => omega
    ·obtain rfl : k = 4 := by omega
     exact absurd (newB_all hf hall.out) (by rw [hn]; decide)
set_option maxHeartbeats 6000000 in
theorem rwnew_ok (h : Nat → Int) (f : Int) (w : World) (hn : newB h f = true) : Calls Tryz.prog 65 #[.agg (qfn h), .int .i64 f] w fun e w' => e = .returned (.tuple #[.agg (rsc (h, f)), .int .i64 0]) ∧ Below w.heap.size w w' := by
 by_cases h1 : f < -1
 ·have d1 : decide (f < -1) = true := decide_eq_true h1
  exact absurd (newB_SI hn).1.l (by omega)
 ·have d1 : decide (f < -1) = false := decide_eq_false h1
  by_cases h2 : 3 < f
  ·have d2 : decide (3 < f) = true := decide_eq_true h2
   exact absurd (newB_SI hn).1.u (by omega)
  ·have d2 : decide (3 < f) = false := decide_eq_false h2
   have hf : isW f = true := by unfold isW; rw [decide_eq_true (show -1 ≤ f by omega), decide_eq_true (show f ≤ 3 by omega)]; rfl
   clear h1 h2
   go_enter Tryz.func65, Tryz.ntmps65
   go_upto_region 1 with (fail)
   simp only [rsc_zero]
   have v : blk ((w.alloc (.cells (qfn h) 28)).alloc (.cells (rsc (fun _ => 0, 0)) 111)) w.heap.size (qfn h) 28 := (blk.new _ _ _).alloc _
   have r : blk ((w.alloc (.cells (qfn h) 28)).alloc (.cells (rsc (fun _ => 0, 0)) 111)) (w.heap.size + 1) (rsc (fun _ => 0, 0)) 111 := blk.new' (by simp)
   have hB : Below w.heap.size w ((w.alloc (.cells (qfn h) 28)).alloc (.cells (rsc (fun _ => 0, 0)) 111)) := by go_grown
   generalize ((w.alloc (.cells (qfn h) 28)).alloc (.cells (rsc (fun _ => 0, 0)) 111)) = w0 at *
   go_wp2_with (fail)
   go_loopg [6] 4 (fun g iv wr => ∃ k : Nat, g + k = 4 ∧ iv = .int .i64 k ∧ Hid (∀ j, j < k → whB h f j = true) ∧ blk wr w.heap.size (qfn h) 28 ∧ blk wr (w.heap.size + 1) (rsc (fun _ => 0, 0)) 111 ∧ Below w.heap.size w wr)
   case atStart => exact ⟨0, rfl, rfl, fun j hj => by omega, v, r, hB⟩
   case round =>
    clear hB v r
    obtain ⟨k, hk, rfl, hall, v, r, hB⟩ := hrel
    by_cases hkn : k < 4
    ·have hdk : decide ((k : Int) < 4) = true := decide_eq_true (by omega)
     have hdk' : decide (k < 4) = true := decide_eq_true (by omega)
     have hk3 : (k : Int) < 4 := by omega
     have hw3 : IntKind.i64.wrap ((k : Int) + 1) = ((k + 1 : Nat) : Int) := by rw [IntKind.wrap_i64]; omega
     have hc : wr.cell? ⟨w.heap.size, k, none⟩ = some (.int .i64 (h k)) := v.cellIs (qfn_get h hkn)
     by_cases h1 : h k < -16777216
     ·have d1 : decide (h k < -16777216) = true := decide_eq_true h1
      have HV : whB h f k = false := by unfold whB; rw [decide_eq_false (show ¬ -16777216 ≤ h k by omega)]; rfl
      exact absurd (newB_not hkn HV) (by rw [hn]; decide)
     ·have d1 : decide (h k < -16777216) = false := decide_eq_false h1
      by_cases h2 : 16777216 < h k
      ·have d2 : decide (16777216 < h k) = true := decide_eq_true h2
       have HV : whB h f k = false := by unfold whB; rw [decide_eq_false (show ¬ h k ≤ 16777216 by omega)]; simp
       exact absurd (newB_not hkn HV) (by rw [hn]; decide)
      ·have d2 : decide (16777216 < h k) = false := decide_eq_false h2
       have e1 : decide (-16777216 ≤ h k) = true := decide_eq_true (by omega)
       have e2 : decide (h k ≤ 16777216) = true := decide_eq_true (by omega)
       by_cases h3 : (k : Int) = f
       ·have d3 : decide ((k : Int) = f) = true := decide_eq_true h3
        by_cases h4 : h k = 0
        ·have d4 : (h k != 0) = false := by simp [h4]
         have d5 : decide (h k = 0) = true := decide_eq_true h4
         have HV : whB h f k = true := by unfold whB; rw [e1, e2, d3, d5]; rfl
         clear e1 e2 d3 d5
         subst h3
         replace HV := Lib.hid HV
         clear h1 h2 h4
         go_wp2_with (fail)
         go_roundg (4 - (k + 1))
         case rel =>
          refine ⟨k + 1, by omega, rfl, fun j hj => ?_, v, r, hB⟩
          by_cases e : j = k
          ·subst e; exact HV.out
          ·exact hall.out j (by omega)
         case measure => omega
        ·have d4 : (h k != 0) = true := by simp [h4]
         have d5 : decide (h k = 0) = false := decide_eq_false h4
         have HV : whB h f k = false := by unfold whB; rw [e1, e2, d3, d5]; rfl
         clear e1 e2 d3 d5
         subst h3
         exact absurd (newB_not hkn HV) (by rw [hn]; decide)
       ·have d3 : decide ((k : Int) = f) = false := decide_eq_false h3
        have d6 : ((k : Int) == f) = false := by simp [h3]
        have HV : whB h f k = true := by unfold whB; rw [e1, e2, d3]; simp
        clear e1 e2
        replace HV := Lib.hid HV
        clear h1 h2 h3
        go_wp2_with (fail)
        go_roundg (4 - (k + 1))
        case rel =>
         refine ⟨k + 1, by omega, rfl, fun j hj => ?_, v, r, hB⟩
         by_cases e : j = k
         ·subst e; exact HV.out
         ·exact hall.out j (by omega)
        case measure => omega
    ·obtain rfl : k = 4 := by omega
     go_upto_region 8 with (fail)
     have lt_v := v.lt
     have lt_r := r.lt
     have hW0 : w.heap.size ≤ wr.heap.size := by simpa using hB.size
     apply wp_region_Q 5 [0, 1, 3, 7, 15] [] [_, _, _, (fun _ => undef), _] (fun p L w' => wr.heap.size ≤ w'.heap.size ∧ Below w.heap.size w w' ∧ blk w' w.heap.size (qfn h) 28 ∧ blk w' (w.heap.size + 1) (bif L 3 then (rsc (h, f)) else (rsc (fun _ => 0, 0))) 111) _ [(0, 40), (1, 41), (2, 42), (4, 5)] [0, 1, 2, 3, 4]
     case hn => rfl
     case hB => kernel_rfl
     case hds => kernel_rfl
     case hA => (intro p; simp only [putsD, Act.put, sIT, sCZ, sCS, gCZ, gCS]; exact rfl)
     case h0 => exact fun p => ⟨Nat.le_refl _, hB, v, r⟩
     case hmore => exact fun p L w1 w2 ⟨hsz, hB, v, r⟩ hm => ⟨Nat.le_trans hsz hm.size, hB.trans (hm.mono (Nat.le_trans hW0 hsz)), v.below hm v.lt, r.below hm r.lt⟩
     case hs =>
      intro more
      refine sWW ?_ ?_
      ·rintro p L w1 ⟨hsz, hB, v, r⟩ hk
       have L3 : L 3 = false := hk.2.2 3 rfl
       first | exact valR_row _ _ rfl _ rfl _ _ v _ Tryz.underlying28 rfl (by first | kernel_rfl | (rw [qfn_size]; kernel_rfl)) rfl | (have hc := v.cellIs (qfn_get _ (show 0 < 4 by omega)); go_simp; exact ⟨rfl, rfl⟩)
      refine sWW ?_ ?_
      ·intros; go_simp; exact ⟨rfl, rfl⟩
      refine AllI.cons ?_ ?_
      ·refine stepI_val 2 rfl (fun p => rfl) ?_ (fun _ _ _ h => h)
       intros; simp only [qfn]; go_simp; exact ⟨rfl, rfl⟩
      refine AllI.cons ?_ ?_
      ·refine stepI_store 3 rfl (fun p => rfl) (fun p => rfl) _ _ _ rfl (fun _ => (w.heap.size + 1)) 0 (fun p => rfl) (fun p => (rsc (h, f))) (fun p => (congrArg Value.agg (rsc_of h f))) (fun p => (rsc (fun _ => 0, 0))) (fun p => (rsc (h, f))) 111 (fun p => over_ss _ _) (fun p => by first | (rw [rsc_size, rsc_size]; decide) | simp [rsc_size, rsc_size]) (fun p => by rw [rsc_size]; kernel_rfl) (fun p => rsc_one _) ?_ ?_
       ·rintro p L w1 ⟨hsz, hB, v, r⟩ hk
        have L3 : L 3 = false := hk.1
        rw [L3] at r
        try simp only [cond_true, cond_false] at r
        exact r
       ·rintro p L w1 ⟨hsz, hB, v, r⟩ hk
        have L3 : L 3 = false := hk.1
        skip
        refine ⟨(by simpa using hsz), Below.setRow hB (by first | exact Nat.le_trans hW0 hp.1 | exact ge_r | omega | (have := hB.size; simp at this ⊢; omega)) _, v.rowOther (by first | exact ne_v_r | exact Ne.symm ne_r_v | omega) _, ?_⟩
        rw [show upL L 3 3 = true from rfl]
        exact r.row _
      refine sWW ?_ ?_
      ·intros; go_simp; exact ⟨rfl, rfl⟩
      exact AllI.nil
     case hV0 => exact fun p q => AllI.nil
     case he =>
     clear hB v r
     rintro p wrr ⟨hsz, hB, v, r⟩
     replace r : blk wrr (w.heap.size + 1) (rsc (h, f)) 111 := r
     clear lt_v lt_r hsz hW0
     go_wp2_with (fail)
     refine bodyPost_ret (results_vec rfl _ _ _ _ _ _ _ rfl r Tryz.underlying111 rfl (by first | kernel_rfl | (rw [rsc_size]; kernel_rfl))) rfl ?_
     refine ⟨?_, hB⟩
     rfl
theorem frW_neg2 (h : Int) : frW (-h) = -frW h := by have := frW_neg h; omega
set_option maxHeartbeats 2000000 in
theorem rfr_pos (h : Int) (w : World) (h0 : 0 ≤ h) (h1 : h ≤ 16777216) : Calls Tryz.prog 128 #[.int .i64 h] w fun e w' => e = .returned (.int .i64 (frW h)) ∧ Below w.heap.size w w' := by
 have hB : Below w.heap.size w w := Below.refl _ _
 have hf := frW_bd (h := h) (by omega)
 unfold frW at hf ⊢
 have e1 : IntKind.i64.wrap (h.tdiv 1024) = h.tdiv 1024 := by rw [IntKind.wrap_i64]; omega
 have d1 : decide (h < 0) = false := decide_eq_false (by omega)
 clear hf h0 h1
 go_enter Tryz.func128, Tryz.ntmps128
 go_wp2_with (fail)
 go_ret
 exact ⟨rfl, hB⟩
set_option maxHeartbeats 2000000 in
theorem rfr_any (h : Int) (w : World) (hh : -16777216 ≤ h ∧ h ≤ 16777216) : Calls Tryz.prog 128 #[.int .i64 h] w fun e w' => e = .returned (.int .i64 (frW h)) ∧ Below w.heap.size w w' := by
 by_cases h0 : 0 ≤ h
 ·exact rfr_pos h w h0 hh.2
 have hB : Below w.heap.size w w := Below.refl _ _
 have hf := frW_bd hh
 have FR := Lib.hid (fun w => rfr_pos (-h) w (by omega) (by omega))
 have e0 : IntKind.i64.wrap (-h) = -h := by rw [IntKind.wrap_i64]; omega
 have e1 : IntKind.i64.wrap (-frW (-h)) = frW h := by rw [frW_neg2, IntKind.wrap_i64]; omega
 have d1 : decide (h < 0) = true := decide_eq_true (by omega)
 clear hf h0 hh
 go_enter Tryz.func128, Tryz.ntmps128
 go_wp2_with (first
  | (go_at_call 128; with_reducible refine (FR.out _).mono ?_; rintro e w1 ⟨rfl, hb⟩; replace hB := hB.trans (hb.mono hB.size); clear hb))
 go_ret
 exact ⟨rfl, hB⟩
set_option maxHeartbeats 2000000 in
theorem rsum_any (h : Nat → Int) (w : World) (hb : ∀ i, i < 4 → -16777216 ≤ h i ∧ h i ≤ 16777216) : Calls Tryz.prog 68 #[.agg (qfn h)] w fun e w' => e = .returned (.agg (vfn (sumW h))) ∧ Below w.heap.size w w' := by
 have e0 : IntKind.i64.wrap (h 0 + h 3) = sumW h 0 := by have := hb 0 (by omega); have := hb 3 (by omega); rw [IntKind.wrap_i64]; unfold sumW; omega
 have e1 : IntKind.i64.wrap (h 1 + h 3) = sumW h 1 := by have := hb 1 (by omega); have := hb 3 (by omega); rw [IntKind.wrap_i64]; unfold sumW; omega
 have e2 : IntKind.i64.wrap (h 2 + h 3) = sumW h 2 := by have := hb 2 (by omega); have := hb 3 (by omega); rw [IntKind.wrap_i64]; unfold sumW; omega
 clear hb
 go_enter Tryz.func68, Tryz.ntmps68
 go_upto_region 1 with (fail)
 simp only [zero_vec]
 have x : blk ((w.alloc (.cells (qfn h) 28)).alloc (.cells (vfn fun _ => 0) 27)) w.heap.size (qfn h) 28 := (blk.new _ _ _).alloc _
 have r : blk ((w.alloc (.cells (qfn h) 28)).alloc (.cells (vfn fun _ => 0) 27)) (w.heap.size + 1) (vfn fun _ => 0) 27 := blk.new' (by simp)
 have hB : Below w.heap.size w ((w.alloc (.cells (qfn h) 28)).alloc (.cells (vfn fun _ => 0) 27)) := by go_grown
 generalize ((w.alloc (.cells (qfn h) 28)).alloc (.cells (vfn fun _ => 0) 27)) = w0 at *
 have lt_x := x.lt
 have lt_r := r.lt
 have hW0 : w.heap.size ≤ w0.heap.size := by simpa using hB.size
 apply wp_region_Q 17 [0, 1, 3, 7, 15, 31, 63, 127, 255, 511, 1023, 2047, 4095, 8191, 16383, 32767, 65535] [] [_, _, _, _, _, _, _, _, _, _, _, _, _, _, _, _, (fun _ => undef)] (fun p L w' => w0.heap.size ≤ w'.heap.size ∧ Below w.heap.size w w' ∧ blk w' w.heap.size (qfn h) 28 ∧ blk w' (w.heap.size + 1) (bif L 16 then (vfn (sumW h)) else (vfn fun _ => 0)) 27) _ [(0, 3), (1, 4), (2, 5), (3, 6), (4, 7), (5, 8), (6, 9), (7, 10), (8, 11), (9, 12), (10, 13), (11, 14), (12, 15), (13, 16), (14, 17), (15, 18)] [0, 1, 2, 3, 4, 5, 6, 7, 8, 9, 10, 11, 12, 13, 14, 15, 16]
 case hn => rfl
 case hB => kernel_rfl
 case hds => kernel_rfl
 case hA => (intro p; simp only [putsD, Act.put, sIT, sCZ, sCS, gCZ, gCS]; exact rfl)
 case h0 => exact fun p => ⟨Nat.le_refl _, hB, x, r⟩
 case hmore => exact fun p L w1 w2 ⟨hsz, hB, x, r⟩ hm => ⟨Nat.le_trans hsz hm.size, hB.trans (hm.mono (Nat.le_trans hW0 hsz)), x.below hm x.lt, r.below hm r.lt⟩
 case hs =>
  intro more
  refine sVV ?_
  refine sWW ?_ ?_
  ·rintro p L w1 ⟨hsz, hB, x, r⟩ hk
   have L16 : L 16 = false := hk.2.2 16 rfl
   have hc : w1.cell? ⟨w.heap.size, 0, none⟩ = some (.int .i64 (h 0)) := x.cellIs (qfn_get _ (by omega))
   go_simp
   exact ⟨rfl, rfl⟩
  refine sVV ?_
  refine sWW ?_ ?_
  ·rintro p L w1 ⟨hsz, hB, x, r⟩ hk
   have L16 : L 16 = false := hk.2.2 16 rfl
   have hc : w1.cell? ⟨w.heap.size, 3, none⟩ = some (.int .i64 (h 3)) := x.cellIs (qfn_get _ (by omega))
   go_simp
   exact ⟨rfl, rfl⟩
  iterate 2 (refine sVV ?_)
  refine sWW ?_ ?_
  ·rintro p L w1 ⟨hsz, hB, x, r⟩ hk
   have L16 : L 16 = false := hk.2.2 16 rfl
   have hc : w1.cell? ⟨w.heap.size, 1, none⟩ = some (.int .i64 (h 1)) := x.cellIs (qfn_get _ (by omega))
   go_simp
   exact ⟨rfl, rfl⟩
  refine sVV ?_
  refine sWW ?_ ?_
  ·rintro p L w1 ⟨hsz, hB, x, r⟩ hk
   have L16 : L 16 = false := hk.2.2 16 rfl
   have hc : w1.cell? ⟨w.heap.size, 3, none⟩ = some (.int .i64 (h 3)) := x.cellIs (qfn_get _ (by omega))
   go_simp
   exact ⟨rfl, rfl⟩
  iterate 2 (refine sVV ?_)
  refine sWW ?_ ?_
  ·rintro p L w1 ⟨hsz, hB, x, r⟩ hk
   have L16 : L 16 = false := hk.2.2 16 rfl
   have hc : w1.cell? ⟨w.heap.size, 2, none⟩ = some (.int .i64 (h 2)) := x.cellIs (qfn_get _ (by omega))
   go_simp
   exact ⟨rfl, rfl⟩
  refine sVV ?_
  refine sWW ?_ ?_
  ·rintro p L w1 ⟨hsz, hB, x, r⟩ hk
   have L16 : L 16 = false := hk.2.2 16 rfl
   have hc : w1.cell? ⟨w.heap.size, 3, none⟩ = some (.int .i64 (h 3)) := x.cellIs (qfn_get _ (by omega))
   go_simp
   exact ⟨rfl, rfl⟩
  refine sVV ?_
  refine sWW ?_ ?_
  ·intros; (try simp only [vfn, qfn]); go_simp; exact ⟨rfl, rfl⟩
  refine AllI.cons ?_ ?_
  ·refine stepI_store 16 rfl (fun p => rfl) (fun p => rfl) _ _ _ rfl (fun _ => (w.heap.size + 1)) 0 (fun p => rfl) (fun p => (vfn (sumW h))) (fun p => (congrArg Value.agg (vfn_of (sumW h)))) (fun p => (vfn fun _ => 0)) (fun p => (vfn (sumW h))) 27 (fun p => over_v _ _) (fun p => by first | (rw [vfn_size, vfn_size]; decide) | simp [vfn_size, vfn_size]) (fun p => by rw [vfn_size]; kernel_rfl) (fun p => vfn_one _) ?_ ?_
   ·rintro p L w1 ⟨hsz, hB, x, r⟩ hk
    have L16 : L 16 = false := hk.1
    rw [L16] at r
    try simp only [cond_true, cond_false] at r
    exact r
   ·rintro p L w1 ⟨hsz, hB, x, r⟩ hk
    have L16 : L 16 = false := hk.1
    skip
    refine ⟨(by simpa using hsz), Below.setRow hB (by first | exact Nat.le_trans hW0 hp.1 | exact ge_r | omega | (have := hB.size; simp at this ⊢; omega)) _, x.rowOther (by first | exact ne_x_r | exact Ne.symm ne_r_x | omega) _, ?_⟩
    rw [show upL L 16 16 = true from rfl]
    exact r.row _
  exact AllI.nil
 case hV0 => exact fun p q => AllI.nil
 case he =>
 clear hB x r
 rintro p w0r ⟨hsz, hB, x, r⟩
 replace r : blk w0r (w.heap.size + 1) (vfn (sumW h)) 27 := r
 clear lt_x lt_r hsz hW0
 go_wp2_with (fail)
 refine bodyPost_ret (results_cell_row rfl _ _ _ _ _ _ _ rfl r Tryz.underlying27 rfl (by first | kernel_rfl | (rw [vfn_size]; kernel_rfl))) rfl ?_
 refine ⟨?_, hB⟩
 rfl
def rssc (X : SSt) : Array Value := #[.int .i64 (X.D 0), .int .i64 (X.D 1), .int .i64 (X.D 2), .int .i64 (X.A 0), .int .i64 (X.A 1), .int .i64 (X.A 2), .int .i64 (X.P 0), .int .i64 (X.P 1), .int .i64 (X.P 2), .int .i64 (X.P 3), .bool X.g]
theorem rssc_size (X : SSt) : (rssc X).size = 11 := rfl
theorem rssc_one (X : SSt) : (rssc X).all (·.oneCell') = true := by simp [rssc, Value.oneCell']
theorem rssc_zero : (#[.int .i64 0, .int .i64 0, .int .i64 0, .int .i64 0, .int .i64 0, .int .i64 0, .int .i64 0, .int .i64 0, .int .i64 0, .int .i64 0, .bool false] : Array Value) = rssc SSt.zero := rfl
theorem rs_D (X : SSt) (j : Nat) (hj : j < (vfn X.D).size) : (rssc X)[0 + j]? = (vfn X.D)[j]? := by
 rw [vfn_size] at hj
 rw [vfn_get _ hj]
 exact c3 (P := fun j => (rssc X)[0 + j]? = some (.int .i64 (X.D j))) hj rfl rfl rfl
theorem rs_A (X : SSt) (j : Nat) (hj : j < (vfn X.A).size) : (rssc X)[3 + j]? = (vfn X.A)[j]? := by
 rw [vfn_size] at hj
 rw [vfn_get _ hj]
 exact c3 (P := fun j => (rssc X)[3 + j]? = some (.int .i64 (X.A j))) hj rfl rfl rfl
theorem rs_P (X : SSt) (j : Nat) (hj : j < (qfn X.P).size) : (rssc X)[6 + j]? = (qfn X.P)[j]? := by
 rw [qfn_size] at hj
 rw [qfn_get _ hj]
 exact c4 (P := fun j => (rssc X)[6 + j]? = some (.int .i64 (X.P j))) hj rfl rfl rfl rfl
theorem rs_Di (X : SSt) {j : Nat} (hj : j < 3) : (rssc X)[j]? = some (.int .i64 (X.D j)) := c3 (P := fun j => (rssc X)[j]? = some (.int .i64 (X.D j))) hj rfl rfl rfl
theorem rsover_A (X : SSt) (A : Nat → Int) : over (rssc X) 3 (vfn A).toList = rssc ⟨X.D, A, X.P, X.g⟩ := by unfold vfn; rfl
theorem rsover_P (X : SSt) (P : Nat → Int) : over (rssc X) 6 (qfn P).toList = rssc ⟨X.D, X.A, P, X.g⟩ := by unfold qfn; rfl
theorem rsover (X Y : SSt) : over (rssc X) 0 (rssc Y).toList = rssc Y := over_full rfl
theorem rsset_g (D A P : Nat → Int) (g h : Bool) : (rssc ⟨D, A, P, g⟩).setIfInBounds 10 (.bool h) = rssc ⟨D, A, P, h⟩ := rfl
theorem rs_preD (A P : Nat → Int) (g : Bool) {new old : Nat → Int} {k : Nat} (hk : k < 3) (v : Int) (hv : v = new k) : (rssc ⟨preH new old k, A, P, g⟩).setIfInBounds k (.int .i64 v) = rssc ⟨preH new old (k + 1), A, P, g⟩ := by
 subst hv
 unfold rssc preH
 rcases (show k = 0 ∨ k = 1 ∨ k = 2 by omega) with rfl | rfl | rfl <;> simp
theorem rs_preD3 (A P new old : Nat → Int) (g : Bool) : rssc ⟨preH new old 3, A, P, g⟩ = rssc ⟨new, A, P, g⟩ := by unfold rssc preH; simp
theorem tdiv_sign (a n : Int) : a.tdiv n = if 0 ≤ a then a / n else -((-a) / n) := by
 split
 ·rename_i h; exact Int.tdiv_eq_ediv_of_nonneg h
 ·rename_i h
  rw [← Int.tdiv_eq_ediv_of_nonneg (show 0 ≤ -a by omega), Int.neg_tdiv]; omega
set_option maxHeartbeats 2000000 in
theorem rfloor_any (a n : Int) (w : World) (hn : n = 4 ∨ n = 32) (ha : -4611686018427387904 ≤ a ∧ a ≤ 4611686018427387904) : Calls Tryz.prog 30 #[.int .i64 a, .int .i64 n] w fun e w' => e = .returned (.int .i64 (a / n)) ∧ Below w.heap.size w w' := by
 have hB : Below w.heap.size w w := Below.refl _ _
 have ts := tdiv_sign a n
 by_cases hc : a < a.tdiv n * n
 ·have d1 : decide (a < a.tdiv n * n) = true := decide_eq_true hc
  have e1 : IntKind.i64.wrap (a.tdiv n) = a.tdiv n := by rcases hn with rfl | rfl <;> (rw [IntKind.wrap_i64]; split at ts <;> omega)
  have e2 : IntKind.i64.wrap (a.tdiv n * n) = a.tdiv n * n := by rcases hn with rfl | rfl <;> (rw [IntKind.wrap_i64]; split at ts <;> omega)
  have e3 : IntKind.i64.wrap (a.tdiv n - 1) = a / n := by rcases hn with rfl | rfl <;> (rw [IntKind.wrap_i64]; split at ts <;> omega)
  have hd : (n == 0) = false := by rcases hn with rfl | rfl <;> decide
  have hd2 : decide (n = 0) = false := by rcases hn with rfl | rfl <;> decide
  have hn0 : n ≠ 0 := by rcases hn with rfl | rfl <;> decide
  clear ts hn ha hc
  go_enter Tryz.func30, Tryz.ntmps30
  go_wp2_with (fail)
  go_ret
  exact ⟨rfl, hB⟩
 ·have d1 : decide (a < a.tdiv n * n) = false := decide_eq_false hc
  have e1 : IntKind.i64.wrap (a.tdiv n) = a.tdiv n := by rcases hn with rfl | rfl <;> (rw [IntKind.wrap_i64]; split at ts <;> omega)
  have e2 : IntKind.i64.wrap (a.tdiv n * n) = a.tdiv n * n := by rcases hn with rfl | rfl <;> (rw [IntKind.wrap_i64]; split at ts <;> omega)
  have e4 : a.tdiv n = a / n := by rcases hn with rfl | rfl <;> (split at ts <;> omega)
  have hd : (n == 0) = false := by rcases hn with rfl | rfl <;> decide
  have hd2 : decide (n = 0) = false := by rcases hn with rfl | rfl <;> decide
  have hn0 : n ≠ 0 := by rcases hn with rfl | rfl <;> decide
  rw [← e4]
  clear ts hn ha hc e4
  go_enter Tryz.func30, Tryz.ntmps30
  go_wp2_with (fail)
  go_ret
  exact ⟨rfl, hB⟩
set_option maxHeartbeats 4000000 in
theorem rwithin_any (v : Nat → Int) (m : Int) (w : World) (h0 : 0 ≤ m) (hm : m ≤ 1099511627776) : Calls Tryz.prog 66 #[.agg (vfn v), .int .i64 m] w fun e w' => e = .returned (.bool (smallB v m)) ∧ Below w.heap.size w w' := by
 have em : IntKind.i64.wrap (-m) = -m := by rw [IntKind.wrap_i64]; omega
 clear h0 hm
 obtain ⟨R, hR⟩ : ∃ R, smallB v m = R := ⟨_, rfl⟩
 rw [hR]
 replace hR := Lib.hid hR
 go_enter Tryz.func66, Tryz.ntmps66
 go_upto_region 1 with (fail)
 have tv : blk (w.alloc (.cells (vfn v) 27)) w.heap.size (vfn v) 27 := blk.new _ _ _
 have hB : Below w.heap.size w (w.alloc (.cells (vfn v) 27)) := by go_grown
 generalize (w.alloc (.cells (vfn v) 27)) = w0 at *
 go_wp2_with (fail)
 go_loopg [5] 3 (fun g_ iv wr => ∃ k : Nat, g_ + k = 3 ∧ iv = .int .i64 k ∧ Hid (∀ j, j < k → sb m (v j) = true) ∧ blk wr w.heap.size (vfn v) 27 ∧ Below w.heap.size w wr)
 case atStart => exact ⟨0, rfl, rfl, fun j hj => by omega, tv, hB⟩
 case round =>
  clear tv hB
  obtain ⟨k, hk, rfl, hall, tv, hB⟩ := hrel
  by_cases hkn : k < 3
  ·have hdk : decide ((k : Int) < 3) = true := decide_eq_true (by omega)
   have hdk' : decide (k < 3) = true := decide_eq_true (by omega)
   have hk3 : (k : Int) < 3 := by omega
   have hw3 : IntKind.i64.wrap ((k : Int) + 1) = ((k + 1 : Nat) : Int) := by rw [IntKind.wrap_i64]; omega
   have hck : wr.cell? ⟨w.heap.size, k, none⟩ = some (.int .i64 (v k)) := tv.cellIs (vfn_get _ hkn)
   by_cases h1 : v k < -m
   ·have d1 : decide (v k < -m) = true := decide_eq_true h1
    have hF : R = false := by
     rw [← hR.out]
     cases hq : smallB v m with
     | false => rfl
     | true => have := (sb_iff _ _).1 ((smallB_iff v m).1 hq k hkn); omega
    subst hF
    clear hR
    go_wp2_with (fail)
    go_ret
    exact ⟨rfl, hB⟩
   ·have d1 : decide (v k < -m) = false := decide_eq_false h1
    by_cases h2 : m < v k
    ·have d2 : decide (m < v k) = true := decide_eq_true h2
     have hF : R = false := by
      rw [← hR.out]
      cases hq : smallB v m with
      | false => rfl
      | true => have := (sb_iff _ _).1 ((smallB_iff v m).1 hq k hkn); omega
     subst hF
     clear hR
     go_wp2_with (fail)
     go_ret
     exact ⟨rfl, hB⟩
    ·have d2 : decide (m < v k) = false := decide_eq_false h2
     have HV := Lib.hid ((sb_iff m (v k)).2 ⟨by omega, by omega⟩)
     clear h1 h2
     go_wp2_with (fail)
     go_roundg (3 - (k + 1))
     case rel =>
      refine ⟨k + 1, by omega, rfl, fun j hj => ?_, tv, hB⟩
      by_cases e : j = k
      ·subst e; exact HV.out
      ·exact hall.out j (by omega)
     case measure => omega
  ·obtain rfl : k = 3 := by omega
   have hT : R = true := by rw [← hR.out]; exact (smallB_iff v m).2 hall.out
   subst hT
   clear hR
   go_wp2_with (fail)
   go_ret
   exact ⟨rfl, hB⟩
set_option maxHeartbeats 4000000 in
theorem rarr_any (X : SSt) (V : SeT) (w : World) : Calls Tryz.prog 35 #[.agg (rssc X), .agg (sec V)] w fun e w' => e = .returned (.bool (arrB X V)) ∧ Below w.heap.size w w' := by
 have EQ := spdq_eq V.sp X.P
 obtain ⟨e, he⟩ : ∃ e, spdE V.sp X.P = e := ⟨_, rfl⟩
 rw [show ((List.range 4).all fun j => V.sp j == X.P j) = e from he] at EQ
 obtain ⟨g, hg⟩ : ∃ g, X.g = g := ⟨_, rfl⟩
 have ha : arrB X V = (g && e) := by unfold arrB; rw [hg, he]
 rw [ha]
 clear he ha
 replace hg := Lib.hid hg
 cases g
 all_goals
  go_enter Tryz.func35, Tryz.ntmps35
  go_upto_region 1 with (fail)
  have y : blk ((w.alloc (.cells (rssc X) 30)).alloc (.cells (sec V) 33)) w.heap.size (rssc X) 30 := (blk.new _ _ _).alloc _
  have v : blk ((w.alloc (.cells (rssc X) 30)).alloc (.cells (sec V) 33)) (w.heap.size + 1) (sec V) 33 := blk.new' (by simp)
  have hB : Below w.heap.size w ((w.alloc (.cells (rssc X) 30)).alloc (.cells (sec V) 33)) := by go_grown
  generalize ((w.alloc (.cells (rssc X) 30)).alloc (.cells (sec V) 33)) = w0 at *
  have hc := y.cellIs (i := 10) (v := .bool X.g) rfl
  rw [hg.out] at hc
  go_wp2_with (first | (refine wpList_load_part ?hw _ _ rfl _ 3 rfl _ _ v (qfn V.sp) (se_p V) _ Tryz.underlying28 rfl ?hi ?_; (case hw => (first | rfl | (simp [Region.wanted, yielded]; done))); (case hi => (rw [qfn_size]; kernel_rfl))) | (refine wpList_load_part ?hw _ _ rfl _ 6 rfl _ _ y (qfn X.P) (rs_P X) _ Tryz.underlying28 rfl ?hi ?_; (case hw => (first | rfl | (simp [Region.wanted, yielded]; done))); (case hi => (rw [qfn_size]; kernel_rfl))))
  go_ret
  exact ⟨rfl, hB⟩
set_option maxHeartbeats 4000000 in
theorem rsval_any (V : SeT) (w : World) : Calls Tryz.prog 24 #[.agg (sec V)] w fun e w' => e = .returned (.bool (senseOk V)) ∧ Below w.heap.size w w' := by
 have W1 := Lib.hid (fun w => rwithin_any V.rate 268435456 w (by omega) (by omega))
 have W2 := Lib.hid (fun w => rwithin_any V.sun 2147483648 w (by omega) (by omega))
 unfold senseOk
 obtain ⟨b1, h1⟩ : ∃ b, smallB V.rate 268435456 = b := ⟨_, rfl⟩
 obtain ⟨b2, h2⟩ : ∃ b, smallB V.sun 2147483648 = b := ⟨_, rfl⟩
 rw [h1] at W1 ⊢
 rw [h2] at W2 ⊢
 clear h1 h2
 cases hn : newB V.sp V.f with
 | false =>
   have WN := Lib.hid (fun w => rwnew_no V.sp V.f w hn)
   clear hn
   go_enter Tryz.func24, Tryz.ntmps24
   go_upto_region 1 with (fail)
   have v : blk (w.alloc (.cells (sec V) 33)) w.heap.size (sec V) 33 := blk.new _ _ _
   have hB : Below w.heap.size w (w.alloc (.cells (sec V) 33)) := by go_grown
   generalize (w.alloc (.cells (sec V) 33)) = w0 at *
   have hc7 : w0.cell? ⟨w.heap.size, 7, none⟩ = some (.int .i64 V.f) := v.cellIs rfl
   have lt_v := v.lt
   have hW0 : w.heap.size ≤ w0.heap.size := by simpa using hB.size
   apply wp_region_Q 11 [0, 1, 3, 7, 15, 31, 63, 127, 255, 511, 1023] [8] [_, _, _, _, _, _, _, _, (fun p => .pointer (some ⟨p 8, 0, none⟩)), (fun _ => undef), _] (fun p L w' => w0.heap.size ≤ w'.heap.size ∧ Below w.heap.size w w' ∧ blk w' w.heap.size (sec V) 33 ∧ (L 8 = true → w0.heap.size ≤ p 8 ∧ blk w' (p 8) (bif L 9 then (rsc (fun _ => 0, 0)) else (rsc (fun _ => 0, 0))) 111)) _ [(0, 6), (1, 7), (2, 8), (3, 9), (4, 10), (5, 5), (6, 11), (7, 12), (8, 3), (10, 4)] [0, 1, 2, 3, 4, 5, 6, 7, 8, 9, 10]
   case hn => rfl
   case hB => kernel_rfl
   case hds => kernel_rfl
   case hA => (intro p; simp only [putsD, Act.put, sIT, sCZ, sCS, gCZ, gCS]; exact rfl)
   case h0 => exact fun p => ⟨Nat.le_refl _, hB, v, fun h => absurd h (by decide)⟩
   case hmore => exact fun p L w1 w2 ⟨hsz, hB, v, h_x⟩ hm => ⟨Nat.le_trans hsz hm.size, hB.trans (hm.mono (Nat.le_trans hW0 hsz)), v.below hm v.lt, fun hl => ⟨(h_x hl).1, (h_x hl).2.below hm (h_x hl).2.lt⟩⟩
   case hs =>
    intro more
    refine sVV ?_
    refine sWW ?_ ?_
    ·rintro p L w1 ⟨hsz, hB, v, h_x⟩ hk
     have L9 : L 9 = false := hk.2.2 9 rfl
     exact valR_part _ _ rfl _ 3 rfl _ _ v (qfn V.sp) (se_p V) _ Tryz.underlying28 rfl (by rw [qfn_size]; kernel_rfl) rfl
    refine sVV ?_
    refine sWW ?_ ?_
    ·rintro p L w1 ⟨hsz, hB, v, h_x⟩ hk
     have L9 : L 9 = false := hk.2.2 9 rfl
     have hc : w1.cell? ⟨w.heap.size, 7, none⟩ = some (.int .i64 V.f) := v.cellIs rfl
     go_simp
     exact ⟨rfl, rfl⟩
    refine stepD 4 rfl (fun p => rfl) (fun _ _ _ h => h) more ?_ ?_
    ·rintro p L w1 ⟨hsz, hB, v, h_x⟩ hk
     go_simp
     refine (WN.out _).mono ?_
     rintro e w2 ⟨rfl, h2⟩
     first | exact ⟨rfl, h2⟩ | (subst h2; exact ⟨rfl, Below.refl _ _⟩)
    iterate 3 (refine sVV ?_)
    refine AllI.cons ?_ ?_
    ·refine stepI_alloc 8 rfl (fun p => rfl) rfl (rsc (fun _ => 0, 0)) 111 (fun p => rfl) ?_ ?_
     ·intro p w1
      go_simp
      first | rfl | rw [rsc_zero]
     rintro p L w1 ⟨hsz, hB, v, h_x⟩ hk
     have L9 : L 9 = false := hk.2.2 9 rfl
     refine ⟨Nat.le_trans hsz (by simp), hB.alloc (Nat.le_trans (by first | exact hW0 | (have := hB.size; simp at this ⊢; omega)) hsz) _, v.alloc _, fun _ => ⟨hsz, ?_⟩⟩
     rw [show upL L 8 9 = false from L9]
     exact blk.new _ _ _
    refine AllI.cons ?_ ?_
    ·refine stepI_store 9 rfl (fun p => rfl) (fun p => rfl) _ _ _ rfl (fun p => p 8) 0 (fun p => rfl) (fun p => (rsc (fun _ => 0, 0))) (fun p => rfl) (fun p => (rsc (fun _ => 0, 0))) (fun p => (rsc (fun _ => 0, 0))) 111 (fun p => over_ss _ _) (fun p => by first | (rw [rsc_size, rsc_size]; decide) | simp [rsc_size, rsc_size]) (fun p => by rw [rsc_size]; kernel_rfl) (fun p => rsc_one _) ?_ ?_
     ·rintro p L w1 ⟨hsz, hB, v, h_x⟩ hk
      have L9 : L 9 = false := hk.1
      have hh := (h_x (hk.2.1 8 rfl)).2
      rw [L9] at hh
      try simp only [cond_true, cond_false] at hh
      exact hh
     ·rintro p L w1 ⟨hsz, hB, v, h_x⟩ hk
      have L9 : L 9 = false := hk.1
      skip
      have hp := h_x (hk.2.1 8 rfl)
      refine ⟨(by simpa using hsz), Below.setRow hB (by first | exact Nat.le_trans hW0 hp.1 | exact ge_x | omega | (have := hB.size; simp at this ⊢; omega)) _, v.rowOther (by first | exact Nat.ne_of_lt (Nat.lt_of_lt_of_le lt_v hp.1) | omega) _, fun _ => ⟨hp.1, ?_⟩⟩
      rw [show upL L 9 9 = true from rfl]
      exact hp.2.row _
    refine sVV ?_
    exact AllI.nil
   case hV0 =>
    intro p q
    refine AllI.cons ?_ ?_
    ·skip
     iterate 11 (refine AllI.cons (by first | exact .inl rfl | (refine .inr ?_; simp only [gCZ, gCS]; done) | exact .inr rfl) ?_)
     exact AllI.nil
    exact AllI.nil
   case he =>
   clear hB v
   rintro p w0r ⟨hsz, hB, v, h_x⟩
   obtain ⟨le_x, x⟩ := h_x rfl
   clear h_x
   replace x : blk w0r (p 8) (rsc (fun _ => 0, 0)) 111 := x
   have ne_v_x : w.heap.size ≠ p 8 := Nat.ne_of_lt (Nat.lt_of_lt_of_le lt_v le_x)
   have ge_x : w.heap.size ≤ p 8 := Nat.le_trans hW0 le_x
   generalize p 8 = x_b at *
   clear lt_v hsz hW0
   go_wp2_with (fail)
   go_ret
   exact ⟨rfl, hB⟩
 | true =>
   have WN := Lib.hid (fun w => rwnew_ok V.sp V.f w hn)
   clear hn
   go_enter Tryz.func24, Tryz.ntmps24
   go_upto_region 1 with (fail)
   have v : blk (w.alloc (.cells (sec V) 33)) w.heap.size (sec V) 33 := blk.new _ _ _
   have hB : Below w.heap.size w (w.alloc (.cells (sec V) 33)) := by go_grown
   generalize (w.alloc (.cells (sec V) 33)) = w0 at *
   have lt_v := v.lt
   have hW0 : w.heap.size ≤ w0.heap.size := by simpa using hB.size
   apply wp_region_Q 11 [0, 1, 3, 7, 15, 31, 63, 127, 255, 511, 1023] [8] [_, _, _, _, _, _, _, _, (fun p => .pointer (some ⟨p 8, 0, none⟩)), (fun _ => undef), _] (fun p L w' => w0.heap.size ≤ w'.heap.size ∧ Below w.heap.size w w' ∧ blk w' w.heap.size (sec V) 33 ∧ (L 8 = true → w0.heap.size ≤ p 8 ∧ blk w' (p 8) (bif L 9 then (rsc (V.sp, V.f)) else (rsc (fun _ => 0, 0))) 111)) _ [(0, 6), (1, 7), (2, 8), (3, 9), (4, 10), (5, 5), (6, 11), (7, 12), (8, 3), (10, 4)] [0, 1, 2, 3, 4, 5, 6, 7, 8, 9, 10]
   case hn => rfl
   case hB => kernel_rfl
   case hds => kernel_rfl
   case hA => (intro p; simp only [putsD, Act.put, sIT, sCZ, sCS, gCZ, gCS]; exact rfl)
   case h0 => exact fun p => ⟨Nat.le_refl _, hB, v, fun h => absurd h (by decide)⟩
   case hmore => exact fun p L w1 w2 ⟨hsz, hB, v, h_x⟩ hm => ⟨Nat.le_trans hsz hm.size, hB.trans (hm.mono (Nat.le_trans hW0 hsz)), v.below hm v.lt, fun hl => ⟨(h_x hl).1, (h_x hl).2.below hm (h_x hl).2.lt⟩⟩
   case hs =>
    intro more
    refine sVV ?_
    refine sWW ?_ ?_
    ·rintro p L w1 ⟨hsz, hB, v, h_x⟩ hk
     have L9 : L 9 = false := hk.2.2 9 rfl
     exact valR_part _ _ rfl _ 3 rfl _ _ v (qfn V.sp) (se_p V) _ Tryz.underlying28 rfl (by rw [qfn_size]; kernel_rfl) rfl
    refine sVV ?_
    refine sWW ?_ ?_
    ·rintro p L w1 ⟨hsz, hB, v, h_x⟩ hk
     have L9 : L 9 = false := hk.2.2 9 rfl
     have hc : w1.cell? ⟨w.heap.size, 7, none⟩ = some (.int .i64 V.f) := v.cellIs rfl
     go_simp
     exact ⟨rfl, rfl⟩
    refine stepD 4 rfl (fun p => rfl) (fun _ _ _ h => h) more ?_ ?_
    ·rintro p L w1 ⟨hsz, hB, v, h_x⟩ hk
     go_simp
     refine (WN.out _).mono ?_
     rintro e w2 ⟨rfl, h2⟩
     first | exact ⟨rfl, h2⟩ | (subst h2; exact ⟨rfl, Below.refl _ _⟩)
    iterate 3 (refine sVV ?_)
    refine AllI.cons ?_ ?_
    ·refine stepI_alloc 8 rfl (fun p => rfl) rfl (rsc (fun _ => 0, 0)) 111 (fun p => rfl) ?_ ?_
     ·intro p w1
      go_simp
      first | rfl | rw [rsc_zero]
     rintro p L w1 ⟨hsz, hB, v, h_x⟩ hk
     have L9 : L 9 = false := hk.2.2 9 rfl
     refine ⟨Nat.le_trans hsz (by simp), hB.alloc (Nat.le_trans (by first | exact hW0 | (have := hB.size; simp at this ⊢; omega)) hsz) _, v.alloc _, fun _ => ⟨hsz, ?_⟩⟩
     rw [show upL L 8 9 = false from L9]
     exact blk.new _ _ _
    refine AllI.cons ?_ ?_
    ·refine stepI_store 9 rfl (fun p => rfl) (fun p => rfl) _ _ _ rfl (fun p => p 8) 0 (fun p => rfl) (fun p => (rsc (V.sp, V.f))) (fun p => rfl) (fun p => (rsc (fun _ => 0, 0))) (fun p => (rsc (V.sp, V.f))) 111 (fun p => over_ss _ _) (fun p => by first | (rw [rsc_size, rsc_size]; decide) | simp [rsc_size, rsc_size]) (fun p => by rw [rsc_size]; kernel_rfl) (fun p => rsc_one _) ?_ ?_
     ·rintro p L w1 ⟨hsz, hB, v, h_x⟩ hk
      have L9 : L 9 = false := hk.1
      have hh := (h_x (hk.2.1 8 rfl)).2
      rw [L9] at hh
      try simp only [cond_true, cond_false] at hh
      exact hh
     ·rintro p L w1 ⟨hsz, hB, v, h_x⟩ hk
      have L9 : L 9 = false := hk.1
      skip
      have hp := h_x (hk.2.1 8 rfl)
      refine ⟨(by simpa using hsz), Below.setRow hB (by first | exact Nat.le_trans hW0 hp.1 | exact ge_x | omega | (have := hB.size; simp at this ⊢; omega)) _, v.rowOther (by first | exact Nat.ne_of_lt (Nat.lt_of_lt_of_le lt_v hp.1) | omega) _, fun _ => ⟨hp.1, ?_⟩⟩
      rw [show upL L 9 9 = true from rfl]
      exact hp.2.row _
    refine sVV ?_
    exact AllI.nil
   case hV0 =>
    intro p q
    refine AllI.cons ?_ ?_
    ·skip
     iterate 11 (refine AllI.cons (by first | exact .inl rfl | (refine .inr ?_; simp only [gCZ, gCS]; done) | exact .inr rfl) ?_)
     exact AllI.nil
    exact AllI.nil
   case he =>
   clear hB v
   rintro p w0r ⟨hsz, hB, v, h_x⟩
   obtain ⟨le_x, x⟩ := h_x rfl
   clear h_x
   replace x : blk w0r (p 8) (rsc (V.sp, V.f)) 111 := x
   have ne_v_x : w.heap.size ≠ p 8 := Nat.ne_of_lt (Nat.lt_of_lt_of_le lt_v le_x)
   have ge_x : w.heap.size ≤ p 8 := Nat.le_trans hW0 le_x
   generalize p 8 = x_b at *
   clear lt_v hsz hW0
   cases b1 <;> cases b2
   all_goals
    go_wp2_with (first | (refine wpList_load_part ?hw _ _ rfl _ 0 rfl _ _ v (vfn V.rate) (se_r V) _ Tryz.underlying27 rfl ?hi ?_; (case hw => (first | rfl | (simp [Region.wanted, yielded]; done))); (case hi => (rw [vfn_size]; kernel_rfl))) | (refine wpList_load_part ?hw _ _ rfl _ 8 rfl _ _ v (vfn V.sun) (se_s V) _ Tryz.underlying27 rfl ?hi ?_; (case hw => (first | rfl | (simp [Region.wanted, yielded]; done))); (case hi => (rw [vfn_size]; kernel_rfl))) | (go_at_call 66; with_reducible refine (W1.out _).mono ?_; rintro e wa ⟨rfl, hb⟩; replace hB := hB.trans (hb.mono hB.size); replace v := v.below hb v.lt; replace x := x.below hb x.lt; clear hb) | (go_at_call 66; with_reducible refine (W2.out _).mono ?_; rintro e wb ⟨rfl, hb⟩; replace hB := hB.trans (hb.mono hB.size); replace v := v.below hb v.lt; replace x := x.below hb x.lt; clear hb))
    go_ret
    exact ⟨rfl, hB⟩
def loK (d : Nat → Int) : Nat → Int
 | 0 => 0
 | k + 1 => mn (loK d k) (d k)
def hiK (d : Nat → Int) : Nat → Int
 | 0 => 0
 | k + 1 => mx (hiK d k) (d k)
theorem loK_eq (d : Nat → Int) : loK d 3 = [d 1, d 2, 0].foldl mn (d 0) := by
 show mn (mn (mn 0 (d 0)) (d 1)) (d 2) = mn (mn (mn (d 0) (d 1)) (d 2)) 0
 unfold mn; repeat' split
 all_goals omega
theorem hiK_eq (d : Nat → Int) : hiK d 3 = [d 1, d 2, 0].foldl mx (d 0) := by
 show mx (mx (mx 0 (d 0)) (d 1)) (d 2) = mx (mx (mx (d 0) (d 1)) (d 2)) 0
 unfold mx; repeat' split
 all_goals omega
set_option maxHeartbeats 6000000 in
theorem rcmd_any (h : Nat → Int) (f : Int) (t : Nat → Int) (w : World) (hb : ∀ i, i < 4 → -16777216 ≤ h i ∧ h i ≤ 16777216) : Calls Tryz.prog 70 #[.agg (rsc (h, f)), .agg (qfn t)] w fun e w' => e = .returned (.agg (qfn (cmdF h f t))) ∧ Below w.heap.size w w' := by
 have HI := Lib.hid hb
 clear hb
 go_enter Tryz.func70, Tryz.ntmps70
 go_upto_region 1 with (fail)
 simp only [zero_spd]
 have g : blk (((w.alloc (.cells (rsc (h, f)) 111)).alloc (.cells (qfn t) 28)).alloc (.cells (qfn fun _ => 0) 28)) w.heap.size (rsc (h, f)) 111 := ((blk.new _ _ _).alloc _).alloc _
 have v : blk (((w.alloc (.cells (rsc (h, f)) 111)).alloc (.cells (qfn t) 28)).alloc (.cells (qfn fun _ => 0) 28)) (w.heap.size + 1) (qfn t) 28 := (blk.new' (by simp)).alloc _
 have r : blk (((w.alloc (.cells (rsc (h, f)) 111)).alloc (.cells (qfn t) 28)).alloc (.cells (qfn fun _ => 0) 28)) (w.heap.size + 2) (qfn fun _ => 0) 28 := blk.new' (by simp)
 have hB : Below w.heap.size w (((w.alloc (.cells (rsc (h, f)) 111)).alloc (.cells (qfn t) 28)).alloc (.cells (qfn fun _ => 0) 28)) := by go_grown
 generalize (((w.alloc (.cells (rsc (h, f)) 111)).alloc (.cells (qfn t) 28)).alloc (.cells (qfn fun _ => 0) 28)) = w0 at *
 have lt_g := g.lt
 have lt_v := v.lt
 have lt_r := r.lt
 have hW0 : w.heap.size ≤ w0.heap.size := by simpa using hB.size
 apply wp_region_Q 1 [0] [0] [(fun p => .pointer (some ⟨p 0, 0, none⟩))] (fun p L w' => w0.heap.size ≤ w'.heap.size ∧ Below w.heap.size w w' ∧ blk w' w.heap.size (rsc (h, f)) 111 ∧ blk w' (w.heap.size + 1) (qfn t) 28 ∧ blk w' (w.heap.size + 2) (qfn fun _ => 0) 28 ∧ (L 0 = true → w0.heap.size ≤ p 0 ∧ blk w' (p 0) (qfn fun _ => 0) 28)) _ [(0, 5)] [0]
 case hn => rfl
 case hB => kernel_rfl
 case hds => kernel_rfl
 case hA => (intro p; simp only [putsD, Act.put, sIT, sCZ, sCS, gCZ, gCS]; exact rfl)
 case h0 => exact fun p => ⟨Nat.le_refl _, hB, g, v, r, fun h => absurd h (by decide)⟩
 case hmore => exact fun p L w1 w2 ⟨hsz, hB, g, v, r, h_x⟩ hm => ⟨Nat.le_trans hsz hm.size, hB.trans (hm.mono (Nat.le_trans hW0 hsz)), g.below hm g.lt, v.below hm v.lt, r.below hm r.lt, fun hl => ⟨(h_x hl).1, (h_x hl).2.below hm (h_x hl).2.lt⟩⟩
 case hs =>
  intro more
  refine AllI.cons ?_ ?_
  ·refine stepI_alloc 0 rfl (fun p => rfl) rfl (qfn fun _ => 0) 28 (fun p => rfl) ?_ ?_
   ·intro p w1
    go_simp
    first | rfl | rw [zero_spd]
   rintro p L w1 ⟨hsz, hB, g, v, r, h_x⟩ hk
   refine ⟨Nat.le_trans hsz (by simp), hB.alloc (Nat.le_trans (by first | exact hW0 | (have := hB.size; simp at this ⊢; omega)) hsz) _, g.alloc _, v.alloc _, r.alloc _, fun _ => ⟨hsz, ?_⟩⟩
   exact blk.new _ _ _
  exact AllI.nil
 case hV0 =>
  intro p q
  refine AllI.cons ?_ ?_
  ·skip
   iterate 1 (refine AllI.cons (by first | exact .inl rfl | (refine .inr ?_; simp only [gCZ, gCS]; done) | exact .inr rfl) ?_)
   exact AllI.nil
  exact AllI.nil
 case he =>
 clear hB g v r
 rintro p w0r ⟨hsz, hB, g, v, r, h_x⟩
 obtain ⟨le_x, x⟩ := h_x rfl
 clear h_x
 replace x : blk w0r (p 0) (qfn fun _ => 0) 28 := x
 have ne_g_x : w.heap.size ≠ p 0 := Nat.ne_of_lt (Nat.lt_of_lt_of_le lt_g le_x)
 have ne_v_x : (w.heap.size + 1) ≠ p 0 := Nat.ne_of_lt (Nat.lt_of_lt_of_le lt_v le_x)
 have ne_r_x : (w.heap.size + 2) ≠ p 0 := Nat.ne_of_lt (Nat.lt_of_lt_of_le lt_r le_x)
 have ge_x : w.heap.size ≤ p 0 := Nat.le_trans hW0 le_x
 generalize p 0 = x_b at *
 clear lt_g lt_v lt_r hsz hW0
 rw [show qfn (fun _ => 0) = qfn (preH (cmdF h f t) (fun _ => 0) 0) from by rw [preH_zero]] at x
 go_wp2_with (fail)
 go_loopg [6] 4 (fun g_ iv wr => ∃ k : Nat, g_ + k = 4 ∧ iv = .int .i64 k ∧ blk wr w.heap.size (rsc (h, f)) 111 ∧ blk wr (w.heap.size + 1) (qfn t) 28 ∧ blk wr (w.heap.size + 2) (qfn fun _ => 0) 28 ∧ blk wr x_b (qfn (preH (cmdF h f t) (fun _ => 0) k)) 28 ∧ Below w.heap.size w wr)
 case atStart => exact ⟨0, rfl, rfl, g, v, r, x, hB⟩
 case round =>
  clear g v r x hB
  obtain ⟨k, hk, rfl, g, v, r, x, hB⟩ := hrel
  by_cases hkn : k < 4
  ·have hdk : decide ((k : Int) < 4) = true := decide_eq_true (by omega)
   have hdk' : decide (k < 4) = true := decide_eq_true (by omega)
   have hk3 : (k : Int) < 4 := by omega
   have hw3 : IntKind.i64.wrap ((k : Int) + 1) = ((k + 1 : Nat) : Int) := by rw [IntKind.wrap_i64]; omega
   have H := HI.out k hkn
   have hc4 : wr.cell? ⟨w.heap.size, 4, none⟩ = some (.int .i64 f) := g.cellIs rfl
   by_cases hf : (k : Int) = f
   ·have d6 : ((k : Int) != f) = false := by simp [hf]
    have d7 : decide ((k : Int) = f) = true := decide_eq_true hf
    have ev : cmdF h f t k = (fun _ => (0 : Int)) k := by unfold cmdF; rw [if_pos hf]
    clear H hf
    go_wp2_with (fail)
    go_roundg (4 - (k + 1))
    case rel =>
     exact ⟨k + 1, by omega, rfl, g, v, r, by rw [preH_same ev]; exact x, hB⟩
    case measure => omega
   ·have d6 : ((k : Int) != f) = true := by simp [hf]
    have d7 : decide ((k : Int) = f) = false := decide_eq_false hf
    have H1 := clampW_bd (t k)
    have H2 := frW_bd H
    have CL := Lib.hid (fun w => rclamp_any (t k) (-16777216) 16777216 w)
    have FR := Lib.hid (fun w => rfr_any (h k) w H)
    have e1 : IntKind.i64.wrap (clampV (t k) (-16777216) 16777216 - h k) = clampV (t k) (-16777216) 16777216 - h k := by rw [IntKind.wrap_i64]; omega
    have e2 : IntKind.i64.wrap (clampV (t k) (-16777216) 16777216 - h k + frW (h k)) = cmdX (h k) (t k) := by rw [IntKind.wrap_i64]; unfold cmdX; omega
    have ev : cmdX (h k) (t k) = cmdF h f t k := by unfold cmdF; rw [if_neg hf]
    clear H H1 H2 hf
    go_upto_region 6 with (fail)
    clear hc4
    have lt_g := g.lt
    have lt_v := v.lt
    have lt_r := r.lt
    have lt_x := x.lt
    have hW0 : w.heap.size ≤ wr.heap.size := by simpa using hB.size
    apply wp_region_I 18 [0, 0, 2, 6, 14, 0, 0, 96, 224, 510, 0, 0, 3072, 7168, 15390, 32766, 65535, 131071] [] [_, _, _, _, _, _, _, _, _, _, _, _, _, _, _, _, _, (fun _ => undef)] (fun p L w' => wr.heap.size ≤ w'.heap.size ∧ Below w.heap.size w w' ∧ blk w' w.heap.size (rsc (h, f)) 111 ∧ blk w' (w.heap.size + 1) (qfn t) 28 ∧ blk w' (w.heap.size + 2) (qfn fun _ => 0) 28 ∧ blk w' x_b (bif L 17 then (qfn (preH (cmdF h f t) (fun _ => 0) (k + 1))) else (qfn (preH (cmdF h f t) (fun _ => 0) k))) 28) _ [(0, 15), (1, 16), (2, 17), (3, 18), (4, 19), (5, 20), (6, 21), (7, 22), (8, 23), (9, 24), (10, 25), (11, 26), (12, 27), (13, 28), (14, 29), (15, 30), (16, 31)] [0, 1, 2, 3, 4, 5, 6, 7, 8, 9, 10, 11, 12, 13, 14, 15, 16, 17]
    case hn => rfl
    case hm => kernel_rfl
    case hB => kernel_rfl
    case hds => kernel_rfl
    case hA => (intro p; simp only [putsD, Act.put, sIT, sCZ, sCS, gCZ, gCS]; exact rfl)
    case h0 => exact fun p => ⟨Nat.le_refl _, hB.drew, g.drew, v.drew, r.drew, x.drew⟩
    case hmore => exact fun p L w1 w2 ⟨hsz, hB, g, v, r, x⟩ hm => ⟨Nat.le_trans hsz hm.size, hB.trans (hm.mono (Nat.le_trans hW0 hsz)), g.below hm g.lt, v.below hm v.lt, r.below hm r.lt, x.below hm x.lt⟩
    case hs =>
     intro more
     iterate 3 (refine sVV ?_)
     refine sWW ?_ ?_
     ·rintro p L w1 ⟨hsz, hB, g, v, r, x⟩ hk
      have L17 : L 17 = false := hk.2.2 17 rfl
      have hc : w1.cell? ⟨(w.heap.size + 1), k, none⟩ = some (.int .i64 (t k)) := v.cellIs (qfn_get _ hkn)
      go_simp
      exact ⟨rfl, rfl⟩
     refine stepD 4 rfl (fun p => rfl) (fun _ _ _ h => h) more ?_ ?_
     ·rintro p L w1 ⟨hsz, hB, g, v, r, x⟩ hk
      go_simp
      refine (CL.out _).mono ?_
      rintro e w2 ⟨rfl, h2⟩
      first | exact ⟨rfl, h2⟩ | (subst h2; exact ⟨rfl, Below.refl _ _⟩)
     iterate 3 (refine sVV ?_)
     refine sWW ?_ ?_
     ·rintro p L w1 ⟨hsz, hB, g, v, r, x⟩ hk
      have L17 : L 17 = false := hk.2.2 17 rfl
      have hc : w1.cell? ⟨w.heap.size, k, none⟩ = some (.int .i64 (h k)) := g.cellIs (rs_i _ f hkn)
      go_simp
      exact ⟨rfl, rfl⟩
     iterate 4 (refine sVV ?_)
     refine sWW ?_ ?_
     ·rintro p L w1 ⟨hsz, hB, g, v, r, x⟩ hk
      have L17 : L 17 = false := hk.2.2 17 rfl
      have hc : w1.cell? ⟨w.heap.size, k, none⟩ = some (.int .i64 (h k)) := g.cellIs (rs_i _ f hkn)
      go_simp
      exact ⟨rfl, rfl⟩
     refine stepD 14 rfl (fun p => rfl) (fun _ _ _ h => h) more ?_ ?_
     ·rintro p L w1 ⟨hsz, hB, g, v, r, x⟩ hk
      go_simp
      refine (FR.out _).mono ?_
      rintro e w2 ⟨rfl, h2⟩
      first | exact ⟨rfl, h2⟩ | (subst h2; exact ⟨rfl, Below.refl _ _⟩)
     iterate 2 (refine sVV ?_)
     refine AllI.cons ?_ ?_
     ·refine stepI_cell 17 rfl (fun p => rfl) (fun p => rfl) (fun _ => x_b) (k) (fun p => .int .i64 (cmdX (h k) (t k))) (fun p => (qfn (preH (cmdF h f t) (fun _ => 0) k))) (fun p => (qfn (preH (cmdF h f t) (fun _ => 0) (k + 1)))) 28 (fun p => q_pre hkn _ ev) ?_ ?_ ?_
      ·rintro p L w1 ⟨hsz, hB, g, v, r, x⟩ hk
       have L17 : L 17 = false := hk.1
       rw [L17] at x
       try simp only [cond_true, cond_false] at x
       exact x
      ·intro p w1 hb
       have fz : w1.frozen? ⟨x_b, k, none⟩ = false := hb.free _
       have cz : ∃ u, w1.cell? ⟨x_b, k, none⟩ = some u := ⟨_, hb.cellIs (qfn_get _ hkn)⟩
       obtain ⟨u, cz⟩ := cz
       go_simp
       try exact ⟨_, rfl, by first | exact .inl rfl | exact .inr rfl⟩
      ·rintro p L w1 ⟨hsz, hB, g, v, r, x⟩ hk
       have L17 : L 17 = false := hk.1
       refine ⟨(by simpa using hsz), Below.setRow hB (by first | exact Nat.le_trans hW0 hp.1 | exact ge_x | omega | (have := hB.size; simp at this ⊢; omega)) _, g.rowOther ne_g_x _, v.rowOther ne_v_x _, r.rowOther ne_r_x _, ?_⟩
       rw [show upL L 17 17 = true from rfl]
       exact x.row _
     exact AllI.nil
    case hV0 => exact fun p q => AllI.nil
    case he =>
    clear hB g v r x
    rintro p wrr ⟨hsz, hB, g, v, r, x⟩
    replace x : blk wrr x_b (qfn (preH (cmdF h f t) (fun _ => 0) (k + 1))) 28 := x
    clear lt_g lt_v lt_r lt_x hsz hW0
    go_wp2_with (fail)
    go_roundg (4 - (k + 1))
    case rel =>
     exact ⟨k + 1, by omega, rfl, g, v, r, x, hB⟩
    case measure => omega
  ·obtain rfl : k = 4 := by omega
   rw [q_pre4] at x
   go_upto_region 7 with (fail)
   have lt_g := g.lt
   have lt_v := v.lt
   have lt_r := r.lt
   have lt_x := x.lt
   have hW0 : w.heap.size ≤ wr.heap.size := by simpa using hB.size
   apply wp_region_Q 2 [0, 1] [] [_, (fun _ => undef)] (fun p L w' => wr.heap.size ≤ w'.heap.size ∧ Below w.heap.size w w' ∧ blk w' w.heap.size (rsc (h, f)) 111 ∧ blk w' (w.heap.size + 1) (qfn t) 28 ∧ blk w' (w.heap.size + 2) (bif L 1 then (qfn (cmdF h f t)) else (qfn fun _ => 0)) 28 ∧ blk w' x_b (qfn (cmdF h f t)) 28) _ [(0, 32)] [0, 1]
   case hn => rfl
   case hB => kernel_rfl
   case hds => kernel_rfl
   case hA => (intro p; simp only [putsD, Act.put, sIT, sCZ, sCS, gCZ, gCS]; exact rfl)
   case h0 => exact fun p => ⟨Nat.le_refl _, hB, g, v, r, x⟩
   case hmore => exact fun p L w1 w2 ⟨hsz, hB, g, v, r, x⟩ hm => ⟨Nat.le_trans hsz hm.size, hB.trans (hm.mono (Nat.le_trans hW0 hsz)), g.below hm g.lt, v.below hm v.lt, r.below hm r.lt, x.below hm x.lt⟩
   case hs =>
    intro more
    refine sWW ?_ ?_
    ·rintro p L w1 ⟨hsz, hB, g, v, r, x⟩ hk
     have L1 : L 1 = false := hk.2.2 1 rfl
     first | exact valR_row _ _ rfl _ rfl _ _ x _ Tryz.underlying28 rfl (by first | kernel_rfl | (rw [qfn_size]; kernel_rfl)) rfl | (have hc := x.cellIs (qfn_get _ (show 0 < 4 by omega)); go_simp; exact ⟨rfl, rfl⟩)
    refine AllI.cons ?_ ?_
    ·refine stepI_store 1 rfl (fun p => rfl) (fun p => rfl) _ _ _ rfl (fun _ => (w.heap.size + 2)) 0 (fun p => rfl) (fun p => (qfn (cmdF h f t))) (fun p => rfl) (fun p => (qfn fun _ => 0)) (fun p => (qfn (cmdF h f t))) 28 (fun p => over_qq _ _) (fun p => by first | (rw [qfn_size, qfn_size]; decide) | simp [qfn_size, qfn_size]) (fun p => by rw [qfn_size]; kernel_rfl) (fun p => qfn_one _) ?_ ?_
     ·rintro p L w1 ⟨hsz, hB, g, v, r, x⟩ hk
      have L1 : L 1 = false := hk.1
      rw [L1] at r
      try simp only [cond_true, cond_false] at r
      exact r
     ·rintro p L w1 ⟨hsz, hB, g, v, r, x⟩ hk
      have L1 : L 1 = false := hk.1
      skip
      refine ⟨(by simpa using hsz), Below.setRow hB (by first | exact Nat.le_trans hW0 hp.1 | exact ge_r | omega | (have := hB.size; simp at this ⊢; omega)) _, g.rowOther (by first | exact ne_g_r | exact Ne.symm ne_r_g | omega) _, v.rowOther (by first | exact ne_v_r | exact Ne.symm ne_r_v | omega) _, ?_, x.rowOther (Ne.symm ne_r_x) _⟩
      rw [show upL L 1 1 = true from rfl]
      exact r.row _
    exact AllI.nil
   case hV0 => exact fun p q => AllI.nil
   case he =>
   clear hB g v r x
   rintro p wrr ⟨hsz, hB, g, v, r, x⟩
   replace r : blk wrr (w.heap.size + 2) (qfn (cmdF h f t)) 28 := r
   clear lt_g lt_v lt_r lt_x hsz hW0
   go_wp2_with (fail)
   refine bodyPost_ret (results_cell_row rfl _ _ _ _ _ _ _ rfl r Tryz.underlying28 rfl (by first | kernel_rfl | (rw [qfn_size]; kernel_rfl))) rfl ?_
   refine ⟨?_, hB⟩
   rfl
set_option maxHeartbeats 2000000 in
theorem ral_no1 (d : Nat → Int) (f : Int) (w : World) (hv : okV d = false) : Calls Tryz.prog 69 #[.agg (vfn d), .int .i64 f] w fun e w' => e = .returned (.tuple #[.agg (qfn fun _ => 0), .int .i64 2]) ∧ Below w.heap.size w w' := by
 have VA := Lib.hid (fun w => rvalid_any d w)
 rw [hv] at VA
 go_enter Tryz.func69, Tryz.ntmps69
 go_upto_region 1 with (fail)
 simp only [zero_spd]
 have v : blk ((w.alloc (.cells (vfn d) 27)).alloc (.cells (qfn fun _ => 0) 28)) w.heap.size (vfn d) 27 := (blk.new _ _ _).alloc _
 have r : blk ((w.alloc (.cells (vfn d) 27)).alloc (.cells (qfn fun _ => 0) 28)) (w.heap.size + 1) (qfn fun _ => 0) 28 := blk.new' (by simp)
 have hB : Below w.heap.size w ((w.alloc (.cells (vfn d) 27)).alloc (.cells (qfn fun _ => 0) 28)) := by go_grown
 generalize ((w.alloc (.cells (vfn d) 27)).alloc (.cells (qfn fun _ => 0) 28)) = w0 at *
 go_upto_region 2 with (first
  | (refine wpList_load_rowG ?hw _ _ rfl _ rfl _ _ _ _ v Tryz.underlying27 rfl ?hi ?_; (case hw => (first | rfl | (simp [Region.wanted, yielded]; done))); (case hi => (first | kernel_rfl | (rw [vfn_size]; kernel_rfl))))
  | (go_at_call 78; with_reducible refine (VA.out _).mono ?_; rintro e w1 ⟨rfl, hb⟩; replace hB := hB.trans (hb.mono hB.size); replace v := v.below hb v.lt; replace r := r.below hb r.lt; clear hb))
 have lt_v := v.lt
 have lt_r := r.lt
 have hW0 : w.heap.size ≤ w1.heap.size := by simpa using hB.size
 apply wp_region_Q 3 [0, 1, 3] [] [_, (fun _ => undef), _] (fun p L w' => w1.heap.size ≤ w'.heap.size ∧ Below w.heap.size w w' ∧ blk w' w.heap.size (vfn d) 27 ∧ blk w' (w.heap.size + 1) (bif L 1 then (qfn (fun _ => 0)) else (qfn fun _ => 0)) 28) _ [(0, 21), (2, 5)] [0, 1, 2]
 case hn => rfl
 case hB => kernel_rfl
 case hds => kernel_rfl
 case hA => (intro p; simp only [putsD, Act.put, sIT, sCZ, sCS, gCZ, gCS]; exact rfl)
 case h0 => exact fun p => ⟨Nat.le_refl _, hB, v, r⟩
 case hmore => exact fun p L w1 w2 ⟨hsz, hB, v, r⟩ hm => ⟨Nat.le_trans hsz hm.size, hB.trans (hm.mono (Nat.le_trans hW0 hsz)), v.below hm v.lt, r.below hm r.lt⟩
 case hs =>
  intro more
  refine sWW ?_ ?_
  ·intros; (try simp only [vfn, qfn]); go_simp; exact ⟨rfl, rfl⟩
  refine AllI.cons ?_ ?_
  ·refine stepI_store 1 rfl (fun p => rfl) (fun p => rfl) _ _ _ rfl (fun _ => (w.heap.size + 1)) 0 (fun p => rfl) (fun p => (qfn (fun _ => 0))) (fun p => (congrArg Value.agg zero_spd)) (fun p => (qfn fun _ => 0)) (fun p => (qfn (fun _ => 0))) 28 (fun p => over_qq _ _) (fun p => by first | (rw [qfn_size, qfn_size]; decide) | simp [qfn_size, qfn_size]) (fun p => by rw [qfn_size]; kernel_rfl) (fun p => qfn_one _) ?_ ?_
   ·rintro p L w1 ⟨hsz, hB, v, r⟩ hk
    have L1 : L 1 = false := hk.1
    rw [L1] at r
    try simp only [cond_true, cond_false] at r
    exact r
   ·rintro p L w1 ⟨hsz, hB, v, r⟩ hk
    have L1 : L 1 = false := hk.1
    skip
    refine ⟨(by simpa using hsz), Below.setRow hB (by first | exact Nat.le_trans hW0 hp.1 | exact ge_r | omega | (have := hB.size; simp at this ⊢; omega)) _, v.rowOther (by first | exact ne_v_r | exact Ne.symm ne_r_v | omega) _, ?_⟩
    rw [show upL L 1 1 = true from rfl]
    exact r.row _
  refine sVV ?_
  exact AllI.nil
 case hV0 => exact fun p q => AllI.nil
 case he =>
 clear hB v r
 rintro p w1r ⟨hsz, hB, v, r⟩
 replace r : blk w1r (w.heap.size + 1) (qfn (fun _ => 0)) 28 := r
 clear lt_v lt_r hsz hW0
 go_wp2_with (fail)
 refine bodyPost_ret (results_vec rfl _ _ _ _ _ _ _ rfl r Tryz.underlying28 rfl (by first | kernel_rfl | (rw [qfn_size]; kernel_rfl))) rfl ?_
 refine ⟨?_, hB⟩
 rfl
set_option maxHeartbeats 2000000 in
theorem ral_no2 (d : Nat → Int) (f : Int) (w : World) (hv : okV d = true) (hf : f < -1) : Calls Tryz.prog 69 #[.agg (vfn d), .int .i64 f] w fun e w' => e = .returned (.tuple #[.agg (qfn fun _ => 0), .int .i64 2]) ∧ Below w.heap.size w w' := by
 have VA := Lib.hid (fun w => rvalid_any d w)
 rw [hv] at VA
 have d1 : decide (f < -1) = true := decide_eq_true hf
 go_enter Tryz.func69, Tryz.ntmps69
 go_upto_region 1 with (fail)
 simp only [zero_spd]
 have v : blk ((w.alloc (.cells (vfn d) 27)).alloc (.cells (qfn fun _ => 0) 28)) w.heap.size (vfn d) 27 := (blk.new _ _ _).alloc _
 have r : blk ((w.alloc (.cells (vfn d) 27)).alloc (.cells (qfn fun _ => 0) 28)) (w.heap.size + 1) (qfn fun _ => 0) 28 := blk.new' (by simp)
 have hB : Below w.heap.size w ((w.alloc (.cells (vfn d) 27)).alloc (.cells (qfn fun _ => 0) 28)) := by go_grown
 generalize ((w.alloc (.cells (vfn d) 27)).alloc (.cells (qfn fun _ => 0) 28)) = w0 at *
 go_upto_region 2 with (first
  | (refine wpList_load_rowG ?hw _ _ rfl _ rfl _ _ _ _ v Tryz.underlying27 rfl ?hi ?_; (case hw => (first | rfl | (simp [Region.wanted, yielded]; done))); (case hi => (first | kernel_rfl | (rw [vfn_size]; kernel_rfl))))
  | (go_at_call 78; with_reducible refine (VA.out _).mono ?_; rintro e w1 ⟨rfl, hb⟩; replace hB := hB.trans (hb.mono hB.size); replace v := v.below hb v.lt; replace r := r.below hb r.lt; clear hb))
 have lt_v := v.lt
 have lt_r := r.lt
 have hW0 : w.heap.size ≤ w1.heap.size := by simpa using hB.size
 apply wp_region_Q 3 [0, 1, 3] [] [_, (fun _ => undef), _] (fun p L w' => w1.heap.size ≤ w'.heap.size ∧ Below w.heap.size w w' ∧ blk w' w.heap.size (vfn d) 27 ∧ blk w' (w.heap.size + 1) (bif L 1 then (qfn (fun _ => 0)) else (qfn fun _ => 0)) 28) _ [(0, 21), (2, 5)] [0, 1, 2]
 case hn => rfl
 case hB => kernel_rfl
 case hds => kernel_rfl
 case hA => (intro p; simp only [putsD, Act.put, sIT, sCZ, sCS, gCZ, gCS]; exact rfl)
 case h0 => exact fun p => ⟨Nat.le_refl _, hB, v, r⟩
 case hmore => exact fun p L w1 w2 ⟨hsz, hB, v, r⟩ hm => ⟨Nat.le_trans hsz hm.size, hB.trans (hm.mono (Nat.le_trans hW0 hsz)), v.below hm v.lt, r.below hm r.lt⟩
 case hs =>
  intro more
  refine sWW ?_ ?_
  ·intros; (try simp only [vfn, qfn]); go_simp; exact ⟨rfl, rfl⟩
  refine AllI.cons ?_ ?_
  ·refine stepI_store 1 rfl (fun p => rfl) (fun p => rfl) _ _ _ rfl (fun _ => (w.heap.size + 1)) 0 (fun p => rfl) (fun p => (qfn (fun _ => 0))) (fun p => (congrArg Value.agg zero_spd)) (fun p => (qfn fun _ => 0)) (fun p => (qfn (fun _ => 0))) 28 (fun p => over_qq _ _) (fun p => by first | (rw [qfn_size, qfn_size]; decide) | simp [qfn_size, qfn_size]) (fun p => by rw [qfn_size]; kernel_rfl) (fun p => qfn_one _) ?_ ?_
   ·rintro p L w1 ⟨hsz, hB, v, r⟩ hk
    have L1 : L 1 = false := hk.1
    rw [L1] at r
    try simp only [cond_true, cond_false] at r
    exact r
   ·rintro p L w1 ⟨hsz, hB, v, r⟩ hk
    have L1 : L 1 = false := hk.1
    skip
    refine ⟨(by simpa using hsz), Below.setRow hB (by first | exact Nat.le_trans hW0 hp.1 | exact ge_r | omega | (have := hB.size; simp at this ⊢; omega)) _, v.rowOther (by first | exact ne_v_r | exact Ne.symm ne_r_v | omega) _, ?_⟩
    rw [show upL L 1 1 = true from rfl]
    exact r.row _
  refine sVV ?_
  exact AllI.nil
 case hV0 => exact fun p q => AllI.nil
 case he =>
 clear hB v r
 rintro p w1r ⟨hsz, hB, v, r⟩
 replace r : blk w1r (w.heap.size + 1) (qfn (fun _ => 0)) 28 := r
 clear lt_v lt_r hsz hW0
 go_wp2_with (fail)
 refine bodyPost_ret (results_vec rfl _ _ _ _ _ _ _ rfl r Tryz.underlying28 rfl (by first | kernel_rfl | (rw [qfn_size]; kernel_rfl))) rfl ?_
 refine ⟨?_, hB⟩
 rfl
set_option maxHeartbeats 2000000 in
theorem ral_no3 (d : Nat → Int) (f : Int) (w : World) (hv : okV d = true) (hf : 3 < f) : Calls Tryz.prog 69 #[.agg (vfn d), .int .i64 f] w fun e w' => e = .returned (.tuple #[.agg (qfn fun _ => 0), .int .i64 2]) ∧ Below w.heap.size w w' := by
 have VA := Lib.hid (fun w => rvalid_any d w)
 rw [hv] at VA
 have d1 : decide (f < -1) = false := decide_eq_false (by omega)
 have d2 : decide (3 < f) = true := decide_eq_true hf
 go_enter Tryz.func69, Tryz.ntmps69
 go_upto_region 1 with (fail)
 simp only [zero_spd]
 have v : blk ((w.alloc (.cells (vfn d) 27)).alloc (.cells (qfn fun _ => 0) 28)) w.heap.size (vfn d) 27 := (blk.new _ _ _).alloc _
 have r : blk ((w.alloc (.cells (vfn d) 27)).alloc (.cells (qfn fun _ => 0) 28)) (w.heap.size + 1) (qfn fun _ => 0) 28 := blk.new' (by simp)
 have hB : Below w.heap.size w ((w.alloc (.cells (vfn d) 27)).alloc (.cells (qfn fun _ => 0) 28)) := by go_grown
 generalize ((w.alloc (.cells (vfn d) 27)).alloc (.cells (qfn fun _ => 0) 28)) = w0 at *
 go_upto_region 2 with (first
  | (refine wpList_load_rowG ?hw _ _ rfl _ rfl _ _ _ _ v Tryz.underlying27 rfl ?hi ?_; (case hw => (first | rfl | (simp [Region.wanted, yielded]; done))); (case hi => (first | kernel_rfl | (rw [vfn_size]; kernel_rfl))))
  | (go_at_call 78; with_reducible refine (VA.out _).mono ?_; rintro e w1 ⟨rfl, hb⟩; replace hB := hB.trans (hb.mono hB.size); replace v := v.below hb v.lt; replace r := r.below hb r.lt; clear hb))
 have lt_v := v.lt
 have lt_r := r.lt
 have hW0 : w.heap.size ≤ w1.heap.size := by simpa using hB.size
 apply wp_region_Q 3 [0, 1, 3] [] [_, (fun _ => undef), _] (fun p L w' => w1.heap.size ≤ w'.heap.size ∧ Below w.heap.size w w' ∧ blk w' w.heap.size (vfn d) 27 ∧ blk w' (w.heap.size + 1) (bif L 1 then (qfn (fun _ => 0)) else (qfn fun _ => 0)) 28) _ [(0, 21), (2, 5)] [0, 1, 2]
 case hn => rfl
 case hB => kernel_rfl
 case hds => kernel_rfl
 case hA => (intro p; simp only [putsD, Act.put, sIT, sCZ, sCS, gCZ, gCS]; exact rfl)
 case h0 => exact fun p => ⟨Nat.le_refl _, hB, v, r⟩
 case hmore => exact fun p L w1 w2 ⟨hsz, hB, v, r⟩ hm => ⟨Nat.le_trans hsz hm.size, hB.trans (hm.mono (Nat.le_trans hW0 hsz)), v.below hm v.lt, r.below hm r.lt⟩
 case hs =>
  intro more
  refine sWW ?_ ?_
  ·intros; (try simp only [vfn, qfn]); go_simp; exact ⟨rfl, rfl⟩
  refine AllI.cons ?_ ?_
  ·refine stepI_store 1 rfl (fun p => rfl) (fun p => rfl) _ _ _ rfl (fun _ => (w.heap.size + 1)) 0 (fun p => rfl) (fun p => (qfn (fun _ => 0))) (fun p => (congrArg Value.agg zero_spd)) (fun p => (qfn fun _ => 0)) (fun p => (qfn (fun _ => 0))) 28 (fun p => over_qq _ _) (fun p => by first | (rw [qfn_size, qfn_size]; decide) | simp [qfn_size, qfn_size]) (fun p => by rw [qfn_size]; kernel_rfl) (fun p => qfn_one _) ?_ ?_
   ·rintro p L w1 ⟨hsz, hB, v, r⟩ hk
    have L1 : L 1 = false := hk.1
    rw [L1] at r
    try simp only [cond_true, cond_false] at r
    exact r
   ·rintro p L w1 ⟨hsz, hB, v, r⟩ hk
    have L1 : L 1 = false := hk.1
    skip
    refine ⟨(by simpa using hsz), Below.setRow hB (by first | exact Nat.le_trans hW0 hp.1 | exact ge_r | omega | (have := hB.size; simp at this ⊢; omega)) _, v.rowOther (by first | exact ne_v_r | exact Ne.symm ne_r_v | omega) _, ?_⟩
    rw [show upL L 1 1 = true from rfl]
    exact r.row _
  refine sVV ?_
  exact AllI.nil
 case hV0 => exact fun p q => AllI.nil
 case he =>
 clear hB v r
 rintro p w1r ⟨hsz, hB, v, r⟩
 replace r : blk w1r (w.heap.size + 1) (qfn (fun _ => 0)) 28 := r
 clear lt_v lt_r hsz hW0
 go_wp2_with (fail)
 refine bodyPost_ret (results_vec rfl _ _ _ _ _ _ _ rfl r Tryz.underlying28 rfl (by first | kernel_rfl | (rw [qfn_size]; kernel_rfl))) rfl ?_
 refine ⟨?_, hB⟩
 rfl
set_option maxHeartbeats 4000000 in
theorem ral_m (d : Nat → Int) (w : World) (hv : okV d = true) : Calls Tryz.prog 69 #[.agg (vfn d), .int .i64 (-1)] w fun e w' => e = .returned (.tuple #[.agg (qfn (allocF d (-1))), .int .i64 0]) ∧ Below w.heap.size w w' := by
 have VA := Lib.hid (fun w => rvalid_any d w)
 rw [hv] at VA
 have bd := okV_bd hv
 have hz : allocZ d (-1) = spanZ d := rfl
 obtain ⟨x0, x1, n0, n1, _⟩ := mx3_bd (m := 1099511627776) (by decide) bd
 have zb := spanZ_bd hv
 have hs : spanZ d = (hiK d 3 + loK d 3) / 2 := by rw [hiK_eq, loK_eq]; rfl
 rw [← hiK_eq] at x0 x1
 rw [← loK_eq] at n0 n1
 generalize spanZ d = Z at *
 have ts := tdiv_sign (loK d 3 + hiK d 3) 2
 have ew : IntKind.i64.wrap (loK d 3 + hiK d 3) = loK d 3 + hiK d 3 := by rw [IntKind.wrap_i64]; omega
 have eq1 : IntKind.i64.wrap ((loK d 3 + hiK d 3).tdiv 2) = (loK d 3 + hiK d 3).tdiv 2 := by rw [IntKind.wrap_i64]; split at ts <;> omega
 have eq2 : IntKind.i64.wrap (2 * (loK d 3 + hiK d 3).tdiv 2) = 2 * (loK d 3 + hiK d 3).tdiv 2 := by rw [IntKind.wrap_i64]; split at ts <;> omega
 have eq3 : Hid ((loK d 3 + hiK d 3 < 2 * (loK d 3 + hiK d 3).tdiv 2 ∧ IntKind.i64.wrap ((loK d 3 + hiK d 3).tdiv 2 - 1) = Z) ∨ (¬ loK d 3 + hiK d 3 < 2 * (loK d 3 + hiK d 3).tdiv 2 ∧ (loK d 3 + hiK d 3).tdiv 2 = Z)) := by
  unfold Hid
  by_cases hc : loK d 3 + hiK d 3 < 2 * (loK d 3 + hiK d 3).tdiv 2
  ·exact .inl ⟨hc, by rw [IntKind.wrap_i64]; split at ts <;> omega⟩
  ·exact .inr ⟨hc, by split at ts <;> omega⟩
 have s0 : IntKind.i64.wrap (d 0 - Z) = allocF d (-1) 0 := by have := bd 0 (by omega); have := bd 0 (by omega); have := bd 1 (by omega); have := bd 2 (by omega); rw [IntKind.wrap_i64]; show _ = d 0 - allocZ d (-1); rw [hz]; omega
 have s1 : IntKind.i64.wrap (d 1 - Z) = allocF d (-1) 1 := by have := bd 1 (by omega); have := bd 0 (by omega); have := bd 1 (by omega); have := bd 2 (by omega); rw [IntKind.wrap_i64]; show _ = d 1 - allocZ d (-1); rw [hz]; omega
 have s2 : IntKind.i64.wrap (d 2 - Z) = allocF d (-1) 2 := by have := bd 2 (by omega); have := bd 0 (by omega); have := bd 1 (by omega); have := bd 2 (by omega); rw [IntKind.wrap_i64]; show _ = d 2 - allocZ d (-1); rw [hz]; omega
 have s3 := Lib.hid (show Z = allocF d (-1) 3 from hz.symm)
 clear bd hz hs x0 x1 n0 n1 zb ts
 go_enter Tryz.func69, Tryz.ntmps69
 go_upto_region 1 with (fail)
 simp only [zero_spd]
 have v : blk ((w.alloc (.cells (vfn d) 27)).alloc (.cells (qfn fun _ => 0) 28)) w.heap.size (vfn d) 27 := (blk.new _ _ _).alloc _
 have r : blk ((w.alloc (.cells (vfn d) 27)).alloc (.cells (qfn fun _ => 0) 28)) (w.heap.size + 1) (qfn fun _ => 0) 28 := blk.new' (by simp)
 have hB : Below w.heap.size w ((w.alloc (.cells (vfn d) 27)).alloc (.cells (qfn fun _ => 0) 28)) := by go_grown
 generalize ((w.alloc (.cells (vfn d) 27)).alloc (.cells (qfn fun _ => 0) 28)) = w0 at *
 go_upto_region 7 with (first
  | (refine wpList_load_rowG ?hw _ _ rfl _ rfl _ _ _ _ v Tryz.underlying27 rfl ?hi ?_; (case hw => (first | rfl | (simp [Region.wanted, yielded]; done))); (case hi => (first | kernel_rfl | (rw [vfn_size]; kernel_rfl))))
  | (go_at_call 78; with_reducible refine (VA.out _).mono ?_; rintro e w1 ⟨rfl, hb⟩; replace hB := hB.trans (hb.mono hB.size); replace v := v.below hb v.lt; replace r := r.below hb r.lt; clear hb))
 clear VA
 go_wp2_with (fail)
 go_loopg [7, 8, 9] 3 (fun g_ lv hv iv wr => ∃ k : Nat, g_ + k = 3 ∧ lv = .int .i64 (loK d k) ∧ hv = .int .i64 (hiK d k) ∧ iv = .int .i64 k ∧ blk wr w.heap.size (vfn d) 27 ∧ blk wr (w.heap.size + 1) (qfn fun _ => 0) 28 ∧ Below w.heap.size w wr)
 case atStart => exact ⟨0, rfl, rfl, rfl, rfl, v, r, hB⟩
 case round =>
  clear v r hB
  obtain ⟨k, hk, rfl, rfl, rfl, v, r, hB⟩ := hrel
  by_cases hkn : k < 3
  ·have hdk : decide ((k : Int) < 3) = true := decide_eq_true (by omega)
   have hdk' : decide (k < 3) = true := decide_eq_true hkn
   have hk3 : (k : Int) < 3 := by omega
   have hw3 : IntKind.i64.wrap ((k : Int) + 1) = ((k + 1 : Nat) : Int) := by rw [IntKind.wrap_i64]; omega
   have hck : wr.cell? ⟨w.heap.size, k, none⟩ = some (.int .i64 (d k)) := v.cellIs (vfn_get _ hkn)
   have hlo := Lib.hid (show [d k].foldl mn (loK d k) = loK d (k + 1) from rfl)
   have hhi := Lib.hid (show [d k].foldl mx (hiK d k) = hiK d (k + 1) from rfl)
   go_wp2_with (first | (refine wpList_min rfl rfl _ _ _ hlo.out rfl ?_) | (refine wpList_max rfl rfl _ _ _ hhi.out rfl ?_))
   go_roundg (3 - (k + 1))
   case rel => exact ⟨k + 1, by omega, rfl, rfl, rfl, v, r, hB⟩
   case measure => omega
  ·obtain rfl : k = 3 := by omega
   rcases eq3.out with ⟨hc, e3⟩ | ⟨hc, e3⟩
   ·have d1 : decide (loK d 3 + hiK d 3 < 2 * (loK d 3 + hiK d 3).tdiv 2) = true := decide_eq_true hc
    clear hc eq3
    go_upto_region 16 with (fail)
    have lt_v := v.lt
    have lt_r := r.lt
    have hW0 : w.heap.size ≤ wr.heap.size := by simpa using hB.size
    apply wp_region_Q 16 [0, 1, 3, 7, 15, 31, 63, 127, 255, 511, 1023, 2047, 4095, 8191, 16383, 32767] [] [_, _, _, _, _, _, _, _, _, _, _, _, _, _, (fun _ => undef), _] (fun p L w' => wr.heap.size ≤ w'.heap.size ∧ Below w.heap.size w w' ∧ blk w' w.heap.size (vfn d) 27 ∧ blk w' (w.heap.size + 1) (bif L 14 then (qfn (allocF d (-1))) else (qfn fun _ => 0)) 28) _ [(0, 59), (1, 60), (2, 61), (3, 62), (4, 63), (5, 64), (6, 65), (7, 66), (8, 67), (9, 68), (10, 69), (11, 70), (12, 71), (13, 72), (15, 5)] [0, 1, 2, 3, 4, 5, 6, 7, 8, 9, 10, 11, 12, 13, 14, 15]
    case hn => rfl
    case hB => kernel_rfl
    case hds => kernel_rfl
    case hA => (intro p; simp only [putsD, Act.put, sIT, sCZ, sCS, gCZ, gCS]; exact rfl)
    case h0 => exact fun p => ⟨Nat.le_refl _, hB, v, r⟩
    case hmore => exact fun p L w1 w2 ⟨hsz, hB, v, r⟩ hm => ⟨Nat.le_trans hsz hm.size, hB.trans (hm.mono (Nat.le_trans hW0 hsz)), v.below hm v.lt, r.below hm r.lt⟩
    case hs =>
     intro more
     refine sVV ?_
     refine sWW ?_ ?_
     ·rintro p L w1 ⟨hsz, hB, v, r⟩ hk
      have L14 : L 14 = false := hk.2.2 14 rfl
      have hc : w1.cell? ⟨w.heap.size, 0, none⟩ = some (.int .i64 (d 0)) := v.cellIs (vfn_get _ (by omega))
      go_simp
      exact ⟨rfl, rfl⟩
     iterate 3 (refine sVV ?_)
     refine sWW ?_ ?_
     ·rintro p L w1 ⟨hsz, hB, v, r⟩ hk
      have L14 : L 14 = false := hk.2.2 14 rfl
      have hc : w1.cell? ⟨w.heap.size, 1, none⟩ = some (.int .i64 (d 1)) := v.cellIs (vfn_get _ (by omega))
      go_simp
      exact ⟨rfl, rfl⟩
     iterate 3 (refine sVV ?_)
     refine sWW ?_ ?_
     ·rintro p L w1 ⟨hsz, hB, v, r⟩ hk
      have L14 : L 14 = false := hk.2.2 14 rfl
      have hc : w1.cell? ⟨w.heap.size, 2, none⟩ = some (.int .i64 (d 2)) := v.cellIs (vfn_get _ (by omega))
      go_simp
      exact ⟨rfl, rfl⟩
     iterate 3 (refine sVV ?_)
     refine AllI.cons ?_ ?_
     ·refine stepI_val 13 rfl (fun p => rfl) ?_ (fun _ _ _ h => h)
      intros; go_simp; exact ⟨congrArg Value.agg (alloc_of s3), rfl⟩
     refine AllI.cons ?_ ?_
     ·refine stepI_store 14 rfl (fun p => rfl) (fun p => rfl) _ _ _ rfl (fun _ => (w.heap.size + 1)) 0 (fun p => rfl) (fun p => (qfn (allocF d (-1)))) (fun p => rfl) (fun p => (qfn fun _ => 0)) (fun p => (qfn (allocF d (-1)))) 28 (fun p => over_qq _ _) (fun p => by first | (rw [qfn_size, qfn_size]; decide) | simp [qfn_size, qfn_size]) (fun p => by rw [qfn_size]; kernel_rfl) (fun p => qfn_one _) ?_ ?_
      ·rintro p L w1 ⟨hsz, hB, v, r⟩ hk
       have L14 : L 14 = false := hk.1
       rw [L14] at r
       try simp only [cond_true, cond_false] at r
       exact r
      ·rintro p L w1 ⟨hsz, hB, v, r⟩ hk
       have L14 : L 14 = false := hk.1
       skip
       refine ⟨(by simpa using hsz), Below.setRow hB (by first | exact Nat.le_trans hW0 hp.1 | exact ge_r | omega | (have := hB.size; simp at this ⊢; omega)) _, v.rowOther (by first | exact ne_v_r | exact Ne.symm ne_r_v | omega) _, ?_⟩
       rw [show upL L 14 14 = true from rfl]
       exact r.row _
     refine sVV ?_
     exact AllI.nil
    case hV0 => exact fun p q => AllI.nil
    case he =>
    clear hB v r
    rintro p wrr ⟨hsz, hB, v, r⟩
    replace r : blk wrr (w.heap.size + 1) (qfn (allocF d (-1))) 28 := r
    clear lt_v lt_r hsz hW0
    go_wp2_with (fail)
    refine bodyPost_ret (results_vec rfl _ _ _ _ _ _ _ rfl r Tryz.underlying28 rfl (by first | kernel_rfl | (rw [qfn_size]; kernel_rfl))) rfl ?_
    refine ⟨?_, hB⟩
    rfl
   ·have d1 : decide (loK d 3 + hiK d 3 < 2 * (loK d 3 + hiK d 3).tdiv 2) = false := decide_eq_false (by omega)
    rw [e3] at eq1 eq2 d1
    clear hc eq3
    go_upto_region 16 with (fail)
    have lt_v := v.lt
    have lt_r := r.lt
    have hW0 : w.heap.size ≤ wr.heap.size := by simpa using hB.size
    apply wp_region_Q 16 [0, 1, 3, 7, 15, 31, 63, 127, 255, 511, 1023, 2047, 4095, 8191, 16383, 32767] [] [_, _, _, _, _, _, _, _, _, _, _, _, _, _, (fun _ => undef), _] (fun p L w' => wr.heap.size ≤ w'.heap.size ∧ Below w.heap.size w w' ∧ blk w' w.heap.size (vfn d) 27 ∧ blk w' (w.heap.size + 1) (bif L 14 then (qfn (allocF d (-1))) else (qfn fun _ => 0)) 28) _ [(0, 59), (1, 60), (2, 61), (3, 62), (4, 63), (5, 64), (6, 65), (7, 66), (8, 67), (9, 68), (10, 69), (11, 70), (12, 71), (13, 72), (15, 5)] [0, 1, 2, 3, 4, 5, 6, 7, 8, 9, 10, 11, 12, 13, 14, 15]
    case hn => rfl
    case hB => kernel_rfl
    case hds => kernel_rfl
    case hA => (intro p; simp only [putsD, Act.put, sIT, sCZ, sCS, gCZ, gCS]; exact rfl)
    case h0 => exact fun p => ⟨Nat.le_refl _, hB, v, r⟩
    case hmore => exact fun p L w1 w2 ⟨hsz, hB, v, r⟩ hm => ⟨Nat.le_trans hsz hm.size, hB.trans (hm.mono (Nat.le_trans hW0 hsz)), v.below hm v.lt, r.below hm r.lt⟩
    case hs =>
     intro more
     refine sVV ?_
     refine sWW ?_ ?_
     ·rintro p L w1 ⟨hsz, hB, v, r⟩ hk
      have L14 : L 14 = false := hk.2.2 14 rfl
      have hc : w1.cell? ⟨w.heap.size, 0, none⟩ = some (.int .i64 (d 0)) := v.cellIs (vfn_get _ (by omega))
      go_simp
      exact ⟨rfl, rfl⟩
     iterate 3 (refine sVV ?_)
     refine sWW ?_ ?_
     ·rintro p L w1 ⟨hsz, hB, v, r⟩ hk
      have L14 : L 14 = false := hk.2.2 14 rfl
      have hc : w1.cell? ⟨w.heap.size, 1, none⟩ = some (.int .i64 (d 1)) := v.cellIs (vfn_get _ (by omega))
      go_simp
      exact ⟨rfl, rfl⟩
     iterate 3 (refine sVV ?_)
     refine sWW ?_ ?_
     ·rintro p L w1 ⟨hsz, hB, v, r⟩ hk
      have L14 : L 14 = false := hk.2.2 14 rfl
      have hc : w1.cell? ⟨w.heap.size, 2, none⟩ = some (.int .i64 (d 2)) := v.cellIs (vfn_get _ (by omega))
      go_simp
      exact ⟨rfl, rfl⟩
     iterate 3 (refine sVV ?_)
     refine AllI.cons ?_ ?_
     ·refine stepI_val 13 rfl (fun p => rfl) ?_ (fun _ _ _ h => h)
      intros; go_simp; exact ⟨congrArg Value.agg (alloc_of s3), rfl⟩
     refine AllI.cons ?_ ?_
     ·refine stepI_store 14 rfl (fun p => rfl) (fun p => rfl) _ _ _ rfl (fun _ => (w.heap.size + 1)) 0 (fun p => rfl) (fun p => (qfn (allocF d (-1)))) (fun p => rfl) (fun p => (qfn fun _ => 0)) (fun p => (qfn (allocF d (-1)))) 28 (fun p => over_qq _ _) (fun p => by first | (rw [qfn_size, qfn_size]; decide) | simp [qfn_size, qfn_size]) (fun p => by rw [qfn_size]; kernel_rfl) (fun p => qfn_one _) ?_ ?_
      ·rintro p L w1 ⟨hsz, hB, v, r⟩ hk
       have L14 : L 14 = false := hk.1
       rw [L14] at r
       try simp only [cond_true, cond_false] at r
       exact r
      ·rintro p L w1 ⟨hsz, hB, v, r⟩ hk
       have L14 : L 14 = false := hk.1
       skip
       refine ⟨(by simpa using hsz), Below.setRow hB (by first | exact Nat.le_trans hW0 hp.1 | exact ge_r | omega | (have := hB.size; simp at this ⊢; omega)) _, v.rowOther (by first | exact ne_v_r | exact Ne.symm ne_r_v | omega) _, ?_⟩
       rw [show upL L 14 14 = true from rfl]
       exact r.row _
     refine sVV ?_
     exact AllI.nil
    case hV0 => exact fun p q => AllI.nil
    case he =>
    clear hB v r
    rintro p wrr ⟨hsz, hB, v, r⟩
    replace r : blk wrr (w.heap.size + 1) (qfn (allocF d (-1))) 28 := r
    clear lt_v lt_r hsz hW0
    go_wp2_with (fail)
    refine bodyPost_ret (results_vec rfl _ _ _ _ _ _ _ rfl r Tryz.underlying28 rfl (by first | kernel_rfl | (rw [qfn_size]; kernel_rfl))) rfl ?_
    refine ⟨?_, hB⟩
    rfl
set_option maxHeartbeats 4000000 in
theorem ral_0 (d : Nat → Int) (w : World) (hv : okV d = true) : Calls Tryz.prog 69 #[.agg (vfn d), .int .i64 0] w fun e w' => e = .returned (.tuple #[.agg (qfn (allocF d 0)), .int .i64 0]) ∧ Below w.heap.size w w' := by
 have VA := Lib.hid (fun w => rvalid_any d w)
 rw [hv] at VA
 have bd := okV_bd hv
 have hz : allocZ d 0 = d 0 := rfl
 have s0 : IntKind.i64.wrap (d 0 - d 0) = allocF d 0 0 := by have := bd 0 (by omega); have := bd 0 (by omega); have := bd 1 (by omega); have := bd 2 (by omega); rw [IntKind.wrap_i64]; show _ = d 0 - allocZ d 0; rw [hz]; omega
 have s1 : IntKind.i64.wrap (d 1 - d 0) = allocF d 0 1 := by have := bd 1 (by omega); have := bd 0 (by omega); have := bd 1 (by omega); have := bd 2 (by omega); rw [IntKind.wrap_i64]; show _ = d 1 - allocZ d 0; rw [hz]; omega
 have s2 : IntKind.i64.wrap (d 2 - d 0) = allocF d 0 2 := by have := bd 2 (by omega); have := bd 0 (by omega); have := bd 1 (by omega); have := bd 2 (by omega); rw [IntKind.wrap_i64]; show _ = d 2 - allocZ d 0; rw [hz]; omega
 have s3 := Lib.hid (show d 0 = allocF d 0 3 from hz.symm)
 have t0 : IntKind.i64.wrap 0 = allocF d 0 0 := by rw [← s0]; congr 1; omega
 clear s0 bd hz
 go_enter Tryz.func69, Tryz.ntmps69
 go_upto_region 1 with (fail)
 simp only [zero_spd]
 have v : blk ((w.alloc (.cells (vfn d) 27)).alloc (.cells (qfn fun _ => 0) 28)) w.heap.size (vfn d) 27 := (blk.new _ _ _).alloc _
 have r : blk ((w.alloc (.cells (vfn d) 27)).alloc (.cells (qfn fun _ => 0) 28)) (w.heap.size + 1) (qfn fun _ => 0) 28 := blk.new' (by simp)
 have hB : Below w.heap.size w ((w.alloc (.cells (vfn d) 27)).alloc (.cells (qfn fun _ => 0) 28)) := by go_grown
 generalize ((w.alloc (.cells (vfn d) 27)).alloc (.cells (qfn fun _ => 0) 28)) = w0 at *
 have hcz : ∀ w1, blk w1 w.heap.size (vfn d) 27 → w1.cell? ⟨w.heap.size, 0, none⟩ = some (.int .i64 (d 0)) := fun w1 hv => hv.cellIs (vfn_get d (by omega))
 replace hcz := Lib.hid hcz
 go_upto_region 3 with (first
  | (refine wpList_load_rowG ?hw _ _ rfl _ rfl _ _ _ _ v Tryz.underlying27 rfl ?hi ?_; (case hw => (first | rfl | (simp [Region.wanted, yielded]; done))); (case hi => (first | kernel_rfl | (rw [vfn_size]; kernel_rfl))))
  | (go_at_call 78; with_reducible refine (VA.out _).mono ?_; rintro e w1 ⟨rfl, hb⟩; replace hB := hB.trans (hb.mono hB.size); replace v := v.below hb v.lt; replace r := r.below hb r.lt; clear hb))
 have q0 := hcz.out _ v
 go_upto_region 16 with (fail)
 clear VA q0 hcz
 have lt_v := v.lt
 have lt_r := r.lt
 have hW0 : w.heap.size ≤ w1.heap.size := by simpa using hB.size
 apply wp_region_Q 16 [0, 1, 3, 7, 15, 31, 63, 127, 255, 511, 1023, 2047, 4095, 8191, 16383, 32767] [] [_, _, _, _, _, _, _, _, _, _, _, _, _, _, (fun _ => undef), _] (fun p L w' => w1.heap.size ≤ w'.heap.size ∧ Below w.heap.size w w' ∧ blk w' w.heap.size (vfn d) 27 ∧ blk w' (w.heap.size + 1) (bif L 14 then (qfn (allocF d 0)) else (qfn fun _ => 0)) 28) _ [(0, 59), (1, 60), (2, 61), (3, 62), (4, 63), (5, 64), (6, 65), (7, 66), (8, 67), (9, 68), (10, 69), (11, 70), (12, 71), (13, 72), (15, 5)] [0, 1, 2, 3, 4, 5, 6, 7, 8, 9, 10, 11, 12, 13, 14, 15]
 case hn => rfl
 case hB => kernel_rfl
 case hds => kernel_rfl
 case hA => (intro p; simp only [putsD, Act.put, sIT, sCZ, sCS, gCZ, gCS]; exact rfl)
 case h0 => exact fun p => ⟨Nat.le_refl _, hB, v, r⟩
 case hmore => exact fun p L w1 w2 ⟨hsz, hB, v, r⟩ hm => ⟨Nat.le_trans hsz hm.size, hB.trans (hm.mono (Nat.le_trans hW0 hsz)), v.below hm v.lt, r.below hm r.lt⟩
 case hs =>
  intro more
  refine sVV ?_
  refine sWW ?_ ?_
  ·rintro p L w1 ⟨hsz, hB, v, r⟩ hk
   have L14 : L 14 = false := hk.2.2 14 rfl
   have hc : w1.cell? ⟨w.heap.size, 0, none⟩ = some (.int .i64 (d 0)) := v.cellIs (vfn_get _ (by omega))
   go_simp
   exact ⟨rfl, rfl⟩
  iterate 3 (refine sVV ?_)
  refine sWW ?_ ?_
  ·rintro p L w1 ⟨hsz, hB, v, r⟩ hk
   have L14 : L 14 = false := hk.2.2 14 rfl
   have hc : w1.cell? ⟨w.heap.size, 1, none⟩ = some (.int .i64 (d 1)) := v.cellIs (vfn_get _ (by omega))
   go_simp
   exact ⟨rfl, rfl⟩
  iterate 3 (refine sVV ?_)
  refine sWW ?_ ?_
  ·rintro p L w1 ⟨hsz, hB, v, r⟩ hk
   have L14 : L 14 = false := hk.2.2 14 rfl
   have hc : w1.cell? ⟨w.heap.size, 2, none⟩ = some (.int .i64 (d 2)) := v.cellIs (vfn_get _ (by omega))
   go_simp
   exact ⟨rfl, rfl⟩
  iterate 3 (refine sVV ?_)
  refine AllI.cons ?_ ?_
  ·refine stepI_val 13 rfl (fun p => rfl) ?_ (fun _ _ _ h => h)
   intros; go_simp; exact ⟨congrArg Value.agg (alloc_of s3), rfl⟩
  refine AllI.cons ?_ ?_
  ·refine stepI_store 14 rfl (fun p => rfl) (fun p => rfl) _ _ _ rfl (fun _ => (w.heap.size + 1)) 0 (fun p => rfl) (fun p => (qfn (allocF d 0))) (fun p => rfl) (fun p => (qfn fun _ => 0)) (fun p => (qfn (allocF d 0))) 28 (fun p => over_qq _ _) (fun p => by first | (rw [qfn_size, qfn_size]; decide) | simp [qfn_size, qfn_size]) (fun p => by rw [qfn_size]; kernel_rfl) (fun p => qfn_one _) ?_ ?_
   ·rintro p L w1 ⟨hsz, hB, v, r⟩ hk
    have L14 : L 14 = false := hk.1
    rw [L14] at r
    try simp only [cond_true, cond_false] at r
    exact r
   ·rintro p L w1 ⟨hsz, hB, v, r⟩ hk
    have L14 : L 14 = false := hk.1
    skip
    refine ⟨(by simpa using hsz), Below.setRow hB (by first | exact Nat.le_trans hW0 hp.1 | exact ge_r | omega | (have := hB.size; simp at this ⊢; omega)) _, v.rowOther (by first | exact ne_v_r | exact Ne.symm ne_r_v | omega) _, ?_⟩
    rw [show upL L 14 14 = true from rfl]
    exact r.row _
  refine sVV ?_
  exact AllI.nil
 case hV0 => exact fun p q => AllI.nil
 case he =>
 clear hB v r
 rintro p w1r ⟨hsz, hB, v, r⟩
 replace r : blk w1r (w.heap.size + 1) (qfn (allocF d 0)) 28 := r
 clear lt_v lt_r hsz hW0
 go_wp2_with (fail)
 refine bodyPost_ret (results_vec rfl _ _ _ _ _ _ _ rfl r Tryz.underlying28 rfl (by first | kernel_rfl | (rw [qfn_size]; kernel_rfl))) rfl ?_
 refine ⟨?_, hB⟩
 rfl
set_option maxHeartbeats 4000000 in
theorem ral_1 (d : Nat → Int) (w : World) (hv : okV d = true) : Calls Tryz.prog 69 #[.agg (vfn d), .int .i64 1] w fun e w' => e = .returned (.tuple #[.agg (qfn (allocF d 1)), .int .i64 0]) ∧ Below w.heap.size w w' := by
 have VA := Lib.hid (fun w => rvalid_any d w)
 rw [hv] at VA
 have bd := okV_bd hv
 have hz : allocZ d 1 = d 1 := rfl
 have s0 : IntKind.i64.wrap (d 0 - d 1) = allocF d 1 0 := by have := bd 0 (by omega); have := bd 0 (by omega); have := bd 1 (by omega); have := bd 2 (by omega); rw [IntKind.wrap_i64]; show _ = d 0 - allocZ d 1; rw [hz]; omega
 have s1 : IntKind.i64.wrap (d 1 - d 1) = allocF d 1 1 := by have := bd 1 (by omega); have := bd 0 (by omega); have := bd 1 (by omega); have := bd 2 (by omega); rw [IntKind.wrap_i64]; show _ = d 1 - allocZ d 1; rw [hz]; omega
 have s2 : IntKind.i64.wrap (d 2 - d 1) = allocF d 1 2 := by have := bd 2 (by omega); have := bd 0 (by omega); have := bd 1 (by omega); have := bd 2 (by omega); rw [IntKind.wrap_i64]; show _ = d 2 - allocZ d 1; rw [hz]; omega
 have s3 := Lib.hid (show d 1 = allocF d 1 3 from hz.symm)
 have t1 : IntKind.i64.wrap 0 = allocF d 1 1 := by rw [← s1]; congr 1; omega
 clear s1 bd hz
 go_enter Tryz.func69, Tryz.ntmps69
 go_upto_region 1 with (fail)
 simp only [zero_spd]
 have v : blk ((w.alloc (.cells (vfn d) 27)).alloc (.cells (qfn fun _ => 0) 28)) w.heap.size (vfn d) 27 := (blk.new _ _ _).alloc _
 have r : blk ((w.alloc (.cells (vfn d) 27)).alloc (.cells (qfn fun _ => 0) 28)) (w.heap.size + 1) (qfn fun _ => 0) 28 := blk.new' (by simp)
 have hB : Below w.heap.size w ((w.alloc (.cells (vfn d) 27)).alloc (.cells (qfn fun _ => 0) 28)) := by go_grown
 generalize ((w.alloc (.cells (vfn d) 27)).alloc (.cells (qfn fun _ => 0) 28)) = w0 at *
 have hcz : ∀ w1, blk w1 w.heap.size (vfn d) 27 → w1.cell? ⟨w.heap.size, 1, none⟩ = some (.int .i64 (d 1)) := fun w1 hv => hv.cellIs (vfn_get d (by omega))
 replace hcz := Lib.hid hcz
 go_upto_region 3 with (first
  | (refine wpList_load_rowG ?hw _ _ rfl _ rfl _ _ _ _ v Tryz.underlying27 rfl ?hi ?_; (case hw => (first | rfl | (simp [Region.wanted, yielded]; done))); (case hi => (first | kernel_rfl | (rw [vfn_size]; kernel_rfl))))
  | (go_at_call 78; with_reducible refine (VA.out _).mono ?_; rintro e w1 ⟨rfl, hb⟩; replace hB := hB.trans (hb.mono hB.size); replace v := v.below hb v.lt; replace r := r.below hb r.lt; clear hb))
 have q0 := hcz.out _ v
 go_upto_region 16 with (fail)
 clear VA q0 hcz
 have lt_v := v.lt
 have lt_r := r.lt
 have hW0 : w.heap.size ≤ w1.heap.size := by simpa using hB.size
 apply wp_region_Q 16 [0, 1, 3, 7, 15, 31, 63, 127, 255, 511, 1023, 2047, 4095, 8191, 16383, 32767] [] [_, _, _, _, _, _, _, _, _, _, _, _, _, _, (fun _ => undef), _] (fun p L w' => w1.heap.size ≤ w'.heap.size ∧ Below w.heap.size w w' ∧ blk w' w.heap.size (vfn d) 27 ∧ blk w' (w.heap.size + 1) (bif L 14 then (qfn (allocF d 1)) else (qfn fun _ => 0)) 28) _ [(0, 59), (1, 60), (2, 61), (3, 62), (4, 63), (5, 64), (6, 65), (7, 66), (8, 67), (9, 68), (10, 69), (11, 70), (12, 71), (13, 72), (15, 5)] [0, 1, 2, 3, 4, 5, 6, 7, 8, 9, 10, 11, 12, 13, 14, 15]
 case hn => rfl
 case hB => kernel_rfl
 case hds => kernel_rfl
 case hA => (intro p; simp only [putsD, Act.put, sIT, sCZ, sCS, gCZ, gCS]; exact rfl)
 case h0 => exact fun p => ⟨Nat.le_refl _, hB, v, r⟩
 case hmore => exact fun p L w1 w2 ⟨hsz, hB, v, r⟩ hm => ⟨Nat.le_trans hsz hm.size, hB.trans (hm.mono (Nat.le_trans hW0 hsz)), v.below hm v.lt, r.below hm r.lt⟩
 case hs =>
  intro more
  refine sVV ?_
  refine sWW ?_ ?_
  ·rintro p L w1 ⟨hsz, hB, v, r⟩ hk
   have L14 : L 14 = false := hk.2.2 14 rfl
   have hc : w1.cell? ⟨w.heap.size, 0, none⟩ = some (.int .i64 (d 0)) := v.cellIs (vfn_get _ (by omega))
   go_simp
   exact ⟨rfl, rfl⟩
  iterate 3 (refine sVV ?_)
  refine sWW ?_ ?_
  ·rintro p L w1 ⟨hsz, hB, v, r⟩ hk
   have L14 : L 14 = false := hk.2.2 14 rfl
   have hc : w1.cell? ⟨w.heap.size, 1, none⟩ = some (.int .i64 (d 1)) := v.cellIs (vfn_get _ (by omega))
   go_simp
   exact ⟨rfl, rfl⟩
  iterate 3 (refine sVV ?_)
  refine sWW ?_ ?_
  ·rintro p L w1 ⟨hsz, hB, v, r⟩ hk
   have L14 : L 14 = false := hk.2.2 14 rfl
   have hc : w1.cell? ⟨w.heap.size, 2, none⟩ = some (.int .i64 (d 2)) := v.cellIs (vfn_get _ (by omega))
   go_simp
   exact ⟨rfl, rfl⟩
  iterate 3 (refine sVV ?_)
  refine AllI.cons ?_ ?_
  ·refine stepI_val 13 rfl (fun p => rfl) ?_ (fun _ _ _ h => h)
   intros; go_simp; exact ⟨congrArg Value.agg (alloc_of s3), rfl⟩
  refine AllI.cons ?_ ?_
  ·refine stepI_store 14 rfl (fun p => rfl) (fun p => rfl) _ _ _ rfl (fun _ => (w.heap.size + 1)) 0 (fun p => rfl) (fun p => (qfn (allocF d 1))) (fun p => rfl) (fun p => (qfn fun _ => 0)) (fun p => (qfn (allocF d 1))) 28 (fun p => over_qq _ _) (fun p => by first | (rw [qfn_size, qfn_size]; decide) | simp [qfn_size, qfn_size]) (fun p => by rw [qfn_size]; kernel_rfl) (fun p => qfn_one _) ?_ ?_
   ·rintro p L w1 ⟨hsz, hB, v, r⟩ hk
    have L14 : L 14 = false := hk.1
    rw [L14] at r
    try simp only [cond_true, cond_false] at r
    exact r
   ·rintro p L w1 ⟨hsz, hB, v, r⟩ hk
    have L14 : L 14 = false := hk.1
    skip
    refine ⟨(by simpa using hsz), Below.setRow hB (by first | exact Nat.le_trans hW0 hp.1 | exact ge_r | omega | (have := hB.size; simp at this ⊢; omega)) _, v.rowOther (by first | exact ne_v_r | exact Ne.symm ne_r_v | omega) _, ?_⟩
    rw [show upL L 14 14 = true from rfl]
    exact r.row _
  refine sVV ?_
  exact AllI.nil
 case hV0 => exact fun p q => AllI.nil
 case he =>
 clear hB v r
 rintro p w1r ⟨hsz, hB, v, r⟩
 replace r : blk w1r (w.heap.size + 1) (qfn (allocF d 1)) 28 := r
 clear lt_v lt_r hsz hW0
 go_wp2_with (fail)
 refine bodyPost_ret (results_vec rfl _ _ _ _ _ _ _ rfl r Tryz.underlying28 rfl (by first | kernel_rfl | (rw [qfn_size]; kernel_rfl))) rfl ?_
 refine ⟨?_, hB⟩
 rfl
set_option maxHeartbeats 4000000 in
theorem ral_2 (d : Nat → Int) (w : World) (hv : okV d = true) : Calls Tryz.prog 69 #[.agg (vfn d), .int .i64 2] w fun e w' => e = .returned (.tuple #[.agg (qfn (allocF d 2)), .int .i64 0]) ∧ Below w.heap.size w w' := by
 have VA := Lib.hid (fun w => rvalid_any d w)
 rw [hv] at VA
 have bd := okV_bd hv
 have hz : allocZ d 2 = d 2 := rfl
 have s0 : IntKind.i64.wrap (d 0 - d 2) = allocF d 2 0 := by have := bd 0 (by omega); have := bd 0 (by omega); have := bd 1 (by omega); have := bd 2 (by omega); rw [IntKind.wrap_i64]; show _ = d 0 - allocZ d 2; rw [hz]; omega
 have s1 : IntKind.i64.wrap (d 1 - d 2) = allocF d 2 1 := by have := bd 1 (by omega); have := bd 0 (by omega); have := bd 1 (by omega); have := bd 2 (by omega); rw [IntKind.wrap_i64]; show _ = d 1 - allocZ d 2; rw [hz]; omega
 have s2 : IntKind.i64.wrap (d 2 - d 2) = allocF d 2 2 := by have := bd 2 (by omega); have := bd 0 (by omega); have := bd 1 (by omega); have := bd 2 (by omega); rw [IntKind.wrap_i64]; show _ = d 2 - allocZ d 2; rw [hz]; omega
 have s3 := Lib.hid (show d 2 = allocF d 2 3 from hz.symm)
 have t2 : IntKind.i64.wrap 0 = allocF d 2 2 := by rw [← s2]; congr 1; omega
 clear s2 bd hz
 go_enter Tryz.func69, Tryz.ntmps69
 go_upto_region 1 with (fail)
 simp only [zero_spd]
 have v : blk ((w.alloc (.cells (vfn d) 27)).alloc (.cells (qfn fun _ => 0) 28)) w.heap.size (vfn d) 27 := (blk.new _ _ _).alloc _
 have r : blk ((w.alloc (.cells (vfn d) 27)).alloc (.cells (qfn fun _ => 0) 28)) (w.heap.size + 1) (qfn fun _ => 0) 28 := blk.new' (by simp)
 have hB : Below w.heap.size w ((w.alloc (.cells (vfn d) 27)).alloc (.cells (qfn fun _ => 0) 28)) := by go_grown
 generalize ((w.alloc (.cells (vfn d) 27)).alloc (.cells (qfn fun _ => 0) 28)) = w0 at *
 have hcz : ∀ w1, blk w1 w.heap.size (vfn d) 27 → w1.cell? ⟨w.heap.size, 2, none⟩ = some (.int .i64 (d 2)) := fun w1 hv => hv.cellIs (vfn_get d (by omega))
 replace hcz := Lib.hid hcz
 go_upto_region 3 with (first
  | (refine wpList_load_rowG ?hw _ _ rfl _ rfl _ _ _ _ v Tryz.underlying27 rfl ?hi ?_; (case hw => (first | rfl | (simp [Region.wanted, yielded]; done))); (case hi => (first | kernel_rfl | (rw [vfn_size]; kernel_rfl))))
  | (go_at_call 78; with_reducible refine (VA.out _).mono ?_; rintro e w1 ⟨rfl, hb⟩; replace hB := hB.trans (hb.mono hB.size); replace v := v.below hb v.lt; replace r := r.below hb r.lt; clear hb))
 have q0 := hcz.out _ v
 go_upto_region 16 with (fail)
 clear VA q0 hcz
 have lt_v := v.lt
 have lt_r := r.lt
 have hW0 : w.heap.size ≤ w1.heap.size := by simpa using hB.size
 apply wp_region_Q 16 [0, 1, 3, 7, 15, 31, 63, 127, 255, 511, 1023, 2047, 4095, 8191, 16383, 32767] [] [_, _, _, _, _, _, _, _, _, _, _, _, _, _, (fun _ => undef), _] (fun p L w' => w1.heap.size ≤ w'.heap.size ∧ Below w.heap.size w w' ∧ blk w' w.heap.size (vfn d) 27 ∧ blk w' (w.heap.size + 1) (bif L 14 then (qfn (allocF d 2)) else (qfn fun _ => 0)) 28) _ [(0, 59), (1, 60), (2, 61), (3, 62), (4, 63), (5, 64), (6, 65), (7, 66), (8, 67), (9, 68), (10, 69), (11, 70), (12, 71), (13, 72), (15, 5)] [0, 1, 2, 3, 4, 5, 6, 7, 8, 9, 10, 11, 12, 13, 14, 15]
 case hn => rfl
 case hB => kernel_rfl
 case hds => kernel_rfl
 case hA => (intro p; simp only [putsD, Act.put, sIT, sCZ, sCS, gCZ, gCS]; exact rfl)
 case h0 => exact fun p => ⟨Nat.le_refl _, hB, v, r⟩
 case hmore => exact fun p L w1 w2 ⟨hsz, hB, v, r⟩ hm => ⟨Nat.le_trans hsz hm.size, hB.trans (hm.mono (Nat.le_trans hW0 hsz)), v.below hm v.lt, r.below hm r.lt⟩
 case hs =>
  intro more
  refine sVV ?_
  refine sWW ?_ ?_
  ·rintro p L w1 ⟨hsz, hB, v, r⟩ hk
   have L14 : L 14 = false := hk.2.2 14 rfl
   have hc : w1.cell? ⟨w.heap.size, 0, none⟩ = some (.int .i64 (d 0)) := v.cellIs (vfn_get _ (by omega))
   go_simp
   exact ⟨rfl, rfl⟩
  iterate 3 (refine sVV ?_)
  refine sWW ?_ ?_
  ·rintro p L w1 ⟨hsz, hB, v, r⟩ hk
   have L14 : L 14 = false := hk.2.2 14 rfl
   have hc : w1.cell? ⟨w.heap.size, 1, none⟩ = some (.int .i64 (d 1)) := v.cellIs (vfn_get _ (by omega))
   go_simp
   exact ⟨rfl, rfl⟩
  iterate 3 (refine sVV ?_)
  refine sWW ?_ ?_
  ·rintro p L w1 ⟨hsz, hB, v, r⟩ hk
   have L14 : L 14 = false := hk.2.2 14 rfl
   have hc : w1.cell? ⟨w.heap.size, 2, none⟩ = some (.int .i64 (d 2)) := v.cellIs (vfn_get _ (by omega))
   go_simp
   exact ⟨rfl, rfl⟩
  iterate 3 (refine sVV ?_)
  refine AllI.cons ?_ ?_
  ·refine stepI_val 13 rfl (fun p => rfl) ?_ (fun _ _ _ h => h)
   intros; go_simp; exact ⟨congrArg Value.agg (alloc_of s3), rfl⟩
  refine AllI.cons ?_ ?_
  ·refine stepI_store 14 rfl (fun p => rfl) (fun p => rfl) _ _ _ rfl (fun _ => (w.heap.size + 1)) 0 (fun p => rfl) (fun p => (qfn (allocF d 2))) (fun p => rfl) (fun p => (qfn fun _ => 0)) (fun p => (qfn (allocF d 2))) 28 (fun p => over_qq _ _) (fun p => by first | (rw [qfn_size, qfn_size]; decide) | simp [qfn_size, qfn_size]) (fun p => by rw [qfn_size]; kernel_rfl) (fun p => qfn_one _) ?_ ?_
   ·rintro p L w1 ⟨hsz, hB, v, r⟩ hk
    have L14 : L 14 = false := hk.1
    rw [L14] at r
    try simp only [cond_true, cond_false] at r
    exact r
   ·rintro p L w1 ⟨hsz, hB, v, r⟩ hk
    have L14 : L 14 = false := hk.1
    skip
    refine ⟨(by simpa using hsz), Below.setRow hB (by first | exact Nat.le_trans hW0 hp.1 | exact ge_r | omega | (have := hB.size; simp at this ⊢; omega)) _, v.rowOther (by first | exact ne_v_r | exact Ne.symm ne_r_v | omega) _, ?_⟩
    rw [show upL L 14 14 = true from rfl]
    exact r.row _
  refine sVV ?_
  exact AllI.nil
 case hV0 => exact fun p q => AllI.nil
 case he =>
 clear hB v r
 rintro p w1r ⟨hsz, hB, v, r⟩
 replace r : blk w1r (w.heap.size + 1) (qfn (allocF d 2)) 28 := r
 clear lt_v lt_r hsz hW0
 go_wp2_with (fail)
 refine bodyPost_ret (results_vec rfl _ _ _ _ _ _ _ rfl r Tryz.underlying28 rfl (by first | kernel_rfl | (rw [qfn_size]; kernel_rfl))) rfl ?_
 refine ⟨?_, hB⟩
 rfl
set_option maxHeartbeats 4000000 in
theorem ral_3 (d : Nat → Int) (w : World) (hv : okV d = true) : Calls Tryz.prog 69 #[.agg (vfn d), .int .i64 3] w fun e w' => e = .returned (.tuple #[.agg (qfn (allocF d 3)), .int .i64 0]) ∧ Below w.heap.size w w' := by
 have VA := Lib.hid (fun w => rvalid_any d w)
 rw [hv] at VA
 have bd := okV_bd hv
 have hz : allocZ d 3 = 0 := rfl
 have s0 : IntKind.i64.wrap (d 0 - 0) = allocF d 3 0 := by have := bd 0 (by omega); have := bd 0 (by omega); have := bd 1 (by omega); have := bd 2 (by omega); rw [IntKind.wrap_i64]; show _ = d 0 - allocZ d 3; rw [hz]; omega
 have s1 : IntKind.i64.wrap (d 1 - 0) = allocF d 3 1 := by have := bd 1 (by omega); have := bd 0 (by omega); have := bd 1 (by omega); have := bd 2 (by omega); rw [IntKind.wrap_i64]; show _ = d 1 - allocZ d 3; rw [hz]; omega
 have s2 : IntKind.i64.wrap (d 2 - 0) = allocF d 3 2 := by have := bd 2 (by omega); have := bd 0 (by omega); have := bd 1 (by omega); have := bd 2 (by omega); rw [IntKind.wrap_i64]; show _ = d 2 - allocZ d 3; rw [hz]; omega
 have s3 := Lib.hid (show 0 = allocF d 3 3 from hz.symm)
 rw [Int.sub_zero] at s0
 rw [Int.sub_zero] at s1
 rw [Int.sub_zero] at s2
 clear bd hz
 go_enter Tryz.func69, Tryz.ntmps69
 go_upto_region 1 with (fail)
 simp only [zero_spd]
 have v : blk ((w.alloc (.cells (vfn d) 27)).alloc (.cells (qfn fun _ => 0) 28)) w.heap.size (vfn d) 27 := (blk.new _ _ _).alloc _
 have r : blk ((w.alloc (.cells (vfn d) 27)).alloc (.cells (qfn fun _ => 0) 28)) (w.heap.size + 1) (qfn fun _ => 0) 28 := blk.new' (by simp)
 have hB : Below w.heap.size w ((w.alloc (.cells (vfn d) 27)).alloc (.cells (qfn fun _ => 0) 28)) := by go_grown
 generalize ((w.alloc (.cells (vfn d) 27)).alloc (.cells (qfn fun _ => 0) 28)) = w0 at *
 go_upto_region 3 with (first
  | (refine wpList_load_rowG ?hw _ _ rfl _ rfl _ _ _ _ v Tryz.underlying27 rfl ?hi ?_; (case hw => (first | rfl | (simp [Region.wanted, yielded]; done))); (case hi => (first | kernel_rfl | (rw [vfn_size]; kernel_rfl))))
  | (go_at_call 78; with_reducible refine (VA.out _).mono ?_; rintro e w1 ⟨rfl, hb⟩; replace hB := hB.trans (hb.mono hB.size); replace v := v.below hb v.lt; replace r := r.below hb r.lt; clear hb))
 go_upto_region 16 with (fail)
 clear VA
 have lt_v := v.lt
 have lt_r := r.lt
 have hW0 : w.heap.size ≤ w1.heap.size := by simpa using hB.size
 apply wp_region_Q 16 [0, 1, 3, 7, 15, 31, 63, 127, 255, 511, 1023, 2047, 4095, 8191, 16383, 32767] [] [_, _, _, _, _, _, _, _, _, _, _, _, _, _, (fun _ => undef), _] (fun p L w' => w1.heap.size ≤ w'.heap.size ∧ Below w.heap.size w w' ∧ blk w' w.heap.size (vfn d) 27 ∧ blk w' (w.heap.size + 1) (bif L 14 then (qfn (allocF d 3)) else (qfn fun _ => 0)) 28) _ [(0, 59), (1, 60), (2, 61), (3, 62), (4, 63), (5, 64), (6, 65), (7, 66), (8, 67), (9, 68), (10, 69), (11, 70), (12, 71), (13, 72), (15, 5)] [0, 1, 2, 3, 4, 5, 6, 7, 8, 9, 10, 11, 12, 13, 14, 15]
 case hn => rfl
 case hB => kernel_rfl
 case hds => kernel_rfl
 case hA => (intro p; simp only [putsD, Act.put, sIT, sCZ, sCS, gCZ, gCS]; exact rfl)
 case h0 => exact fun p => ⟨Nat.le_refl _, hB, v, r⟩
 case hmore => exact fun p L w1 w2 ⟨hsz, hB, v, r⟩ hm => ⟨Nat.le_trans hsz hm.size, hB.trans (hm.mono (Nat.le_trans hW0 hsz)), v.below hm v.lt, r.below hm r.lt⟩
 case hs =>
  intro more
  refine sVV ?_
  refine sWW ?_ ?_
  ·rintro p L w1 ⟨hsz, hB, v, r⟩ hk
   have L14 : L 14 = false := hk.2.2 14 rfl
   have hc : w1.cell? ⟨w.heap.size, 0, none⟩ = some (.int .i64 (d 0)) := v.cellIs (vfn_get _ (by omega))
   go_simp
   exact ⟨rfl, rfl⟩
  iterate 3 (refine sVV ?_)
  refine sWW ?_ ?_
  ·rintro p L w1 ⟨hsz, hB, v, r⟩ hk
   have L14 : L 14 = false := hk.2.2 14 rfl
   have hc : w1.cell? ⟨w.heap.size, 1, none⟩ = some (.int .i64 (d 1)) := v.cellIs (vfn_get _ (by omega))
   go_simp
   exact ⟨rfl, rfl⟩
  iterate 3 (refine sVV ?_)
  refine sWW ?_ ?_
  ·rintro p L w1 ⟨hsz, hB, v, r⟩ hk
   have L14 : L 14 = false := hk.2.2 14 rfl
   have hc : w1.cell? ⟨w.heap.size, 2, none⟩ = some (.int .i64 (d 2)) := v.cellIs (vfn_get _ (by omega))
   go_simp
   exact ⟨rfl, rfl⟩
  iterate 3 (refine sVV ?_)
  refine AllI.cons ?_ ?_
  ·refine stepI_val 13 rfl (fun p => rfl) ?_ (fun _ _ _ h => h)
   intros; go_simp; exact ⟨congrArg Value.agg (alloc_of s3), rfl⟩
  refine AllI.cons ?_ ?_
  ·refine stepI_store 14 rfl (fun p => rfl) (fun p => rfl) _ _ _ rfl (fun _ => (w.heap.size + 1)) 0 (fun p => rfl) (fun p => (qfn (allocF d 3))) (fun p => rfl) (fun p => (qfn fun _ => 0)) (fun p => (qfn (allocF d 3))) 28 (fun p => over_qq _ _) (fun p => by first | (rw [qfn_size, qfn_size]; decide) | simp [qfn_size, qfn_size]) (fun p => by rw [qfn_size]; kernel_rfl) (fun p => qfn_one _) ?_ ?_
   ·rintro p L w1 ⟨hsz, hB, v, r⟩ hk
    have L14 : L 14 = false := hk.1
    rw [L14] at r
    try simp only [cond_true, cond_false] at r
    exact r
   ·rintro p L w1 ⟨hsz, hB, v, r⟩ hk
    have L14 : L 14 = false := hk.1
    skip
    refine ⟨(by simpa using hsz), Below.setRow hB (by first | exact Nat.le_trans hW0 hp.1 | exact ge_r | omega | (have := hB.size; simp at this ⊢; omega)) _, v.rowOther (by first | exact ne_v_r | exact Ne.symm ne_r_v | omega) _, ?_⟩
    rw [show upL L 14 14 = true from rfl]
    exact r.row _
  refine sVV ?_
  exact AllI.nil
 case hV0 => exact fun p q => AllI.nil
 case he =>
 clear hB v r
 rintro p w1r ⟨hsz, hB, v, r⟩
 replace r : blk w1r (w.heap.size + 1) (qfn (allocF d 3)) 28 := r
 clear lt_v lt_r hsz hW0
 go_wp2_with (fail)
 refine bodyPost_ret (results_vec rfl _ _ _ _ _ _ _ rfl r Tryz.underlying28 rfl (by first | kernel_rfl | (rw [qfn_size]; kernel_rfl))) rfl ?_
 refine ⟨?_, hB⟩
 rfl
theorem rall_any (d : Nat → Int) (f : Int) (w : World) : Calls Tryz.prog 69 #[.agg (vfn d), .int .i64 f] w fun e w' => e = .returned (.tuple #[.agg (qfn (allF d f)), .int .i64 (allE d f)]) ∧ Below w.heap.size w w' := by
 unfold allF allE
 cases hv : okV d with
 | false => exact ral_no1 d f w hv
 | true =>
   cases hf : isW f with
   | false =>
     by_cases h1 : f < -1
     ·exact ral_no2 d f w hv h1
     ·by_cases h2 : 3 < f
      ·exact ral_no3 d f w hv h2
      ·unfold isW at hf
       rw [decide_eq_true (show -1 ≤ f by omega), decide_eq_true (show f ≤ 3 by omega)] at hf
       cases hf
   | true =>
     have h1 := hf
     simp only [isW, Bool.and_eq_true, decide_eq_true_eq] at h1
     rcases (show f = -1 ∨ f = 0 ∨ f = 1 ∨ f = 2 ∨ f = 3 by omega) with rfl | rfl | rfl | rfl | rfl
     ·exact ral_m d w hv
     ·exact ral_0 d w hv
     ·exact ral_1 d w hv
     ·exact ral_2 d w hv
     ·exact ral_3 d w hv
theorem results_cc {P : Program} {fn : Func} {p q : Tmp} {ty ty2 : TypeId} (h : fn.results = #[.cell p ty, .cell q ty2]) (tmps : Array Value) (w : World) (g g2 : Nat) (t t2 : TypeId) (cs cs2 : Array Value) (fr fr2 : Nat × Nat) (d d2 : TypeDesc)
 (hp : tmps.getD p undef = .pointer (some ⟨g, 0, none⟩)) (hg : w.heap[g]? = some (.cells cs t fr)) (hq : tmps.getD q undef = .pointer (some ⟨g2, 0, none⟩)) (hg2 : w.heap[g2]? = some (.cells cs2 t2 fr2))
 (hu : P.underlying ty = some d) (hd : (match d with | .struct _ | .array _ _ => true | _ => false) = true) (hi : (P.info? ty).map (·.size) = some cs.size)
 (hu2 : P.underlying ty2 = some d2) (hd2 : (match d2 with | .struct _ | .array _ _ => true | _ => false) = true) (hi2 : (P.info? ty2).map (·.size) = some cs2.size) :
 (results fn tmps).run P w = .ok (.tuple #[.agg cs, .agg cs2]) w := by
 have hp' : tmps[p]?.getD undef = .pointer (some ⟨g, 0, none⟩) := by simpa using hp
 have hq' : tmps[q]?.getD undef = .pointer (some ⟨g2, 0, none⟩) := by simpa using hq
 simp only [results, h]
 simp [Sem.run_bind, hp', hq', asAddr, run_loadVar_row w g t ty cs fr d hg hu hd hi, run_loadVar_row w g2 t2 ty2 cs2 fr2 d2 hg2 hu2 hd2 hi2, Result.andThen]
set_option maxHeartbeats 16000000 in
theorem rstep_t (X : SSt) (V : SeT) (To : Nat → Int) (w : World) (hk : senseOk V = true) (hD : ∀ i, i < 3 → -4194304 ≤ X.D i ∧ X.D i ≤ 4194304) (hTo : ∀ i, i < 3 → -1099511627776 ≤ To i ∧ To i ≤ 1099511627776) (ha : arrB X V = true) : Calls Tryz.prog 25 #[.agg (rssc X), .agg (sec V), .agg (vfn To)] w fun e w' => e = .returned (.tuple #[.agg (rssc ⟨(stD true X To), X.A, stP V (stD true X To), true⟩), .agg (qfn (cmdF V.sp V.f (stP V (stD true X To))))]) ∧ Below w.heap.size w w' := by
 simp only [senseOk, Bool.and_eq_true] at hk
 obtain ⟨hn, h1, h2⟩ := hk
 have hS := (newB_SI hn).1
 have RA := Lib.hid (fun w => rarr_any X V w)
 rw [ha] at RA
 have HR := Lib.hid (fun i hi => (sb_iff _ _).1 ((smallB_iff V.rate _).1 h1 i hi))
 have SU := Lib.hid (fun w => rsum_any V.sp w hS.b)
 have HS := Lib.hid (fun i hi => sumW_bd hS (i := i) hi)
 have HD := Lib.hid hD
 have HT := Lib.hid hTo
 have AL := Lib.hid (fun w => rall_any (rstF V (stD true X To)) V.f w)
 rw [show allF (rstF V (stD true X To)) V.f = stP V (stD true X To) from rfl] at AL
 have CM := Lib.hid (fun w => rcmd_any V.sp V.f (stP V (stD true X To)) w hS.b)
 rw [← rsc_of] at CM
 clear hn h1 h2 hS hD hTo ha
 go_enter Tryz.func25, Tryz.ntmps25
 go_upto_region 1 with (fail)
 simp only [rssc_zero, zero_spd]
 have y : blk (((((w.alloc (.cells (rssc X) 30)).alloc (.cells (sec V) 33)).alloc (.cells (vfn To) 27)).alloc (.cells (rssc SSt.zero) 30)).alloc (.cells (qfn fun _ => 0) 28)) w.heap.size (rssc X) 30 := ((((blk.new _ _ _).alloc _).alloc _).alloc _).alloc _
 have v : blk (((((w.alloc (.cells (rssc X) 30)).alloc (.cells (sec V) 33)).alloc (.cells (vfn To) 27)).alloc (.cells (rssc SSt.zero) 30)).alloc (.cells (qfn fun _ => 0) 28)) (w.heap.size + 1) (sec V) 33 := (((blk.new' (by simp)).alloc _).alloc _).alloc _
 have tw : blk (((((w.alloc (.cells (rssc X) 30)).alloc (.cells (sec V) 33)).alloc (.cells (vfn To) 27)).alloc (.cells (rssc SSt.zero) 30)).alloc (.cells (qfn fun _ => 0) 28)) (w.heap.size + 2) (vfn To) 27 := ((blk.new' (by simp)).alloc _).alloc _
 have r1 : blk (((((w.alloc (.cells (rssc X) 30)).alloc (.cells (sec V) 33)).alloc (.cells (vfn To) 27)).alloc (.cells (rssc SSt.zero) 30)).alloc (.cells (qfn fun _ => 0) 28)) (w.heap.size + 3) (rssc SSt.zero) 30 := (blk.new' (by simp)).alloc _
 have r2 : blk (((((w.alloc (.cells (rssc X) 30)).alloc (.cells (sec V) 33)).alloc (.cells (vfn To) 27)).alloc (.cells (rssc SSt.zero) 30)).alloc (.cells (qfn fun _ => 0) 28)) (w.heap.size + 4) (qfn fun _ => 0) 28 := blk.new' (by simp)
 have hB : Below w.heap.size w (((((w.alloc (.cells (rssc X) 30)).alloc (.cells (sec V) 33)).alloc (.cells (vfn To) 27)).alloc (.cells (rssc SSt.zero) 30)).alloc (.cells (qfn fun _ => 0) 28)) := by go_grown
 generalize (((((w.alloc (.cells (rssc X) 30)).alloc (.cells (sec V) 33)).alloc (.cells (vfn To) 27)).alloc (.cells (rssc SSt.zero) 30)).alloc (.cells (qfn fun _ => 0) 28)) = w0 at *
 go_wp2_with (first | (refine wpList_load_rowG ?hw _ _ rfl _ rfl _ _ _ _ y Tryz.underlying30 rfl ?hi ?_; (case hw => (first | rfl | (simp [Region.wanted, yielded]; done))); (case hi => (first | kernel_rfl | (rw [rssc_size]; kernel_rfl)))) | (refine wpList_load_rowG ?hw _ _ rfl _ rfl _ _ _ _ v Tryz.underlying33 rfl ?hi ?_; (case hw => (first | rfl | (simp [Region.wanted, yielded]; done))); (case hi => (first | kernel_rfl | (rw [sec_size]; kernel_rfl)))) | (go_at_call 35; with_reducible refine (RA.out _).mono ?_; rintro e wa ⟨rfl, hb⟩; replace hB := hB.trans (hb.mono hB.size); replace y := y.below hb y.lt; replace v := v.below hb v.lt; replace tw := tw.below hb tw.lt; replace r1 := r1.below hb r1.lt; replace r2 := r2.below hb r2.lt; clear hb))
 rw [show rssc X = rssc ⟨preH (stD true X To) X.D 0, X.A, X.P, X.g⟩ from by rw [preH_zero]] at y
 go_wp2_with (fail)
 go_loopg [8] 3 (fun g_ iv wr => ∃ k : Nat, g_ + k = 3 ∧ iv = .int .i64 k ∧ blk wr w.heap.size (rssc ⟨preH (stD true X To) X.D k, X.A, X.P, X.g⟩) 30 ∧ blk wr (w.heap.size + 1) (sec V) 33 ∧ blk wr (w.heap.size + 2) (vfn To) 27 ∧ blk wr (w.heap.size + 3) (rssc SSt.zero) 30 ∧ blk wr (w.heap.size + 4) (qfn fun _ => 0) 28 ∧ Below w.heap.size w wr)
 case atStart => exact ⟨0, rfl, rfl, y, v, tw, r1, r2, hB⟩
 case round =>
  clear y v tw r1 r2 hB
  obtain ⟨k, hk, rfl, y, v, tw, r1, r2, hB⟩ := hrel
  by_cases hkn : k < 3
  ·have hdk : decide ((k : Int) < 3) = true := decide_eq_true (by omega)
   have hdk' : decide (k < 3) = true := decide_eq_true (by omega)
   have hk3 : (k : Int) < 3 := by omega
   have hw3 : IntKind.i64.wrap ((k : Int) + 1) = ((k + 1 : Nat) : Int) := by rw [IntKind.wrap_i64]; omega
   have B1 := HD.out k hkn
   have B2 := HT.out k hkn
   have B5 := clampR_bd (To k - X.D k)
   have CL := Lib.hid (fun w => rclamp_any (To k - X.D k) (-262144) 262144 w)
   have a1 : IntKind.i64.wrap (To k - X.D k) = To k - X.D k := by rw [IntKind.wrap_i64]; omega
   have a2 : IntKind.i64.wrap (X.D k + clampV (To k - X.D k) (-262144) 262144) = X.D k + clampV (To k - X.D k) (-262144) 262144 := by rw [IntKind.wrap_i64]; omega
   have ed : X.D k + clampV (To k - X.D k) (-262144) 262144 = stD true X To k := rfl
   clear B1 B2 B5
   replace ed := Lib.hid ed
   go_upto_region 5 with (fail)
   have lt_y := y.lt
   have lt_v := v.lt
   have lt_tw := tw.lt
   have lt_r1 := r1.lt
   have lt_r2 := r2.lt
   have hW0 : w.heap.size ≤ wr.heap.size := by simpa using hB.size
   apply wp_region_I 18 [0, 0, 0, 6, 14, 0, 32, 96, 0, 0, 768, 1792, 4064, 8160, 16382, 0, 65535, 131071] [] [_, _, _, _, _, _, _, _, _, _, _, _, _, _, _, _, _, (fun _ => undef)] (fun p L w' => wr.heap.size ≤ w'.heap.size ∧ Below w.heap.size w w' ∧ blk w' w.heap.size (bif L 17 then (rssc ⟨preH (stD true X To) X.D (k + 1), X.A, X.P, X.g⟩) else (rssc ⟨preH (stD true X To) X.D k, X.A, X.P, X.g⟩)) 30 ∧ blk w' (w.heap.size + 1) (sec V) 33 ∧ blk w' (w.heap.size + 2) (vfn To) 27 ∧ blk w' (w.heap.size + 3) (rssc SSt.zero) 30 ∧ blk w' (w.heap.size + 4) (qfn fun _ => 0) 28) _ [(0, 18), (1, 19), (2, 20), (3, 21), (4, 22), (5, 23), (6, 24), (7, 25), (8, 26), (9, 27), (10, 28), (11, 29), (12, 30), (13, 31), (14, 32), (15, 33), (16, 34)] [0, 1, 2, 3, 4, 5, 6, 7, 8, 9, 10, 11, 12, 13, 14, 15, 16, 17]
   case hn => rfl
   case hm => kernel_rfl
   case hB => kernel_rfl
   case hds => kernel_rfl
   case hA => (intro p; simp only [putsD, Act.put, sIT, sCZ, sCS, gCZ, gCS]; exact rfl)
   case h0 => exact fun p => ⟨Nat.le_refl _, hB.drew, y.drew, v.drew, tw.drew, r1.drew, r2.drew⟩
   case hmore => exact fun p L w1 w2 ⟨hsz, hB, y, v, tw, r1, r2⟩ hm => ⟨Nat.le_trans hsz hm.size, hB.trans (hm.mono (Nat.le_trans hW0 hsz)), y.below hm y.lt, v.below hm v.lt, tw.below hm tw.lt, r1.below hm r1.lt, r2.below hm r2.lt⟩
   case hs =>
    intro more
    iterate 4 (refine sVV ?_)
    refine sWW ?_ ?_
    ·rintro p L w1 ⟨hsz, hB, y, v, tw, r1, r2⟩ hk
     have L17 : L 17 = false := hk.2.2 17 rfl
     rw [L17] at y
     try simp only [cond_true, cond_false] at y
     have hc : w1.cell? ⟨w.heap.size, k, none⟩ = some (.int .i64 (X.D k)) := (by have := y.cellIs (rs_Di _ hkn); simp only [] at this; rw [preH_ge (Nat.le_refl k)] at this; exact this)
     go_simp
     exact ⟨rfl, rfl⟩
    iterate 2 (refine sVV ?_)
    refine sWW ?_ ?_
    ·rintro p L w1 ⟨hsz, hB, y, v, tw, r1, r2⟩ hk
     have L17 : L 17 = false := hk.2.2 17 rfl
     have hc : w1.cell? ⟨(w.heap.size + 2), k, none⟩ = some (.int .i64 (To k)) := tw.cellIs (vfn_get _ hkn)
     go_simp
     exact ⟨rfl, rfl⟩
    iterate 3 (refine sVV ?_)
    refine sWW ?_ ?_
    ·rintro p L w1 ⟨hsz, hB, y, v, tw, r1, r2⟩ hk
     have L17 : L 17 = false := hk.2.2 17 rfl
     rw [L17] at y
     try simp only [cond_true, cond_false] at y
     have hc : w1.cell? ⟨w.heap.size, k, none⟩ = some (.int .i64 (X.D k)) := (by have := y.cellIs (rs_Di _ hkn); simp only [] at this; rw [preH_ge (Nat.le_refl k)] at this; exact this)
     go_simp
     exact ⟨rfl, rfl⟩
    refine sVV ?_
    refine stepD 13 rfl (fun p => rfl) (fun _ _ _ h => h) more ?_ ?_
    ·rintro p L w1 ⟨hsz, hB, y, v, tw, r1, r2⟩ hk
     go_simp
     refine (CL.out _).mono ?_
     rintro e w2 ⟨rfl, h2⟩
     first | exact ⟨rfl, h2⟩ | (subst h2; exact ⟨rfl, Below.refl _ _⟩)
    iterate 3 (refine sVV ?_)
    refine AllI.cons ?_ ?_
    ·refine stepI_cell 17 rfl (fun p => rfl) (fun p => rfl) (fun _ => w.heap.size) (k) (fun p => .int .i64 (X.D k + clampV (To k - X.D k) (-262144) 262144)) (fun p => (rssc ⟨preH (stD true X To) X.D k, X.A, X.P, X.g⟩)) (fun p => (rssc ⟨preH (stD true X To) X.D (k + 1), X.A, X.P, X.g⟩)) 30 (fun p => rs_preD _ _ _ hkn _ ed.out) ?_ ?_ ?_
     ·rintro p L w1 ⟨hsz, hB, y, v, tw, r1, r2⟩ hk
      have L17 : L 17 = false := hk.1
      rw [L17] at y
      try simp only [cond_true, cond_false] at y
      exact y
     ·intro p w1 hb
      have fz : w1.frozen? ⟨w.heap.size, k, none⟩ = false := hb.free _
      have cz : ∃ u, w1.cell? ⟨w.heap.size, k, none⟩ = some u := ⟨_, hb.cellIs (rs_Di _ hkn)⟩
      obtain ⟨u, cz⟩ := cz
      go_simp
      try exact ⟨_, rfl, by first | exact .inl rfl | exact .inr rfl⟩
     ·rintro p L w1 ⟨hsz, hB, y, v, tw, r1, r2⟩ hk
      have L17 : L 17 = false := hk.1
      refine ⟨(by simpa using hsz), Below.setRow hB (by first | exact Nat.le_trans hW0 hp.1 | exact ge_y | omega | (have := hB.size; simp at this ⊢; omega)) _, ?_, v.rowOther (by first | exact ne_v_y | exact Ne.symm ne_y_v | omega) _, tw.rowOther (by first | exact ne_tw_y | exact Ne.symm ne_y_tw | omega) _, r1.rowOther (by first | exact ne_r1_y | exact Ne.symm ne_y_r1 | omega) _, r2.rowOther (by first | exact ne_r2_y | exact Ne.symm ne_y_r2 | omega) _⟩
      rw [show upL L 17 17 = true from rfl]
      exact y.row _
    exact AllI.nil
   case hV0 => exact fun p q => AllI.nil
   case he =>
   clear hB y v tw r1 r2
   rintro p wrr ⟨hsz, hB, y, v, tw, r1, r2⟩
   replace y : blk wrr w.heap.size (rssc ⟨preH (stD true X To) X.D (k + 1), X.A, X.P, X.g⟩) 30 := y
   clear lt_y lt_v lt_tw lt_r1 lt_r2 hsz hW0
   go_wp2_with (fail)
   go_roundg (3 - (k + 1))
   case rel =>
    exact ⟨k + 1, by omega, rfl, y, v, tw, r1, r2, hB⟩
   case measure => omega
  ·obtain rfl : k = 3 := by omega
   rw [rs_preD3] at y
   go_upto_region 6 with (fail)
   clear RA
   have lt_y := y.lt
   have lt_v := v.lt
   have lt_tw := tw.lt
   have lt_r1 := r1.lt
   have lt_r2 := r2.lt
   have hW0 : w.heap.size ≤ wr.heap.size := by simpa using hB.size
   apply wp_region_Q 5 [0, 1, 3, 7, 15] [3] [_, _, _, (fun p => .pointer (some ⟨p 3, 0, none⟩)), (fun _ => undef)] (fun p L w' => wr.heap.size ≤ w'.heap.size ∧ Below w.heap.size w w' ∧ blk w' w.heap.size (rssc ⟨(stD true X To), X.A, X.P, X.g⟩) 30 ∧ blk w' (w.heap.size + 1) (sec V) 33 ∧ blk w' (w.heap.size + 2) (vfn To) 27 ∧ blk w' (w.heap.size + 3) (rssc SSt.zero) 30 ∧ blk w' (w.heap.size + 4) (qfn fun _ => 0) 28 ∧ (L 3 = true → wr.heap.size ≤ p 3 ∧ blk w' (p 3) (bif L 4 then (vfn (sumW V.sp)) else (vfn fun _ => 0)) 27)) _ [(0, 35), (1, 36), (2, 37), (3, 9)] [0, 1, 2, 3, 4]
   case hn => rfl
   case hB => kernel_rfl
   case hds => kernel_rfl
   case hA => (intro p; simp only [putsD, Act.put, sIT, sCZ, sCS, gCZ, gCS]; exact rfl)
   case h0 => exact fun p => ⟨Nat.le_refl _, hB, y, v, tw, r1, r2, fun h => absurd h (by decide)⟩
   case hmore => exact fun p L w1 w2 ⟨hsz, hB, y, v, tw, r1, r2, h_x⟩ hm => ⟨Nat.le_trans hsz hm.size, hB.trans (hm.mono (Nat.le_trans hW0 hsz)), y.below hm y.lt, v.below hm v.lt, tw.below hm tw.lt, r1.below hm r1.lt, r2.below hm r2.lt, fun hl => ⟨(h_x hl).1, (h_x hl).2.below hm (h_x hl).2.lt⟩⟩
   case hs =>
    intro more
    refine sVV ?_
    refine sWW ?_ ?_
    ·rintro p L w1 ⟨hsz, hB, y, v, tw, r1, r2, h_x⟩ hk
     have L4 : L 4 = false := hk.2.2 4 rfl
     exact valR_part _ _ rfl _ 3 rfl _ _ v (qfn V.sp) (se_p V) _ Tryz.underlying28 rfl (by rw [qfn_size]; kernel_rfl) rfl
    refine stepD 2 rfl (fun p => rfl) (fun _ _ _ h => h) more ?_ ?_
    ·rintro p L w1 ⟨hsz, hB, y, v, tw, r1, r2, h_x⟩ hk
     go_simp
     refine (SU.out _).mono ?_
     rintro e w2 ⟨rfl, h2⟩
     first | exact ⟨rfl, h2⟩ | (subst h2; exact ⟨rfl, Below.refl _ _⟩)
    refine AllI.cons ?_ ?_
    ·refine stepI_alloc 3 rfl (fun p => rfl) rfl (vfn fun _ => 0) 27 (fun p => rfl) ?_ ?_
     ·intro p w1
      go_simp
      first | rfl | rw [zero_vec]
     rintro p L w1 ⟨hsz, hB, y, v, tw, r1, r2, h_x⟩ hk
     have L4 : L 4 = false := hk.2.2 4 rfl
     refine ⟨Nat.le_trans hsz (by simp), hB.alloc (Nat.le_trans (by first | exact hW0 | (have := hB.size; simp at this ⊢; omega)) hsz) _, y.alloc _, v.alloc _, tw.alloc _, r1.alloc _, r2.alloc _, fun _ => ⟨hsz, ?_⟩⟩
     rw [show upL L 3 4 = false from L4]
     exact blk.new _ _ _
    refine AllI.cons ?_ ?_
    ·refine stepI_store 4 rfl (fun p => rfl) (fun p => rfl) _ _ _ rfl (fun p => p 3) 0 (fun p => rfl) (fun p => (vfn (sumW V.sp))) (fun p => rfl) (fun p => (vfn fun _ => 0)) (fun p => (vfn (sumW V.sp))) 27 (fun p => over_v _ _) (fun p => by first | (rw [vfn_size, vfn_size]; decide) | simp [vfn_size, vfn_size]) (fun p => by rw [vfn_size]; kernel_rfl) (fun p => vfn_one _) ?_ ?_
     ·rintro p L w1 ⟨hsz, hB, y, v, tw, r1, r2, h_x⟩ hk
      have L4 : L 4 = false := hk.1
      have hh := (h_x (hk.2.1 3 rfl)).2
      rw [L4] at hh
      try simp only [cond_true, cond_false] at hh
      exact hh
     ·rintro p L w1 ⟨hsz, hB, y, v, tw, r1, r2, h_x⟩ hk
      have L4 : L 4 = false := hk.1
      skip
      have hp := h_x (hk.2.1 3 rfl)
      refine ⟨(by simpa using hsz), Below.setRow hB (by first | exact Nat.le_trans hW0 hp.1 | exact ge_x | omega | (have := hB.size; simp at this ⊢; omega)) _, y.rowOther (by first | exact Nat.ne_of_lt (Nat.lt_of_lt_of_le lt_y hp.1) | omega) _, v.rowOther (by first | exact Nat.ne_of_lt (Nat.lt_of_lt_of_le lt_v hp.1) | omega) _, tw.rowOther (by first | exact Nat.ne_of_lt (Nat.lt_of_lt_of_le lt_tw hp.1) | omega) _, r1.rowOther (by first | exact Nat.ne_of_lt (Nat.lt_of_lt_of_le lt_r1 hp.1) | omega) _, r2.rowOther (by first | exact Nat.ne_of_lt (Nat.lt_of_lt_of_le lt_r2 hp.1) | omega) _, fun _ => ⟨hp.1, ?_⟩⟩
      rw [show upL L 4 4 = true from rfl]
      exact hp.2.row _
    exact AllI.nil
   case hV0 =>
    intro p q
    refine AllI.cons ?_ ?_
    ·skip
     iterate 5 (refine AllI.cons (by first | exact .inl rfl | (refine .inr ?_; simp only [gCZ, gCS]; done) | exact .inr rfl) ?_)
     exact AllI.nil
    exact AllI.nil
   case he =>
   clear hB y v tw r1 r2
   rintro p wrr ⟨hsz, hB, y, v, tw, r1, r2, h_x⟩
   obtain ⟨le_x, x⟩ := h_x rfl
   clear h_x
   replace x : blk wrr (p 3) (vfn (sumW V.sp)) 27 := x
   have ne_y_x : w.heap.size ≠ p 3 := Nat.ne_of_lt (Nat.lt_of_lt_of_le lt_y le_x)
   have ne_v_x : (w.heap.size + 1) ≠ p 3 := Nat.ne_of_lt (Nat.lt_of_lt_of_le lt_v le_x)
   have ne_tw_x : (w.heap.size + 2) ≠ p 3 := Nat.ne_of_lt (Nat.lt_of_lt_of_le lt_tw le_x)
   have ne_r1_x : (w.heap.size + 3) ≠ p 3 := Nat.ne_of_lt (Nat.lt_of_lt_of_le lt_r1 le_x)
   have ne_r2_x : (w.heap.size + 4) ≠ p 3 := Nat.ne_of_lt (Nat.lt_of_lt_of_le lt_r2 le_x)
   have ge_x : w.heap.size ≤ p 3 := Nat.le_trans hW0 le_x
   generalize p 3 = x_b at *
   clear lt_y lt_v lt_tw lt_r1 lt_r2 hsz hW0 SU
   rw [show vfn (sumW V.sp) = vfn (preH (rstF V (stD true X To)) (sumW V.sp) 0) from by rw [preH_zero]] at x
   go_wp2_with (fail)
   go_loopg [10] 3 (fun g_ iv wr => ∃ k : Nat, g_ + k = 3 ∧ iv = .int .i64 k ∧ blk wr w.heap.size (rssc ⟨(stD true X To), X.A, X.P, X.g⟩) 30 ∧ blk wr (w.heap.size + 1) (sec V) 33 ∧ blk wr (w.heap.size + 2) (vfn To) 27 ∧ blk wr (w.heap.size + 3) (rssc SSt.zero) 30 ∧ blk wr (w.heap.size + 4) (qfn fun _ => 0) 28 ∧ blk wr x_b (vfn (preH (rstF V (stD true X To)) (sumW V.sp) k)) 27 ∧ Below w.heap.size w wr)
   case atStart => exact ⟨0, rfl, rfl, y, v, tw, r1, r2, x, hB⟩
   case round =>
    clear y v tw r1 r2 x hB
    obtain ⟨k, hk, rfl, y, v, tw, r1, r2, x, hB⟩ := hrel
    by_cases hkn : k < 3
    ·have hdk : decide ((k : Int) < 3) = true := decide_eq_true (by omega)
     have hdk' : decide (k < 3) = true := decide_eq_true (by omega)
     have hk3 : (k : Int) < 3 := by omega
     have hw3 : IntKind.i64.wrap ((k : Int) + 1) = ((k + 1 : Nat) : Int) := by rw [IntKind.wrap_i64]; omega
     have B6 : -4456448 ≤ stD true X To k ∧ stD true X To k ≤ 4456448 := by
      have B1 := HD.out k hkn
      have B5 := clampR_bd (To k - X.D k)
      show -4456448 ≤ X.D k + clampV (To k - X.D k) (-262144) 262144 ∧ X.D k + clampV (To k - X.D k) (-262144) 262144 ≤ 4456448
      omega
     have B3 := HR.out k hkn
     have B4 := HS.out k hkn
     have FL := Lib.hid (fun w => rfloor_any (V.rate k) 4 w (.inl rfl) (by omega))
     have e1 : IntKind.i64.wrap (sumW V.sp k + V.rate k / 4) = sumW V.sp k + V.rate k / 4 := by rw [IntKind.wrap_i64]; omega
     have e2 : IntKind.i64.wrap (sumW V.sp k + V.rate k / 4 - (stD true X To) k) = sumW V.sp k + V.rate k / 4 - (stD true X To) k := by rw [IntKind.wrap_i64]; omega
     have ev : sumW V.sp k + V.rate k / 4 - (stD true X To) k = rstF V (stD true X To) k := by show _ = sumW V.sp k + (V.rate k / 4 - (stD true X To) k); omega
     clear B3 B4 B6
     replace ev := Lib.hid ev
     go_upto_region 10 with (fail)
     have lt_y := y.lt
     have lt_v := v.lt
     have lt_tw := tw.lt
     have lt_r1 := r1.lt
     have lt_r2 := r2.lt
     have lt_x := x.lt
     have hW0 : w.heap.size ≤ wr.heap.size := by simpa using hB.size
     apply wp_region_I 17 [0, 0, 2, 6, 0, 0, 48, 112, 240, 510, 0, 0, 3072, 7168, 16382, 32767, 65535] [] [_, _, _, _, _, _, _, _, _, _, _, _, _, _, _, _, (fun _ => undef)] (fun p L w' => wr.heap.size ≤ w'.heap.size ∧ Below w.heap.size w w' ∧ blk w' w.heap.size (rssc ⟨(stD true X To), X.A, X.P, X.g⟩) 30 ∧ blk w' (w.heap.size + 1) (sec V) 33 ∧ blk w' (w.heap.size + 2) (vfn To) 27 ∧ blk w' (w.heap.size + 3) (rssc SSt.zero) 30 ∧ blk w' (w.heap.size + 4) (qfn fun _ => 0) 28 ∧ blk w' x_b (bif L 16 then (vfn (preH (rstF V (stD true X To)) (sumW V.sp) (k + 1))) else (vfn (preH (rstF V (stD true X To)) (sumW V.sp) k))) 27) _ [(0, 42), (1, 43), (2, 44), (3, 45), (4, 46), (5, 47), (6, 48), (7, 49), (8, 50), (9, 51), (10, 52), (11, 53), (12, 54), (13, 55), (14, 56), (15, 57)] [0, 1, 2, 3, 4, 5, 6, 7, 8, 9, 10, 11, 12, 13, 14, 15, 16]
     case hn => rfl
     case hm => kernel_rfl
     case hB => kernel_rfl
     case hds => kernel_rfl
     case hA => (intro p; simp only [putsD, Act.put, sIT, sCZ, sCS, gCZ, gCS]; exact rfl)
     case h0 => exact fun p => ⟨Nat.le_refl _, hB.drew, y.drew, v.drew, tw.drew, r1.drew, r2.drew, x.drew⟩
     case hmore => exact fun p L w1 w2 ⟨hsz, hB, y, v, tw, r1, r2, x⟩ hm => ⟨Nat.le_trans hsz hm.size, hB.trans (hm.mono (Nat.le_trans hW0 hsz)), y.below hm y.lt, v.below hm v.lt, tw.below hm tw.lt, r1.below hm r1.lt, r2.below hm r2.lt, x.below hm x.lt⟩
     case hs =>
      intro more
      iterate 3 (refine sVV ?_)
      refine sWW ?_ ?_
      ·rintro p L w1 ⟨hsz, hB, y, v, tw, r1, r2, x⟩ hk
       have L16 : L 16 = false := hk.2.2 16 rfl
       rw [L16] at x
       try simp only [cond_true, cond_false] at x
       have hc : w1.cell? ⟨x_b, k, none⟩ = some (.int .i64 (sumW V.sp k)) := (by have := x.cellIs (vfn_get _ hkn); rw [preH_ge (Nat.le_refl k)] at this; exact this)
       go_simp
       exact ⟨rfl, rfl⟩
      iterate 3 (refine sVV ?_)
      refine sWW ?_ ?_
      ·rintro p L w1 ⟨hsz, hB, y, v, tw, r1, r2, x⟩ hk
       have L16 : L 16 = false := hk.2.2 16 rfl
       have hc : w1.cell? ⟨(w.heap.size + 1), k, none⟩ = some (.int .i64 (V.rate k)) := v.cellIs (se_ri V hkn)
       go_simp
       exact ⟨rfl, rfl⟩
      refine stepD 8 rfl (fun p => rfl) (fun _ _ _ h => h) more ?_ ?_
      ·rintro p L w1 ⟨hsz, hB, y, v, tw, r1, r2, x⟩ hk
       go_simp
       refine (FL.out _).mono ?_
       rintro e w2 ⟨rfl, h2⟩
       first | exact ⟨rfl, h2⟩ | (subst h2; exact ⟨rfl, Below.refl _ _⟩)
      iterate 4 (refine sVV ?_)
      refine sWW ?_ ?_
      ·rintro p L w1 ⟨hsz, hB, y, v, tw, r1, r2, x⟩ hk
       have L16 : L 16 = false := hk.2.2 16 rfl
       have hc : w1.cell? ⟨w.heap.size, k, none⟩ = some (.int .i64 ((stD true X To) k)) := y.cellIs (rs_Di ⟨(stD true X To), X.A, X.P, X.g⟩ hkn)
       go_simp
       exact ⟨rfl, rfl⟩
      iterate 2 (refine sVV ?_)
      refine AllI.cons ?_ ?_
      ·refine stepI_cell 16 rfl (fun p => rfl) (fun p => rfl) (fun _ => x_b) (k) (fun p => .int .i64 (sumW V.sp k + V.rate k / 4 - (stD true X To) k)) (fun p => (vfn (preH (rstF V (stD true X To)) (sumW V.sp) k))) (fun p => (vfn (preH (rstF V (stD true X To)) (sumW V.sp) (k + 1)))) 27 (fun p => v_pre hkn _ ev.out) ?_ ?_ ?_
       ·rintro p L w1 ⟨hsz, hB, y, v, tw, r1, r2, x⟩ hk
        have L16 : L 16 = false := hk.1
        rw [L16] at x
        try simp only [cond_true, cond_false] at x
        exact x
       ·intro p w1 hb
        have fz : w1.frozen? ⟨x_b, k, none⟩ = false := hb.free _
        have cz : ∃ u, w1.cell? ⟨x_b, k, none⟩ = some u := ⟨_, hb.cellIs (vfn_get _ hkn)⟩
        obtain ⟨u, cz⟩ := cz
        go_simp
        try exact ⟨_, rfl, by first | exact .inl rfl | exact .inr rfl⟩
       ·rintro p L w1 ⟨hsz, hB, y, v, tw, r1, r2, x⟩ hk
        have L16 : L 16 = false := hk.1
        refine ⟨(by simpa using hsz), Below.setRow hB (by first | exact Nat.le_trans hW0 hp.1 | exact ge_x | omega | (have := hB.size; simp at this ⊢; omega)) _, y.rowOther ne_y_x _, v.rowOther ne_v_x _, tw.rowOther ne_tw_x _, r1.rowOther ne_r1_x _, r2.rowOther ne_r2_x _, ?_⟩
        rw [show upL L 16 16 = true from rfl]
        exact x.row _
      exact AllI.nil
     case hV0 => exact fun p q => AllI.nil
     case he =>
     clear hB y v tw r1 r2 x
     rintro p wrr ⟨hsz, hB, y, v, tw, r1, r2, x⟩
     replace x : blk wrr x_b (vfn (preH (rstF V (stD true X To)) (sumW V.sp) (k + 1))) 27 := x
     clear lt_y lt_v lt_tw lt_r1 lt_r2 lt_x hsz hW0
     go_wp2_with (fail)
     go_roundg (3 - (k + 1))
     case rel =>
      exact ⟨k + 1, by omega, rfl, y, v, tw, r1, r2, x, hB⟩
     case measure => omega
    ·obtain rfl : k = 3 := by omega
     rw [v_pre3] at x
     go_upto_region 11 with (fail)
     have lt_y := y.lt
     have lt_v := v.lt
     have lt_tw := tw.lt
     have lt_r1 := r1.lt
     have lt_r2 := r2.lt
     have lt_x := x.lt
     have hW0 : w.heap.size ≤ wr.heap.size := by simpa using hB.size
     apply wp_region_Q 9 [0, 1, 3, 7, 15, 31, 63, 127, 255] [] [_, _, _, _, _, _, _, _, (fun _ => undef)] (fun p L w' => wr.heap.size ≤ w'.heap.size ∧ Below w.heap.size w w' ∧ blk w' w.heap.size (bif L 8 then (rssc ⟨(stD true X To), X.A, stP V (stD true X To), X.g⟩) else (rssc ⟨(stD true X To), X.A, X.P, X.g⟩)) 30 ∧ blk w' (w.heap.size + 1) (sec V) 33 ∧ blk w' (w.heap.size + 2) (vfn To) 27 ∧ blk w' (w.heap.size + 3) (rssc SSt.zero) 30 ∧ blk w' (w.heap.size + 4) (qfn fun _ => 0) 28 ∧ blk w' x_b (vfn (rstF V (stD true X To))) 27) _ [(0, 59), (1, 60), (2, 61), (3, 62), (4, 58), (5, 63), (6, 64), (7, 65)] [0, 1, 2, 3, 4, 5, 6, 7, 8]
     case hn => rfl
     case hB => kernel_rfl
     case hds => kernel_rfl
     case hA => (intro p; simp only [putsD, Act.put, sIT, sCZ, sCS, gCZ, gCS]; exact rfl)
     case h0 => exact fun p => ⟨Nat.le_refl _, hB, y, v, tw, r1, r2, x⟩
     case hmore => exact fun p L w1 w2 ⟨hsz, hB, y, v, tw, r1, r2, x⟩ hm => ⟨Nat.le_trans hsz hm.size, hB.trans (hm.mono (Nat.le_trans hW0 hsz)), y.below hm y.lt, v.below hm v.lt, tw.below hm tw.lt, r1.below hm r1.lt, r2.below hm r2.lt, x.below hm x.lt⟩
     case hs =>
      intro more
      refine sWW ?_ ?_
      ·rintro p L w1 ⟨hsz, hB, y, v, tw, r1, r2, x⟩ hk
       have L8 : L 8 = false := hk.2.2 8 rfl
       first | exact valR_row _ _ rfl _ rfl _ _ x _ Tryz.underlying27 rfl (by first | kernel_rfl | (rw [vfn_size]; kernel_rfl)) rfl | (have hc := x.cellIs (vfn_get _ (show 0 < 3 by omega)); go_simp; exact ⟨rfl, rfl⟩)
      refine sVV ?_
      refine sWW ?_ ?_
      ·rintro p L w1 ⟨hsz, hB, y, v, tw, r1, r2, x⟩ hk
       have L8 : L 8 = false := hk.2.2 8 rfl
       have hc : w1.cell? ⟨(w.heap.size + 1), 7, none⟩ = some (.int .i64 V.f) := v.cellIs rfl
       go_simp
       exact ⟨rfl, rfl⟩
      refine stepD 3 rfl (fun p => rfl) (fun _ _ _ h => h) more ?_ ?_
      ·rintro p L w1 ⟨hsz, hB, y, v, tw, r1, r2, x⟩ hk
       go_simp
       refine (AL.out _).mono ?_
       rintro e w2 ⟨rfl, h2⟩
       first | exact ⟨rfl, h2⟩ | (subst h2; exact ⟨rfl, Below.refl _ _⟩)
      iterate 4 (refine sVV ?_)
      refine AllI.cons ?_ ?_
      ·refine stepI_store 8 rfl (fun p => rfl) (fun p => rfl) _ _ _ rfl (fun _ => w.heap.size) 6 (fun p => rfl) (fun p => (qfn (stP V (stD true X To)))) (fun p => rfl) (fun p => (rssc ⟨(stD true X To), X.A, X.P, X.g⟩)) (fun p => (rssc ⟨(stD true X To), X.A, stP V (stD true X To), X.g⟩)) 30 (fun p => rsover_P _ _) (fun p => by first | (rw [qfn_size, rssc_size]; decide) | simp [qfn_size, rssc_size]) (fun p => by rw [qfn_size]; kernel_rfl) (fun p => qfn_one _) ?_ ?_
       ·rintro p L w1 ⟨hsz, hB, y, v, tw, r1, r2, x⟩ hk
        have L8 : L 8 = false := hk.1
        rw [L8] at y
        try simp only [cond_true, cond_false] at y
        exact y
       ·rintro p L w1 ⟨hsz, hB, y, v, tw, r1, r2, x⟩ hk
        have L8 : L 8 = false := hk.1
        skip
        refine ⟨(by simpa using hsz), Below.setRow hB (by first | exact Nat.le_trans hW0 hp.1 | exact ge_y | omega | (have := hB.size; simp at this ⊢; omega)) _, ?_, v.rowOther (by first | exact ne_v_y | exact Ne.symm ne_y_v | omega) _, tw.rowOther (by first | exact ne_tw_y | exact Ne.symm ne_y_tw | omega) _, r1.rowOther (by first | exact ne_r1_y | exact Ne.symm ne_y_r1 | omega) _, r2.rowOther (by first | exact ne_r2_y | exact Ne.symm ne_y_r2 | omega) _, x.rowOther (Ne.symm ne_y_x) _⟩
        rw [show upL L 8 8 = true from rfl]
        exact y.row _
      exact AllI.nil
     case hV0 => exact fun p q => AllI.nil
     case he =>
     clear hB y v tw r1 r2 x
     rintro p wrr ⟨hsz, hB, y, v, tw, r1, r2, x⟩
     replace y : blk wrr w.heap.size (rssc ⟨(stD true X To), X.A, stP V (stD true X To), X.g⟩) 30 := y
     clear lt_y lt_v lt_tw lt_r1 lt_r2 lt_x hsz hW0 AL
     go_upto_region 12 with (fail)
     have lt_y := y.lt
     have lt_v := v.lt
     have lt_tw := tw.lt
     have lt_r1 := r1.lt
     have lt_r2 := r2.lt
     have lt_x := x.lt
     have hW0 : w.heap.size ≤ wrr.heap.size := by simpa using hB.size
     apply wp_region_Q 2 [0, 1] [] [_, (fun _ => undef)] (fun p L w' => wrr.heap.size ≤ w'.heap.size ∧ Below w.heap.size w w' ∧ blk w' w.heap.size (bif L 1 then (rssc ⟨(stD true X To), X.A, stP V (stD true X To), true⟩) else (rssc ⟨(stD true X To), X.A, stP V (stD true X To), X.g⟩)) 30 ∧ blk w' (w.heap.size + 1) (sec V) 33 ∧ blk w' (w.heap.size + 2) (vfn To) 27 ∧ blk w' (w.heap.size + 3) (rssc SSt.zero) 30 ∧ blk w' (w.heap.size + 4) (qfn fun _ => 0) 28 ∧ blk w' x_b (vfn (rstF V (stD true X To))) 27) _ [(0, 66)] [0, 1]
     case hn => rfl
     case hB => kernel_rfl
     case hds => kernel_rfl
     case hA => (intro p; simp only [putsD, Act.put, sIT, sCZ, sCS, gCZ, gCS]; exact rfl)
     case h0 => exact fun p => ⟨Nat.le_refl _, hB, y, v, tw, r1, r2, x⟩
     case hmore => exact fun p L w1 w2 ⟨hsz, hB, y, v, tw, r1, r2, x⟩ hm => ⟨Nat.le_trans hsz hm.size, hB.trans (hm.mono (Nat.le_trans hW0 hsz)), y.below hm y.lt, v.below hm v.lt, tw.below hm tw.lt, r1.below hm r1.lt, r2.below hm r2.lt, x.below hm x.lt⟩
     case hs =>
      intro more
      refine sVV ?_
      refine AllI.cons ?_ ?_
      ·refine stepI_cell 1 rfl (fun p => rfl) (fun p => rfl) (fun _ => w.heap.size) (10) (fun p => .bool true) (fun p => (rssc ⟨(stD true X To), X.A, stP V (stD true X To), X.g⟩)) (fun p => (rssc ⟨(stD true X To), X.A, stP V (stD true X To), true⟩)) 30 (fun p => rsset_g _ _ _ _ _) ?_ ?_ ?_
       ·rintro p L w1 ⟨hsz, hB, y, v, tw, r1, r2, x⟩ hk
        have L1 : L 1 = false := hk.1
        rw [L1] at y
        try simp only [cond_true, cond_false] at y
        exact y
       ·intro p w1 hb
        have fz : w1.frozen? ⟨w.heap.size, 10, none⟩ = false := hb.free _
        have cz : ∃ u, w1.cell? ⟨w.heap.size, 10, none⟩ = some u := ⟨_, hb.cellIs (rfl)⟩
        obtain ⟨u, cz⟩ := cz
        go_simp
        try exact ⟨_, rfl, by first | exact .inl rfl | exact .inr rfl⟩
       ·rintro p L w1 ⟨hsz, hB, y, v, tw, r1, r2, x⟩ hk
        have L1 : L 1 = false := hk.1
        refine ⟨(by simpa using hsz), Below.setRow hB (by first | exact Nat.le_trans hW0 hp.1 | exact ge_y | omega | (have := hB.size; simp at this ⊢; omega)) _, ?_, v.rowOther (by first | exact ne_v_y | exact Ne.symm ne_y_v | omega) _, tw.rowOther (by first | exact ne_tw_y | exact Ne.symm ne_y_tw | omega) _, r1.rowOther (by first | exact ne_r1_y | exact Ne.symm ne_y_r1 | omega) _, r2.rowOther (by first | exact ne_r2_y | exact Ne.symm ne_y_r2 | omega) _, x.rowOther (Ne.symm ne_y_x) _⟩
        rw [show upL L 1 1 = true from rfl]
        exact y.row _
      exact AllI.nil
     case hV0 => exact fun p q => AllI.nil
     case he =>
     clear hB y v tw r1 r2 x
     rintro p wrrr ⟨hsz, hB, y, v, tw, r1, r2, x⟩
     replace y : blk wrrr w.heap.size (rssc ⟨(stD true X To), X.A, stP V (stD true X To), true⟩) 30 := y
     clear lt_y lt_v lt_tw lt_r1 lt_r2 lt_x hsz hW0
     go_upto_region 13 with (fail)
     have lt_y := y.lt
     have lt_v := v.lt
     have lt_tw := tw.lt
     have lt_r1 := r1.lt
     have lt_r2 := r2.lt
     have lt_x := x.lt
     have hW0 : w.heap.size ≤ wrrr.heap.size := by simpa using hB.size
     apply wp_region_I 11 [0, 0, 2, 0, 8, 30, 0, 64, 254, 511, 1023] [] [_, _, _, _, _, _, _, _, _, (fun _ => undef), (fun _ => undef)] (fun p L w' => wrrr.heap.size ≤ w'.heap.size ∧ Below w.heap.size w w' ∧ blk w' w.heap.size (rssc ⟨(stD true X To), X.A, stP V (stD true X To), true⟩) 30 ∧ blk w' (w.heap.size + 1) (sec V) 33 ∧ blk w' (w.heap.size + 2) (vfn To) 27 ∧ blk w' (w.heap.size + 3) (bif L 9 then (rssc ⟨(stD true X To), X.A, stP V (stD true X To), true⟩) else (rssc SSt.zero)) 30 ∧ blk w' (w.heap.size + 4) (bif L 10 then (qfn (cmdF V.sp V.f (stP V (stD true X To)))) else (qfn fun _ => 0)) 28 ∧ blk w' x_b (vfn (rstF V (stD true X To))) 27) _ [(0, 67), (1, 68), (2, 69), (3, 70), (4, 71), (5, 72), (6, 73), (7, 74), (8, 75)] [0, 1, 2, 3, 4, 5, 6, 7, 8, 9, 10]
     case hn => rfl
     case hm => kernel_rfl
     case hB => kernel_rfl
     case hds => kernel_rfl
     case hA => (intro p; simp only [putsD, Act.put, sIT, sCZ, sCS, gCZ, gCS]; exact rfl)
     case h0 => exact fun p => ⟨Nat.le_refl _, hB.drew, y.drew, v.drew, tw.drew, r1.drew, r2.drew, x.drew⟩
     case hmore => exact fun p L w1 w2 ⟨hsz, hB, y, v, tw, r1, r2, x⟩ hm => ⟨Nat.le_trans hsz hm.size, hB.trans (hm.mono (Nat.le_trans hW0 hsz)), y.below hm y.lt, v.below hm v.lt, tw.below hm tw.lt, r1.below hm r1.lt, r2.below hm r2.lt, x.below hm x.lt⟩
     case hs =>
      intro more
      refine sWW ?_ ?_
      ·rintro p L w1 ⟨hsz, hB, y, v, tw, r1, r2, x⟩ hk
       have L9 : L 9 = false := hk.2.2 9 rfl
       have L10 : L 10 = false := hk.2.2 10 rfl
       first | exact valR_row _ _ rfl _ rfl _ _ y _ Tryz.underlying30 rfl (by first | kernel_rfl | (rw [rssc_size]; kernel_rfl)) rfl | (have hc := y.cellIs (show _[0]? = some _ from rfl); go_simp; exact ⟨rfl, rfl⟩)
      refine sVV ?_
      refine sWW ?_ ?_
      ·rintro p L w1 ⟨hsz, hB, y, v, tw, r1, r2, x⟩ hk
       have L9 : L 9 = false := hk.2.2 9 rfl
       have L10 : L 10 = false := hk.2.2 10 rfl
       exact valR_part _ _ rfl _ 3 rfl _ _ v (qfn V.sp) (se_p V) _ Tryz.underlying28 rfl (by rw [qfn_size]; kernel_rfl) rfl
      refine sVV ?_
      refine sWW ?_ ?_
      ·rintro p L w1 ⟨hsz, hB, y, v, tw, r1, r2, x⟩ hk
       have L9 : L 9 = false := hk.2.2 9 rfl
       have L10 : L 10 = false := hk.2.2 10 rfl
       have hc : w1.cell? ⟨(w.heap.size + 1), 7, none⟩ = some (.int .i64 V.f) := v.cellIs rfl
       go_simp
       exact ⟨rfl, rfl⟩
      refine AllI.cons ?_ ?_
      ·refine stepI_val 5 rfl (fun p => rfl) ?_ (fun _ _ _ h => h)
       intros; simp only [qfn]; go_simp; exact ⟨rfl, rfl⟩
      refine sVV ?_
      refine sWW ?_ ?_
      ·rintro p L w1 ⟨hsz, hB, y, v, tw, r1, r2, x⟩ hk
       have L9 : L 9 = false := hk.2.2 9 rfl
       have L10 : L 10 = false := hk.2.2 10 rfl
       exact valR_part _ _ rfl _ 6 rfl _ _ y (qfn (stP V (stD true X To))) (rs_P ⟨(stD true X To), X.A, stP V (stD true X To), true⟩) _ Tryz.underlying28 rfl (by rw [qfn_size]; kernel_rfl) rfl
      refine stepD 8 rfl (fun p => rfl) (fun _ _ _ h => h) more ?_ ?_
      ·rintro p L w1 ⟨hsz, hB, y, v, tw, r1, r2, x⟩ hk
       go_simp
       refine (CM.out _).mono ?_
       rintro e w2 ⟨rfl, h2⟩
       first | exact ⟨rfl, h2⟩ | (subst h2; exact ⟨rfl, Below.refl _ _⟩)
      refine AllI.cons ?_ ?_
      ·refine stepI_store 9 rfl (fun p => rfl) (fun p => rfl) _ _ _ rfl (fun _ => (w.heap.size + 3)) 0 (fun p => rfl) (fun p => (rssc ⟨(stD true X To), X.A, stP V (stD true X To), true⟩)) (fun p => rfl) (fun p => (rssc SSt.zero)) (fun p => (rssc ⟨(stD true X To), X.A, stP V (stD true X To), true⟩)) 30 (fun p => rsover _ _) (fun p => by first | (rw [rssc_size, rssc_size]; decide) | simp [rssc_size, rssc_size]) (fun p => by rw [rssc_size]; kernel_rfl) (fun p => rssc_one _) ?_ ?_
       ·rintro p L w1 ⟨hsz, hB, y, v, tw, r1, r2, x⟩ hk
        have L9 : L 9 = false := hk.1
        have L10 : L 10 = false := hk.2.2 10 rfl
        rw [L9] at r1
        try simp only [cond_true, cond_false] at r1
        exact r1
       ·rintro p L w1 ⟨hsz, hB, y, v, tw, r1, r2, x⟩ hk
        have L9 : L 9 = false := hk.1
        have L10 : L 10 = false := hk.2.2 10 rfl
        skip
        refine ⟨(by simpa using hsz), Below.setRow hB (by first | exact Nat.le_trans hW0 hp.1 | exact ge_r1 | omega | (have := hB.size; simp at this ⊢; omega)) _, y.rowOther (by first | exact ne_y_r1 | exact Ne.symm ne_r1_y | omega) _, v.rowOther (by first | exact ne_v_r1 | exact Ne.symm ne_r1_v | omega) _, tw.rowOther (by first | exact ne_tw_r1 | exact Ne.symm ne_r1_tw | omega) _, ?_, r2.rowOther (by first | exact ne_r2_r1 | exact Ne.symm ne_r1_r2 | omega) _, x.rowOther (Ne.symm ne_r1_x) _⟩
        rw [show upL L 9 9 = true from rfl]
        exact r1.row _
      refine AllI.cons ?_ ?_
      ·refine stepI_store 10 rfl (fun p => rfl) (fun p => rfl) _ _ _ rfl (fun _ => (w.heap.size + 4)) 0 (fun p => rfl) (fun p => (qfn (cmdF V.sp V.f (stP V (stD true X To))))) (fun p => rfl) (fun p => (qfn fun _ => 0)) (fun p => (qfn (cmdF V.sp V.f (stP V (stD true X To))))) 28 (fun p => over_qq _ _) (fun p => by first | (rw [qfn_size, qfn_size]; decide) | simp [qfn_size, qfn_size]) (fun p => by rw [qfn_size]; kernel_rfl) (fun p => qfn_one _) ?_ ?_
       ·rintro p L w1 ⟨hsz, hB, y, v, tw, r1, r2, x⟩ hk
        have L9 : L 9 = true := hk.2.1 9 rfl
        have L10 : L 10 = false := hk.1
        rw [L10] at r2
        try simp only [cond_true, cond_false] at r2
        exact r2
       ·rintro p L w1 ⟨hsz, hB, y, v, tw, r1, r2, x⟩ hk
        have L9 : L 9 = true := hk.2.1 9 rfl
        have L10 : L 10 = false := hk.1
        skip
        refine ⟨(by simpa using hsz), Below.setRow hB (by first | exact Nat.le_trans hW0 hp.1 | exact ge_r2 | omega | (have := hB.size; simp at this ⊢; omega)) _, y.rowOther (by first | exact ne_y_r2 | exact Ne.symm ne_r2_y | omega) _, v.rowOther (by first | exact ne_v_r2 | exact Ne.symm ne_r2_v | omega) _, tw.rowOther (by first | exact ne_tw_r2 | exact Ne.symm ne_r2_tw | omega) _, r1.rowOther (by first | exact ne_r1_r2 | exact Ne.symm ne_r2_r1 | omega) _, ?_, x.rowOther (Ne.symm ne_r2_x) _⟩
        rw [show upL L 10 10 = true from rfl]
        exact r2.row _
      exact AllI.nil
     case hV0 => exact fun p q => AllI.nil
     case he =>
     clear hB y v tw r1 r2 x
     rintro p wrrrr ⟨hsz, hB, y, v, tw, r1, r2, x⟩
     replace r1 : blk wrrrr (w.heap.size + 3) (rssc ⟨(stD true X To), X.A, stP V (stD true X To), true⟩) 30 := r1
     replace r2 : blk wrrrr (w.heap.size + 4) (qfn (cmdF V.sp V.f (stP V (stD true X To)))) 28 := r2
     clear lt_y lt_v lt_tw lt_r1 lt_r2 lt_x hsz hW0
     go_wp2_with (fail)
     refine bodyPost_ret (results_cc rfl _ _ _ _ _ _ _ _ _ _ _ _ rfl r1 rfl r2 Tryz.underlying30 rfl (by first | kernel_rfl | (rw [rssc_size]; kernel_rfl)) Tryz.underlying28 rfl (by first | kernel_rfl | (rw [qfn_size]; kernel_rfl))) rfl ?_
     refine ⟨?_, hB⟩
     rfl
set_option maxHeartbeats 16000000 in
theorem rstep_f (X : SSt) (V : SeT) (To : Nat → Int) (w : World) (hk : senseOk V = true) (hD : ∀ i, i < 3 → -4194304 ≤ X.D i ∧ X.D i ≤ 4194304) (hTo : ∀ i, i < 3 → -1099511627776 ≤ To i ∧ To i ≤ 1099511627776) (ha : arrB X V = false) : Calls Tryz.prog 25 #[.agg (rssc X), .agg (sec V), .agg (vfn To)] w fun e w' => e = .returned (.tuple #[.agg (rssc ⟨(stD false X To), X.A, stP V (stD false X To), true⟩), .agg (qfn (cmdF V.sp V.f (stP V (stD false X To))))]) ∧ Below w.heap.size w w' := by
 simp only [senseOk, Bool.and_eq_true] at hk
 obtain ⟨hn, h1, h2⟩ := hk
 have hS := (newB_SI hn).1
 have RA := Lib.hid (fun w => rarr_any X V w)
 rw [ha] at RA
 have HR := Lib.hid (fun i hi => (sb_iff _ _).1 ((smallB_iff V.rate _).1 h1 i hi))
 have SU := Lib.hid (fun w => rsum_any V.sp w hS.b)
 have HS := Lib.hid (fun i hi => sumW_bd hS (i := i) hi)
 have HD := Lib.hid hD
 have HT := Lib.hid hTo
 have AL := Lib.hid (fun w => rall_any (rstF V (stD false X To)) V.f w)
 rw [show allF (rstF V (stD false X To)) V.f = stP V (stD false X To) from rfl] at AL
 have CM := Lib.hid (fun w => rcmd_any V.sp V.f (stP V (stD false X To)) w hS.b)
 rw [← rsc_of] at CM
 clear hn h1 h2 hS hD hTo ha
 go_enter Tryz.func25, Tryz.ntmps25
 go_upto_region 1 with (fail)
 simp only [rssc_zero, zero_spd]
 have y : blk (((((w.alloc (.cells (rssc X) 30)).alloc (.cells (sec V) 33)).alloc (.cells (vfn To) 27)).alloc (.cells (rssc SSt.zero) 30)).alloc (.cells (qfn fun _ => 0) 28)) w.heap.size (rssc X) 30 := ((((blk.new _ _ _).alloc _).alloc _).alloc _).alloc _
 have v : blk (((((w.alloc (.cells (rssc X) 30)).alloc (.cells (sec V) 33)).alloc (.cells (vfn To) 27)).alloc (.cells (rssc SSt.zero) 30)).alloc (.cells (qfn fun _ => 0) 28)) (w.heap.size + 1) (sec V) 33 := (((blk.new' (by simp)).alloc _).alloc _).alloc _
 have tw : blk (((((w.alloc (.cells (rssc X) 30)).alloc (.cells (sec V) 33)).alloc (.cells (vfn To) 27)).alloc (.cells (rssc SSt.zero) 30)).alloc (.cells (qfn fun _ => 0) 28)) (w.heap.size + 2) (vfn To) 27 := ((blk.new' (by simp)).alloc _).alloc _
 have r1 : blk (((((w.alloc (.cells (rssc X) 30)).alloc (.cells (sec V) 33)).alloc (.cells (vfn To) 27)).alloc (.cells (rssc SSt.zero) 30)).alloc (.cells (qfn fun _ => 0) 28)) (w.heap.size + 3) (rssc SSt.zero) 30 := (blk.new' (by simp)).alloc _
 have r2 : blk (((((w.alloc (.cells (rssc X) 30)).alloc (.cells (sec V) 33)).alloc (.cells (vfn To) 27)).alloc (.cells (rssc SSt.zero) 30)).alloc (.cells (qfn fun _ => 0) 28)) (w.heap.size + 4) (qfn fun _ => 0) 28 := blk.new' (by simp)
 have hB : Below w.heap.size w (((((w.alloc (.cells (rssc X) 30)).alloc (.cells (sec V) 33)).alloc (.cells (vfn To) 27)).alloc (.cells (rssc SSt.zero) 30)).alloc (.cells (qfn fun _ => 0) 28)) := by go_grown
 generalize (((((w.alloc (.cells (rssc X) 30)).alloc (.cells (sec V) 33)).alloc (.cells (vfn To) 27)).alloc (.cells (rssc SSt.zero) 30)).alloc (.cells (qfn fun _ => 0) 28)) = w0 at *
 go_upto_region 6 with (first | (refine wpList_load_rowG ?hw _ _ rfl _ rfl _ _ _ _ y Tryz.underlying30 rfl ?hi ?_; (case hw => (first | rfl | (simp [Region.wanted, yielded]; done))); (case hi => (first | kernel_rfl | (rw [rssc_size]; kernel_rfl)))) | (refine wpList_load_rowG ?hw _ _ rfl _ rfl _ _ _ _ v Tryz.underlying33 rfl ?hi ?_; (case hw => (first | rfl | (simp [Region.wanted, yielded]; done))); (case hi => (first | kernel_rfl | (rw [sec_size]; kernel_rfl)))) | (go_at_call 35; with_reducible refine (RA.out _).mono ?_; rintro e wa ⟨rfl, hb⟩; replace hB := hB.trans (hb.mono hB.size); replace y := y.below hb y.lt; replace v := v.below hb v.lt; replace tw := tw.below hb tw.lt; replace r1 := r1.below hb r1.lt; replace r2 := r2.below hb r2.lt; clear hb))
 replace y : blk wa w.heap.size (rssc ⟨(stD false X To), X.A, X.P, X.g⟩) 30 := y
 clear RA
 have lt_y := y.lt
 have lt_v := v.lt
 have lt_tw := tw.lt
 have lt_r1 := r1.lt
 have lt_r2 := r2.lt
 have hW0 : w.heap.size ≤ wa.heap.size := by simpa using hB.size
 apply wp_region_Q 5 [0, 1, 3, 7, 15] [3] [_, _, _, (fun p => .pointer (some ⟨p 3, 0, none⟩)), (fun _ => undef)] (fun p L w' => wa.heap.size ≤ w'.heap.size ∧ Below w.heap.size w w' ∧ blk w' w.heap.size (rssc ⟨(stD false X To), X.A, X.P, X.g⟩) 30 ∧ blk w' (w.heap.size + 1) (sec V) 33 ∧ blk w' (w.heap.size + 2) (vfn To) 27 ∧ blk w' (w.heap.size + 3) (rssc SSt.zero) 30 ∧ blk w' (w.heap.size + 4) (qfn fun _ => 0) 28 ∧ (L 3 = true → wa.heap.size ≤ p 3 ∧ blk w' (p 3) (bif L 4 then (vfn (sumW V.sp)) else (vfn fun _ => 0)) 27)) _ [(0, 35), (1, 36), (2, 37), (3, 9)] [0, 1, 2, 3, 4]
 case hn => rfl
 case hB => kernel_rfl
 case hds => kernel_rfl
 case hA => (intro p; simp only [putsD, Act.put, sIT, sCZ, sCS, gCZ, gCS]; exact rfl)
 case h0 => exact fun p => ⟨Nat.le_refl _, hB, y, v, tw, r1, r2, fun h => absurd h (by decide)⟩
 case hmore => exact fun p L w1 w2 ⟨hsz, hB, y, v, tw, r1, r2, h_x⟩ hm => ⟨Nat.le_trans hsz hm.size, hB.trans (hm.mono (Nat.le_trans hW0 hsz)), y.below hm y.lt, v.below hm v.lt, tw.below hm tw.lt, r1.below hm r1.lt, r2.below hm r2.lt, fun hl => ⟨(h_x hl).1, (h_x hl).2.below hm (h_x hl).2.lt⟩⟩
 case hs =>
  intro more
  refine sVV ?_
  refine sWW ?_ ?_
  ·rintro p L w1 ⟨hsz, hB, y, v, tw, r1, r2, h_x⟩ hk
   have L4 : L 4 = false := hk.2.2 4 rfl
   exact valR_part _ _ rfl _ 3 rfl _ _ v (qfn V.sp) (se_p V) _ Tryz.underlying28 rfl (by rw [qfn_size]; kernel_rfl) rfl
  refine stepD 2 rfl (fun p => rfl) (fun _ _ _ h => h) more ?_ ?_
  ·rintro p L w1 ⟨hsz, hB, y, v, tw, r1, r2, h_x⟩ hk
   go_simp
   refine (SU.out _).mono ?_
   rintro e w2 ⟨rfl, h2⟩
   first | exact ⟨rfl, h2⟩ | (subst h2; exact ⟨rfl, Below.refl _ _⟩)
  refine AllI.cons ?_ ?_
  ·refine stepI_alloc 3 rfl (fun p => rfl) rfl (vfn fun _ => 0) 27 (fun p => rfl) ?_ ?_
   ·intro p w1
    go_simp
    first | rfl | rw [zero_vec]
   rintro p L w1 ⟨hsz, hB, y, v, tw, r1, r2, h_x⟩ hk
   have L4 : L 4 = false := hk.2.2 4 rfl
   refine ⟨Nat.le_trans hsz (by simp), hB.alloc (Nat.le_trans (by first | exact hW0 | (have := hB.size; simp at this ⊢; omega)) hsz) _, y.alloc _, v.alloc _, tw.alloc _, r1.alloc _, r2.alloc _, fun _ => ⟨hsz, ?_⟩⟩
   rw [show upL L 3 4 = false from L4]
   exact blk.new _ _ _
  refine AllI.cons ?_ ?_
  ·refine stepI_store 4 rfl (fun p => rfl) (fun p => rfl) _ _ _ rfl (fun p => p 3) 0 (fun p => rfl) (fun p => (vfn (sumW V.sp))) (fun p => rfl) (fun p => (vfn fun _ => 0)) (fun p => (vfn (sumW V.sp))) 27 (fun p => over_v _ _) (fun p => by first | (rw [vfn_size, vfn_size]; decide) | simp [vfn_size, vfn_size]) (fun p => by rw [vfn_size]; kernel_rfl) (fun p => vfn_one _) ?_ ?_
   ·rintro p L w1 ⟨hsz, hB, y, v, tw, r1, r2, h_x⟩ hk
    have L4 : L 4 = false := hk.1
    have hh := (h_x (hk.2.1 3 rfl)).2
    rw [L4] at hh
    try simp only [cond_true, cond_false] at hh
    exact hh
   ·rintro p L w1 ⟨hsz, hB, y, v, tw, r1, r2, h_x⟩ hk
    have L4 : L 4 = false := hk.1
    skip
    have hp := h_x (hk.2.1 3 rfl)
    refine ⟨(by simpa using hsz), Below.setRow hB (by first | exact Nat.le_trans hW0 hp.1 | exact ge_x | omega | (have := hB.size; simp at this ⊢; omega)) _, y.rowOther (by first | exact Nat.ne_of_lt (Nat.lt_of_lt_of_le lt_y hp.1) | omega) _, v.rowOther (by first | exact Nat.ne_of_lt (Nat.lt_of_lt_of_le lt_v hp.1) | omega) _, tw.rowOther (by first | exact Nat.ne_of_lt (Nat.lt_of_lt_of_le lt_tw hp.1) | omega) _, r1.rowOther (by first | exact Nat.ne_of_lt (Nat.lt_of_lt_of_le lt_r1 hp.1) | omega) _, r2.rowOther (by first | exact Nat.ne_of_lt (Nat.lt_of_lt_of_le lt_r2 hp.1) | omega) _, fun _ => ⟨hp.1, ?_⟩⟩
    rw [show upL L 4 4 = true from rfl]
    exact hp.2.row _
  exact AllI.nil
 case hV0 =>
  intro p q
  refine AllI.cons ?_ ?_
  ·skip
   iterate 5 (refine AllI.cons (by first | exact .inl rfl | (refine .inr ?_; simp only [gCZ, gCS]; done) | exact .inr rfl) ?_)
   exact AllI.nil
  exact AllI.nil
 case he =>
 clear hB y v tw r1 r2
 rintro p war ⟨hsz, hB, y, v, tw, r1, r2, h_x⟩
 obtain ⟨le_x, x⟩ := h_x rfl
 clear h_x
 replace x : blk war (p 3) (vfn (sumW V.sp)) 27 := x
 have ne_y_x : w.heap.size ≠ p 3 := Nat.ne_of_lt (Nat.lt_of_lt_of_le lt_y le_x)
 have ne_v_x : (w.heap.size + 1) ≠ p 3 := Nat.ne_of_lt (Nat.lt_of_lt_of_le lt_v le_x)
 have ne_tw_x : (w.heap.size + 2) ≠ p 3 := Nat.ne_of_lt (Nat.lt_of_lt_of_le lt_tw le_x)
 have ne_r1_x : (w.heap.size + 3) ≠ p 3 := Nat.ne_of_lt (Nat.lt_of_lt_of_le lt_r1 le_x)
 have ne_r2_x : (w.heap.size + 4) ≠ p 3 := Nat.ne_of_lt (Nat.lt_of_lt_of_le lt_r2 le_x)
 have ge_x : w.heap.size ≤ p 3 := Nat.le_trans hW0 le_x
 generalize p 3 = x_b at *
 clear lt_y lt_v lt_tw lt_r1 lt_r2 hsz hW0 SU
 rw [show vfn (sumW V.sp) = vfn (preH (rstF V (stD false X To)) (sumW V.sp) 0) from by rw [preH_zero]] at x
 go_wp2_with (fail)
 go_loopg [10] 3 (fun g_ iv wr => ∃ k : Nat, g_ + k = 3 ∧ iv = .int .i64 k ∧ blk wr w.heap.size (rssc ⟨(stD false X To), X.A, X.P, X.g⟩) 30 ∧ blk wr (w.heap.size + 1) (sec V) 33 ∧ blk wr (w.heap.size + 2) (vfn To) 27 ∧ blk wr (w.heap.size + 3) (rssc SSt.zero) 30 ∧ blk wr (w.heap.size + 4) (qfn fun _ => 0) 28 ∧ blk wr x_b (vfn (preH (rstF V (stD false X To)) (sumW V.sp) k)) 27 ∧ Below w.heap.size w wr)
 case atStart => exact ⟨0, rfl, rfl, y, v, tw, r1, r2, x, hB⟩
 case round =>
  clear y v tw r1 r2 x hB
  obtain ⟨k, hk, rfl, y, v, tw, r1, r2, x, hB⟩ := hrel
  by_cases hkn : k < 3
  ·have hdk : decide ((k : Int) < 3) = true := decide_eq_true (by omega)
   have hdk' : decide (k < 3) = true := decide_eq_true (by omega)
   have hk3 : (k : Int) < 3 := by omega
   have hw3 : IntKind.i64.wrap ((k : Int) + 1) = ((k + 1 : Nat) : Int) := by rw [IntKind.wrap_i64]; omega
   have B6 : -4456448 ≤ stD false X To k ∧ stD false X To k ≤ 4456448 := by
    have B1 := HD.out k hkn
    show -4456448 ≤ X.D k ∧ X.D k ≤ 4456448
    omega
   have B3 := HR.out k hkn
   have B4 := HS.out k hkn
   have FL := Lib.hid (fun w => rfloor_any (V.rate k) 4 w (.inl rfl) (by omega))
   have e1 : IntKind.i64.wrap (sumW V.sp k + V.rate k / 4) = sumW V.sp k + V.rate k / 4 := by rw [IntKind.wrap_i64]; omega
   have e2 : IntKind.i64.wrap (sumW V.sp k + V.rate k / 4 - (stD false X To) k) = sumW V.sp k + V.rate k / 4 - (stD false X To) k := by rw [IntKind.wrap_i64]; omega
   have ev : sumW V.sp k + V.rate k / 4 - (stD false X To) k = rstF V (stD false X To) k := by show _ = sumW V.sp k + (V.rate k / 4 - (stD false X To) k); omega
   clear B3 B4 B6
   replace ev := Lib.hid ev
   go_upto_region 10 with (fail)
   have lt_y := y.lt
   have lt_v := v.lt
   have lt_tw := tw.lt
   have lt_r1 := r1.lt
   have lt_r2 := r2.lt
   have lt_x := x.lt
   have hW0 : w.heap.size ≤ wr.heap.size := by simpa using hB.size
   apply wp_region_I 17 [0, 0, 2, 6, 0, 0, 48, 112, 240, 510, 0, 0, 3072, 7168, 16382, 32767, 65535] [] [_, _, _, _, _, _, _, _, _, _, _, _, _, _, _, _, (fun _ => undef)] (fun p L w' => wr.heap.size ≤ w'.heap.size ∧ Below w.heap.size w w' ∧ blk w' w.heap.size (rssc ⟨(stD false X To), X.A, X.P, X.g⟩) 30 ∧ blk w' (w.heap.size + 1) (sec V) 33 ∧ blk w' (w.heap.size + 2) (vfn To) 27 ∧ blk w' (w.heap.size + 3) (rssc SSt.zero) 30 ∧ blk w' (w.heap.size + 4) (qfn fun _ => 0) 28 ∧ blk w' x_b (bif L 16 then (vfn (preH (rstF V (stD false X To)) (sumW V.sp) (k + 1))) else (vfn (preH (rstF V (stD false X To)) (sumW V.sp) k))) 27) _ [(0, 42), (1, 43), (2, 44), (3, 45), (4, 46), (5, 47), (6, 48), (7, 49), (8, 50), (9, 51), (10, 52), (11, 53), (12, 54), (13, 55), (14, 56), (15, 57)] [0, 1, 2, 3, 4, 5, 6, 7, 8, 9, 10, 11, 12, 13, 14, 15, 16]
   case hn => rfl
   case hm => kernel_rfl
   case hB => kernel_rfl
   case hds => kernel_rfl
   case hA => (intro p; simp only [putsD, Act.put, sIT, sCZ, sCS, gCZ, gCS]; exact rfl)
   case h0 => exact fun p => ⟨Nat.le_refl _, hB.drew, y.drew, v.drew, tw.drew, r1.drew, r2.drew, x.drew⟩
   case hmore => exact fun p L w1 w2 ⟨hsz, hB, y, v, tw, r1, r2, x⟩ hm => ⟨Nat.le_trans hsz hm.size, hB.trans (hm.mono (Nat.le_trans hW0 hsz)), y.below hm y.lt, v.below hm v.lt, tw.below hm tw.lt, r1.below hm r1.lt, r2.below hm r2.lt, x.below hm x.lt⟩
   case hs =>
    intro more
    iterate 3 (refine sVV ?_)
    refine sWW ?_ ?_
    ·rintro p L w1 ⟨hsz, hB, y, v, tw, r1, r2, x⟩ hk
     have L16 : L 16 = false := hk.2.2 16 rfl
     rw [L16] at x
     try simp only [cond_true, cond_false] at x
     have hc : w1.cell? ⟨x_b, k, none⟩ = some (.int .i64 (sumW V.sp k)) := (by have := x.cellIs (vfn_get _ hkn); rw [preH_ge (Nat.le_refl k)] at this; exact this)
     go_simp
     exact ⟨rfl, rfl⟩
    iterate 3 (refine sVV ?_)
    refine sWW ?_ ?_
    ·rintro p L w1 ⟨hsz, hB, y, v, tw, r1, r2, x⟩ hk
     have L16 : L 16 = false := hk.2.2 16 rfl
     have hc : w1.cell? ⟨(w.heap.size + 1), k, none⟩ = some (.int .i64 (V.rate k)) := v.cellIs (se_ri V hkn)
     go_simp
     exact ⟨rfl, rfl⟩
    refine stepD 8 rfl (fun p => rfl) (fun _ _ _ h => h) more ?_ ?_
    ·rintro p L w1 ⟨hsz, hB, y, v, tw, r1, r2, x⟩ hk
     go_simp
     refine (FL.out _).mono ?_
     rintro e w2 ⟨rfl, h2⟩
     first | exact ⟨rfl, h2⟩ | (subst h2; exact ⟨rfl, Below.refl _ _⟩)
    iterate 4 (refine sVV ?_)
    refine sWW ?_ ?_
    ·rintro p L w1 ⟨hsz, hB, y, v, tw, r1, r2, x⟩ hk
     have L16 : L 16 = false := hk.2.2 16 rfl
     have hc : w1.cell? ⟨w.heap.size, k, none⟩ = some (.int .i64 ((stD false X To) k)) := y.cellIs (rs_Di ⟨(stD false X To), X.A, X.P, X.g⟩ hkn)
     go_simp
     exact ⟨rfl, rfl⟩
    iterate 2 (refine sVV ?_)
    refine AllI.cons ?_ ?_
    ·refine stepI_cell 16 rfl (fun p => rfl) (fun p => rfl) (fun _ => x_b) (k) (fun p => .int .i64 (sumW V.sp k + V.rate k / 4 - (stD false X To) k)) (fun p => (vfn (preH (rstF V (stD false X To)) (sumW V.sp) k))) (fun p => (vfn (preH (rstF V (stD false X To)) (sumW V.sp) (k + 1)))) 27 (fun p => v_pre hkn _ ev.out) ?_ ?_ ?_
     ·rintro p L w1 ⟨hsz, hB, y, v, tw, r1, r2, x⟩ hk
      have L16 : L 16 = false := hk.1
      rw [L16] at x
      try simp only [cond_true, cond_false] at x
      exact x
     ·intro p w1 hb
      have fz : w1.frozen? ⟨x_b, k, none⟩ = false := hb.free _
      have cz : ∃ u, w1.cell? ⟨x_b, k, none⟩ = some u := ⟨_, hb.cellIs (vfn_get _ hkn)⟩
      obtain ⟨u, cz⟩ := cz
      go_simp
      try exact ⟨_, rfl, by first | exact .inl rfl | exact .inr rfl⟩
     ·rintro p L w1 ⟨hsz, hB, y, v, tw, r1, r2, x⟩ hk
      have L16 : L 16 = false := hk.1
      refine ⟨(by simpa using hsz), Below.setRow hB (by first | exact Nat.le_trans hW0 hp.1 | exact ge_x | omega | (have := hB.size; simp at this ⊢; omega)) _, y.rowOther ne_y_x _, v.rowOther ne_v_x _, tw.rowOther ne_tw_x _, r1.rowOther ne_r1_x _, r2.rowOther ne_r2_x _, ?_⟩
      rw [show upL L 16 16 = true from rfl]
      exact x.row _
    exact AllI.nil
   case hV0 => exact fun p q => AllI.nil
   case he =>
   clear hB y v tw r1 r2 x
   rintro p wrr ⟨hsz, hB, y, v, tw, r1, r2, x⟩
   replace x : blk wrr x_b (vfn (preH (rstF V (stD false X To)) (sumW V.sp) (k + 1))) 27 := x
   clear lt_y lt_v lt_tw lt_r1 lt_r2 lt_x hsz hW0
   go_wp2_with (fail)
   go_roundg (3 - (k + 1))
   case rel =>
    exact ⟨k + 1, by omega, rfl, y, v, tw, r1, r2, x, hB⟩
   case measure => omega
  ·obtain rfl : k = 3 := by omega
   rw [v_pre3] at x
   go_upto_region 11 with (fail)
   have lt_y := y.lt
   have lt_v := v.lt
   have lt_tw := tw.lt
   have lt_r1 := r1.lt
   have lt_r2 := r2.lt
   have lt_x := x.lt
   have hW0 : w.heap.size ≤ wr.heap.size := by simpa using hB.size
   apply wp_region_Q 9 [0, 1, 3, 7, 15, 31, 63, 127, 255] [] [_, _, _, _, _, _, _, _, (fun _ => undef)] (fun p L w' => wr.heap.size ≤ w'.heap.size ∧ Below w.heap.size w w' ∧ blk w' w.heap.size (bif L 8 then (rssc ⟨(stD false X To), X.A, stP V (stD false X To), X.g⟩) else (rssc ⟨(stD false X To), X.A, X.P, X.g⟩)) 30 ∧ blk w' (w.heap.size + 1) (sec V) 33 ∧ blk w' (w.heap.size + 2) (vfn To) 27 ∧ blk w' (w.heap.size + 3) (rssc SSt.zero) 30 ∧ blk w' (w.heap.size + 4) (qfn fun _ => 0) 28 ∧ blk w' x_b (vfn (rstF V (stD false X To))) 27) _ [(0, 59), (1, 60), (2, 61), (3, 62), (4, 58), (5, 63), (6, 64), (7, 65)] [0, 1, 2, 3, 4, 5, 6, 7, 8]
   case hn => rfl
   case hB => kernel_rfl
   case hds => kernel_rfl
   case hA => (intro p; simp only [putsD, Act.put, sIT, sCZ, sCS, gCZ, gCS]; exact rfl)
   case h0 => exact fun p => ⟨Nat.le_refl _, hB, y, v, tw, r1, r2, x⟩
   case hmore => exact fun p L w1 w2 ⟨hsz, hB, y, v, tw, r1, r2, x⟩ hm => ⟨Nat.le_trans hsz hm.size, hB.trans (hm.mono (Nat.le_trans hW0 hsz)), y.below hm y.lt, v.below hm v.lt, tw.below hm tw.lt, r1.below hm r1.lt, r2.below hm r2.lt, x.below hm x.lt⟩
   case hs =>
    intro more
    refine sWW ?_ ?_
    ·rintro p L w1 ⟨hsz, hB, y, v, tw, r1, r2, x⟩ hk
     have L8 : L 8 = false := hk.2.2 8 rfl
     first | exact valR_row _ _ rfl _ rfl _ _ x _ Tryz.underlying27 rfl (by first | kernel_rfl | (rw [vfn_size]; kernel_rfl)) rfl | (have hc := x.cellIs (vfn_get _ (show 0 < 3 by omega)); go_simp; exact ⟨rfl, rfl⟩)
    refine sVV ?_
    refine sWW ?_ ?_
    ·rintro p L w1 ⟨hsz, hB, y, v, tw, r1, r2, x⟩ hk
     have L8 : L 8 = false := hk.2.2 8 rfl
     have hc : w1.cell? ⟨(w.heap.size + 1), 7, none⟩ = some (.int .i64 V.f) := v.cellIs rfl
     go_simp
     exact ⟨rfl, rfl⟩
    refine stepD 3 rfl (fun p => rfl) (fun _ _ _ h => h) more ?_ ?_
    ·rintro p L w1 ⟨hsz, hB, y, v, tw, r1, r2, x⟩ hk
     go_simp
     refine (AL.out _).mono ?_
     rintro e w2 ⟨rfl, h2⟩
     first | exact ⟨rfl, h2⟩ | (subst h2; exact ⟨rfl, Below.refl _ _⟩)
    iterate 4 (refine sVV ?_)
    refine AllI.cons ?_ ?_
    ·refine stepI_store 8 rfl (fun p => rfl) (fun p => rfl) _ _ _ rfl (fun _ => w.heap.size) 6 (fun p => rfl) (fun p => (qfn (stP V (stD false X To)))) (fun p => rfl) (fun p => (rssc ⟨(stD false X To), X.A, X.P, X.g⟩)) (fun p => (rssc ⟨(stD false X To), X.A, stP V (stD false X To), X.g⟩)) 30 (fun p => rsover_P _ _) (fun p => by first | (rw [qfn_size, rssc_size]; decide) | simp [qfn_size, rssc_size]) (fun p => by rw [qfn_size]; kernel_rfl) (fun p => qfn_one _) ?_ ?_
     ·rintro p L w1 ⟨hsz, hB, y, v, tw, r1, r2, x⟩ hk
      have L8 : L 8 = false := hk.1
      rw [L8] at y
      try simp only [cond_true, cond_false] at y
      exact y
     ·rintro p L w1 ⟨hsz, hB, y, v, tw, r1, r2, x⟩ hk
      have L8 : L 8 = false := hk.1
      skip
      refine ⟨(by simpa using hsz), Below.setRow hB (by first | exact Nat.le_trans hW0 hp.1 | exact ge_y | omega | (have := hB.size; simp at this ⊢; omega)) _, ?_, v.rowOther (by first | exact ne_v_y | exact Ne.symm ne_y_v | omega) _, tw.rowOther (by first | exact ne_tw_y | exact Ne.symm ne_y_tw | omega) _, r1.rowOther (by first | exact ne_r1_y | exact Ne.symm ne_y_r1 | omega) _, r2.rowOther (by first | exact ne_r2_y | exact Ne.symm ne_y_r2 | omega) _, x.rowOther (Ne.symm ne_y_x) _⟩
      rw [show upL L 8 8 = true from rfl]
      exact y.row _
    exact AllI.nil
   case hV0 => exact fun p q => AllI.nil
   case he =>
   clear hB y v tw r1 r2 x
   rintro p wrr ⟨hsz, hB, y, v, tw, r1, r2, x⟩
   replace y : blk wrr w.heap.size (rssc ⟨(stD false X To), X.A, stP V (stD false X To), X.g⟩) 30 := y
   clear lt_y lt_v lt_tw lt_r1 lt_r2 lt_x hsz hW0 AL
   go_upto_region 12 with (fail)
   have lt_y := y.lt
   have lt_v := v.lt
   have lt_tw := tw.lt
   have lt_r1 := r1.lt
   have lt_r2 := r2.lt
   have lt_x := x.lt
   have hW0 : w.heap.size ≤ wrr.heap.size := by simpa using hB.size
   apply wp_region_Q 2 [0, 1] [] [_, (fun _ => undef)] (fun p L w' => wrr.heap.size ≤ w'.heap.size ∧ Below w.heap.size w w' ∧ blk w' w.heap.size (bif L 1 then (rssc ⟨(stD false X To), X.A, stP V (stD false X To), true⟩) else (rssc ⟨(stD false X To), X.A, stP V (stD false X To), X.g⟩)) 30 ∧ blk w' (w.heap.size + 1) (sec V) 33 ∧ blk w' (w.heap.size + 2) (vfn To) 27 ∧ blk w' (w.heap.size + 3) (rssc SSt.zero) 30 ∧ blk w' (w.heap.size + 4) (qfn fun _ => 0) 28 ∧ blk w' x_b (vfn (rstF V (stD false X To))) 27) _ [(0, 66)] [0, 1]
   case hn => rfl
   case hB => kernel_rfl
   case hds => kernel_rfl
   case hA => (intro p; simp only [putsD, Act.put, sIT, sCZ, sCS, gCZ, gCS]; exact rfl)
   case h0 => exact fun p => ⟨Nat.le_refl _, hB, y, v, tw, r1, r2, x⟩
   case hmore => exact fun p L w1 w2 ⟨hsz, hB, y, v, tw, r1, r2, x⟩ hm => ⟨Nat.le_trans hsz hm.size, hB.trans (hm.mono (Nat.le_trans hW0 hsz)), y.below hm y.lt, v.below hm v.lt, tw.below hm tw.lt, r1.below hm r1.lt, r2.below hm r2.lt, x.below hm x.lt⟩
   case hs =>
    intro more
    refine sVV ?_
    refine AllI.cons ?_ ?_
    ·refine stepI_cell 1 rfl (fun p => rfl) (fun p => rfl) (fun _ => w.heap.size) (10) (fun p => .bool true) (fun p => (rssc ⟨(stD false X To), X.A, stP V (stD false X To), X.g⟩)) (fun p => (rssc ⟨(stD false X To), X.A, stP V (stD false X To), true⟩)) 30 (fun p => rsset_g _ _ _ _ _) ?_ ?_ ?_
     ·rintro p L w1 ⟨hsz, hB, y, v, tw, r1, r2, x⟩ hk
      have L1 : L 1 = false := hk.1
      rw [L1] at y
      try simp only [cond_true, cond_false] at y
      exact y
     ·intro p w1 hb
      have fz : w1.frozen? ⟨w.heap.size, 10, none⟩ = false := hb.free _
      have cz : ∃ u, w1.cell? ⟨w.heap.size, 10, none⟩ = some u := ⟨_, hb.cellIs (rfl)⟩
      obtain ⟨u, cz⟩ := cz
      go_simp
      try exact ⟨_, rfl, by first | exact .inl rfl | exact .inr rfl⟩
     ·rintro p L w1 ⟨hsz, hB, y, v, tw, r1, r2, x⟩ hk
      have L1 : L 1 = false := hk.1
      refine ⟨(by simpa using hsz), Below.setRow hB (by first | exact Nat.le_trans hW0 hp.1 | exact ge_y | omega | (have := hB.size; simp at this ⊢; omega)) _, ?_, v.rowOther (by first | exact ne_v_y | exact Ne.symm ne_y_v | omega) _, tw.rowOther (by first | exact ne_tw_y | exact Ne.symm ne_y_tw | omega) _, r1.rowOther (by first | exact ne_r1_y | exact Ne.symm ne_y_r1 | omega) _, r2.rowOther (by first | exact ne_r2_y | exact Ne.symm ne_y_r2 | omega) _, x.rowOther (Ne.symm ne_y_x) _⟩
      rw [show upL L 1 1 = true from rfl]
      exact y.row _
    exact AllI.nil
   case hV0 => exact fun p q => AllI.nil
   case he =>
   clear hB y v tw r1 r2 x
   rintro p wrrr ⟨hsz, hB, y, v, tw, r1, r2, x⟩
   replace y : blk wrrr w.heap.size (rssc ⟨(stD false X To), X.A, stP V (stD false X To), true⟩) 30 := y
   clear lt_y lt_v lt_tw lt_r1 lt_r2 lt_x hsz hW0
   go_upto_region 13 with (fail)
   have lt_y := y.lt
   have lt_v := v.lt
   have lt_tw := tw.lt
   have lt_r1 := r1.lt
   have lt_r2 := r2.lt
   have lt_x := x.lt
   have hW0 : w.heap.size ≤ wrrr.heap.size := by simpa using hB.size
   apply wp_region_I 11 [0, 0, 2, 0, 8, 30, 0, 64, 254, 511, 1023] [] [_, _, _, _, _, _, _, _, _, (fun _ => undef), (fun _ => undef)] (fun p L w' => wrrr.heap.size ≤ w'.heap.size ∧ Below w.heap.size w w' ∧ blk w' w.heap.size (rssc ⟨(stD false X To), X.A, stP V (stD false X To), true⟩) 30 ∧ blk w' (w.heap.size + 1) (sec V) 33 ∧ blk w' (w.heap.size + 2) (vfn To) 27 ∧ blk w' (w.heap.size + 3) (bif L 9 then (rssc ⟨(stD false X To), X.A, stP V (stD false X To), true⟩) else (rssc SSt.zero)) 30 ∧ blk w' (w.heap.size + 4) (bif L 10 then (qfn (cmdF V.sp V.f (stP V (stD false X To)))) else (qfn fun _ => 0)) 28 ∧ blk w' x_b (vfn (rstF V (stD false X To))) 27) _ [(0, 67), (1, 68), (2, 69), (3, 70), (4, 71), (5, 72), (6, 73), (7, 74), (8, 75)] [0, 1, 2, 3, 4, 5, 6, 7, 8, 9, 10]
   case hn => rfl
   case hm => kernel_rfl
   case hB => kernel_rfl
   case hds => kernel_rfl
   case hA => (intro p; simp only [putsD, Act.put, sIT, sCZ, sCS, gCZ, gCS]; exact rfl)
   case h0 => exact fun p => ⟨Nat.le_refl _, hB.drew, y.drew, v.drew, tw.drew, r1.drew, r2.drew, x.drew⟩
   case hmore => exact fun p L w1 w2 ⟨hsz, hB, y, v, tw, r1, r2, x⟩ hm => ⟨Nat.le_trans hsz hm.size, hB.trans (hm.mono (Nat.le_trans hW0 hsz)), y.below hm y.lt, v.below hm v.lt, tw.below hm tw.lt, r1.below hm r1.lt, r2.below hm r2.lt, x.below hm x.lt⟩
   case hs =>
    intro more
    refine sWW ?_ ?_
    ·rintro p L w1 ⟨hsz, hB, y, v, tw, r1, r2, x⟩ hk
     have L9 : L 9 = false := hk.2.2 9 rfl
     have L10 : L 10 = false := hk.2.2 10 rfl
     first | exact valR_row _ _ rfl _ rfl _ _ y _ Tryz.underlying30 rfl (by first | kernel_rfl | (rw [rssc_size]; kernel_rfl)) rfl | (have hc := y.cellIs (show _[0]? = some _ from rfl); go_simp; exact ⟨rfl, rfl⟩)
    refine sVV ?_
    refine sWW ?_ ?_
    ·rintro p L w1 ⟨hsz, hB, y, v, tw, r1, r2, x⟩ hk
     have L9 : L 9 = false := hk.2.2 9 rfl
     have L10 : L 10 = false := hk.2.2 10 rfl
     exact valR_part _ _ rfl _ 3 rfl _ _ v (qfn V.sp) (se_p V) _ Tryz.underlying28 rfl (by rw [qfn_size]; kernel_rfl) rfl
    refine sVV ?_
    refine sWW ?_ ?_
    ·rintro p L w1 ⟨hsz, hB, y, v, tw, r1, r2, x⟩ hk
     have L9 : L 9 = false := hk.2.2 9 rfl
     have L10 : L 10 = false := hk.2.2 10 rfl
     have hc : w1.cell? ⟨(w.heap.size + 1), 7, none⟩ = some (.int .i64 V.f) := v.cellIs rfl
     go_simp
     exact ⟨rfl, rfl⟩
    refine AllI.cons ?_ ?_
    ·refine stepI_val 5 rfl (fun p => rfl) ?_ (fun _ _ _ h => h)
     intros; simp only [qfn]; go_simp; exact ⟨rfl, rfl⟩
    refine sVV ?_
    refine sWW ?_ ?_
    ·rintro p L w1 ⟨hsz, hB, y, v, tw, r1, r2, x⟩ hk
     have L9 : L 9 = false := hk.2.2 9 rfl
     have L10 : L 10 = false := hk.2.2 10 rfl
     exact valR_part _ _ rfl _ 6 rfl _ _ y (qfn (stP V (stD false X To))) (rs_P ⟨(stD false X To), X.A, stP V (stD false X To), true⟩) _ Tryz.underlying28 rfl (by rw [qfn_size]; kernel_rfl) rfl
    refine stepD 8 rfl (fun p => rfl) (fun _ _ _ h => h) more ?_ ?_
    ·rintro p L w1 ⟨hsz, hB, y, v, tw, r1, r2, x⟩ hk
     go_simp
     refine (CM.out _).mono ?_
     rintro e w2 ⟨rfl, h2⟩
     first | exact ⟨rfl, h2⟩ | (subst h2; exact ⟨rfl, Below.refl _ _⟩)
    refine AllI.cons ?_ ?_
    ·refine stepI_store 9 rfl (fun p => rfl) (fun p => rfl) _ _ _ rfl (fun _ => (w.heap.size + 3)) 0 (fun p => rfl) (fun p => (rssc ⟨(stD false X To), X.A, stP V (stD false X To), true⟩)) (fun p => rfl) (fun p => (rssc SSt.zero)) (fun p => (rssc ⟨(stD false X To), X.A, stP V (stD false X To), true⟩)) 30 (fun p => rsover _ _) (fun p => by first | (rw [rssc_size, rssc_size]; decide) | simp [rssc_size, rssc_size]) (fun p => by rw [rssc_size]; kernel_rfl) (fun p => rssc_one _) ?_ ?_
     ·rintro p L w1 ⟨hsz, hB, y, v, tw, r1, r2, x⟩ hk
      have L9 : L 9 = false := hk.1
      have L10 : L 10 = false := hk.2.2 10 rfl
      rw [L9] at r1
      try simp only [cond_true, cond_false] at r1
      exact r1
     ·rintro p L w1 ⟨hsz, hB, y, v, tw, r1, r2, x⟩ hk
      have L9 : L 9 = false := hk.1
      have L10 : L 10 = false := hk.2.2 10 rfl
      skip
      refine ⟨(by simpa using hsz), Below.setRow hB (by first | exact Nat.le_trans hW0 hp.1 | exact ge_r1 | omega | (have := hB.size; simp at this ⊢; omega)) _, y.rowOther (by first | exact ne_y_r1 | exact Ne.symm ne_r1_y | omega) _, v.rowOther (by first | exact ne_v_r1 | exact Ne.symm ne_r1_v | omega) _, tw.rowOther (by first | exact ne_tw_r1 | exact Ne.symm ne_r1_tw | omega) _, ?_, r2.rowOther (by first | exact ne_r2_r1 | exact Ne.symm ne_r1_r2 | omega) _, x.rowOther (Ne.symm ne_r1_x) _⟩
      rw [show upL L 9 9 = true from rfl]
      exact r1.row _
    refine AllI.cons ?_ ?_
    ·refine stepI_store 10 rfl (fun p => rfl) (fun p => rfl) _ _ _ rfl (fun _ => (w.heap.size + 4)) 0 (fun p => rfl) (fun p => (qfn (cmdF V.sp V.f (stP V (stD false X To))))) (fun p => rfl) (fun p => (qfn fun _ => 0)) (fun p => (qfn (cmdF V.sp V.f (stP V (stD false X To))))) 28 (fun p => over_qq _ _) (fun p => by first | (rw [qfn_size, qfn_size]; decide) | simp [qfn_size, qfn_size]) (fun p => by rw [qfn_size]; kernel_rfl) (fun p => qfn_one _) ?_ ?_
     ·rintro p L w1 ⟨hsz, hB, y, v, tw, r1, r2, x⟩ hk
      have L9 : L 9 = true := hk.2.1 9 rfl
      have L10 : L 10 = false := hk.1
      rw [L10] at r2
      try simp only [cond_true, cond_false] at r2
      exact r2
     ·rintro p L w1 ⟨hsz, hB, y, v, tw, r1, r2, x⟩ hk
      have L9 : L 9 = true := hk.2.1 9 rfl
      have L10 : L 10 = false := hk.1
      skip
      refine ⟨(by simpa using hsz), Below.setRow hB (by first | exact Nat.le_trans hW0 hp.1 | exact ge_r2 | omega | (have := hB.size; simp at this ⊢; omega)) _, y.rowOther (by first | exact ne_y_r2 | exact Ne.symm ne_r2_y | omega) _, v.rowOther (by first | exact ne_v_r2 | exact Ne.symm ne_r2_v | omega) _, tw.rowOther (by first | exact ne_tw_r2 | exact Ne.symm ne_r2_tw | omega) _, r1.rowOther (by first | exact ne_r1_r2 | exact Ne.symm ne_r2_r1 | omega) _, ?_, x.rowOther (Ne.symm ne_r2_x) _⟩
      rw [show upL L 10 10 = true from rfl]
      exact r2.row _
    exact AllI.nil
   case hV0 => exact fun p q => AllI.nil
   case he =>
   clear hB y v tw r1 r2 x
   rintro p wrrrr ⟨hsz, hB, y, v, tw, r1, r2, x⟩
   replace r1 : blk wrrrr (w.heap.size + 3) (rssc ⟨(stD false X To), X.A, stP V (stD false X To), true⟩) 30 := r1
   replace r2 : blk wrrrr (w.heap.size + 4) (qfn (cmdF V.sp V.f (stP V (stD false X To)))) 28 := r2
   clear lt_y lt_v lt_tw lt_r1 lt_r2 lt_x hsz hW0
   go_wp2_with (fail)
   refine bodyPost_ret (results_cc rfl _ _ _ _ _ _ _ _ _ _ _ _ rfl r1 rfl r2 Tryz.underlying30 rfl (by first | kernel_rfl | (rw [rssc_size]; kernel_rfl)) Tryz.underlying28 rfl (by first | kernel_rfl | (rw [qfn_size]; kernel_rfl))) rfl ?_
   refine ⟨?_, hB⟩
   rfl
theorem rstep_any (X : SSt) (V : SeT) (To : Nat → Int) (w : World) (hk : senseOk V = true) (hD : ∀ i, i < 3 → -4194304 ≤ X.D i ∧ X.D i ≤ 4194304) (hTo : ∀ i, i < 3 → -1099511627776 ≤ To i ∧ To i ≤ 1099511627776) : Calls Tryz.prog 25 #[.agg (rssc X), .agg (sec V), .agg (vfn To)] w fun e w' => e = .returned (.tuple #[.agg (rssc (stX X V X.A To)), .agg (qfn (stC X V To))]) ∧ Below w.heap.size w w' := by
 unfold stX stC
 cases ha : arrB X V with
 | true => exact rstep_t X V To w hk hD hTo ha
 | false => exact rstep_f X V To w hk hD hTo ha
theorem results_cct {P : Program} {fn : Func} {p q u : Tmp} {ty ty2 : TypeId} (h : fn.results = #[.cell p ty, .cell q ty2, .tmp u]) (tmps : Array Value) (w : World) (g g2 : Nat) (t t2 : TypeId) (cs cs2 : Array Value) (fr fr2 : Nat × Nat) (d d2 : TypeDesc)
 (hp : tmps.getD p undef = .pointer (some ⟨g, 0, none⟩)) (hg : w.heap[g]? = some (.cells cs t fr)) (hq : tmps.getD q undef = .pointer (some ⟨g2, 0, none⟩)) (hg2 : w.heap[g2]? = some (.cells cs2 t2 fr2))
 (hu : P.underlying ty = some d) (hd : (match d with | .struct _ | .array _ _ => true | _ => false) = true) (hi : (P.info? ty).map (·.size) = some cs.size)
 (hu2 : P.underlying ty2 = some d2) (hd2 : (match d2 with | .struct _ | .array _ _ => true | _ => false) = true) (hi2 : (P.info? ty2).map (·.size) = some cs2.size) :
 (results fn tmps).run P w = .ok (.tuple #[.agg cs, .agg cs2, tmps.getD u undef]) w := by
 have hp' : tmps[p]?.getD undef = .pointer (some ⟨g, 0, none⟩) := by simpa using hp
 have hq' : tmps[q]?.getD undef = .pointer (some ⟨g2, 0, none⟩) := by simpa using hq
 simp only [results, h]
 simp [Sem.run_bind, hp', hq', asAddr, run_loadVar_row w g t ty cs fr d hg hu hd hi, run_loadVar_row w g2 t2 ty2 cs2 fr2 d2 hg2 hu2 hd2 hi2, Result.andThen]
set_option maxHeartbeats 6000000 in
theorem rrest_no (X : SSt) (V : SeT) (w : World) (hk : senseOk V = false) : Calls Tryz.prog 8 #[.agg (rssc X), .agg (sec V)] w fun e w' => e = .returned (.tuple #[.agg (rssc X), .agg (qfn fun _ => 0), .int .i64 2]) ∧ Below w.heap.size w w' := by
 have RV := Lib.hid (fun w => rsval_any V w)
 rw [hk] at RV
 clear hk
 go_enter Tryz.func8, Tryz.ntmps8
 go_upto_region 1 with (fail)
 simp only [rssc_zero, zero_spd]
 have y : blk ((((w.alloc (.cells (rssc X) 30)).alloc (.cells (sec V) 33)).alloc (.cells (rssc SSt.zero) 30)).alloc (.cells (qfn fun _ => 0) 28)) w.heap.size (rssc X) 30 := (((blk.new _ _ _).alloc _).alloc _).alloc _
 have v : blk ((((w.alloc (.cells (rssc X) 30)).alloc (.cells (sec V) 33)).alloc (.cells (rssc SSt.zero) 30)).alloc (.cells (qfn fun _ => 0) 28)) (w.heap.size + 1) (sec V) 33 := ((blk.new' (by simp)).alloc _).alloc _
 have r1 : blk ((((w.alloc (.cells (rssc X) 30)).alloc (.cells (sec V) 33)).alloc (.cells (rssc SSt.zero) 30)).alloc (.cells (qfn fun _ => 0) 28)) (w.heap.size + 2) (rssc SSt.zero) 30 := (blk.new' (by simp)).alloc _
 have r2 : blk ((((w.alloc (.cells (rssc X) 30)).alloc (.cells (sec V) 33)).alloc (.cells (rssc SSt.zero) 30)).alloc (.cells (qfn fun _ => 0) 28)) (w.heap.size + 3) (qfn fun _ => 0) 28 := blk.new' (by simp)
 have hB : Below w.heap.size w ((((w.alloc (.cells (rssc X) 30)).alloc (.cells (sec V) 33)).alloc (.cells (rssc SSt.zero) 30)).alloc (.cells (qfn fun _ => 0) 28)) := by go_grown
 generalize ((((w.alloc (.cells (rssc X) 30)).alloc (.cells (sec V) 33)).alloc (.cells (rssc SSt.zero) 30)).alloc (.cells (qfn fun _ => 0) 28)) = w0 at *
 go_upto_region 2 with (first | (refine wpList_load_rowG ?hw _ _ rfl _ rfl _ _ _ _ v Tryz.underlying33 rfl ?hi ?_; (case hw => (first | rfl | (simp [Region.wanted, yielded]; done))); (case hi => (first | kernel_rfl | (rw [sec_size]; kernel_rfl)))) | (go_at_call 24; with_reducible refine (RV.out _).mono ?_; rintro e wv ⟨rfl, hb⟩; replace hB := hB.trans (hb.mono hB.size); replace y := y.below hb y.lt; replace v := v.below hb v.lt; replace r1 := r1.below hb r1.lt; replace r2 := r2.below hb r2.lt; clear hb))
 clear RV
 have lt_y := y.lt
 have lt_v := v.lt
 have lt_r1 := r1.lt
 have lt_r2 := r2.lt
 have hW0 : w.heap.size ≤ wv.heap.size := by simpa using hB.size
 apply wp_region_Q 5 [0, 1, 3, 7, 15] [] [_, _, (fun _ => undef), (fun _ => undef), _] (fun p L w' => wv.heap.size ≤ w'.heap.size ∧ Below w.heap.size w w' ∧ blk w' w.heap.size (rssc X) 30 ∧ blk w' (w.heap.size + 1) (sec V) 33 ∧ blk w' (w.heap.size + 2) (bif L 2 then (rssc X) else (rssc SSt.zero)) 30 ∧ blk w' (w.heap.size + 3) (bif L 3 then (qfn (fun _ => 0)) else (qfn fun _ => 0)) 28) _ [(0, 12), (1, 13), (4, 6)] [0, 1, 2, 3, 4]
 case hn => rfl
 case hB => kernel_rfl
 case hds => kernel_rfl
 case hA => (intro p; simp only [putsD, Act.put, sIT, sCZ, sCS, gCZ, gCS]; exact rfl)
 case h0 => exact fun p => ⟨Nat.le_refl _, hB, y, v, r1, r2⟩
 case hmore => exact fun p L w1 w2 ⟨hsz, hB, y, v, r1, r2⟩ hm => ⟨Nat.le_trans hsz hm.size, hB.trans (hm.mono (Nat.le_trans hW0 hsz)), y.below hm y.lt, v.below hm v.lt, r1.below hm r1.lt, r2.below hm r2.lt⟩
 case hs =>
  intro more
  refine sWW ?_ ?_
  ·rintro p L w1 ⟨hsz, hB, y, v, r1, r2⟩ hk
   have L2 : L 2 = false := hk.2.2 2 rfl
   have L3 : L 3 = false := hk.2.2 3 rfl
   first | exact valR_row _ _ rfl _ rfl _ _ y _ Tryz.underlying30 rfl (by first | kernel_rfl | (rw [rssc_size]; kernel_rfl)) rfl | (have hc := y.cellIs (show _[0]? = some _ from rfl); go_simp; exact ⟨rfl, rfl⟩)
  refine AllI.cons ?_ ?_
  ·refine stepI_val 1 rfl (fun p => rfl) ?_ (fun _ _ _ h => h)
   intros; (try simp only [vfn, qfn]); go_simp; exact ⟨rfl, rfl⟩
  refine AllI.cons ?_ ?_
  ·refine stepI_store 2 rfl (fun p => rfl) (fun p => rfl) _ _ _ rfl (fun _ => (w.heap.size + 2)) 0 (fun p => rfl) (fun p => (rssc X)) (fun p => rfl) (fun p => (rssc SSt.zero)) (fun p => (rssc X)) 30 (fun p => rsover _ _) (fun p => by first | (rw [rssc_size, rssc_size]; decide) | simp [rssc_size, rssc_size]) (fun p => by rw [rssc_size]; kernel_rfl) (fun p => rssc_one _) ?_ ?_
   ·rintro p L w1 ⟨hsz, hB, y, v, r1, r2⟩ hk
    have L2 : L 2 = false := hk.1
    have L3 : L 3 = false := hk.2.2 3 rfl
    rw [L2] at r1
    try simp only [cond_true, cond_false] at r1
    exact r1
   ·rintro p L w1 ⟨hsz, hB, y, v, r1, r2⟩ hk
    have L2 : L 2 = false := hk.1
    have L3 : L 3 = false := hk.2.2 3 rfl
    skip
    refine ⟨(by simpa using hsz), Below.setRow hB (by first | exact Nat.le_trans hW0 hp.1 | exact ge_r1 | omega | (have := hB.size; simp at this ⊢; omega)) _, y.rowOther (by first | exact ne_y_r1 | exact Ne.symm ne_r1_y | omega) _, v.rowOther (by first | exact ne_v_r1 | exact Ne.symm ne_r1_v | omega) _, ?_, r2.rowOther (by first | exact ne_r2_r1 | exact Ne.symm ne_r1_r2 | omega) _⟩
    rw [show upL L 2 2 = true from rfl]
    exact r1.row _
  refine AllI.cons ?_ ?_
  ·refine stepI_store 3 rfl (fun p => rfl) (fun p => rfl) _ _ _ rfl (fun _ => (w.heap.size + 3)) 0 (fun p => rfl) (fun p => (qfn (fun _ => 0))) (fun p => congrArg Value.agg zero_spd) (fun p => (qfn fun _ => 0)) (fun p => (qfn (fun _ => 0))) 28 (fun p => over_qq _ _) (fun p => by first | (rw [qfn_size, qfn_size]; decide) | simp [qfn_size, qfn_size]) (fun p => by rw [qfn_size]; kernel_rfl) (fun p => qfn_one _) ?_ ?_
   ·rintro p L w1 ⟨hsz, hB, y, v, r1, r2⟩ hk
    have L2 : L 2 = true := hk.2.1 2 rfl
    have L3 : L 3 = false := hk.1
    rw [L3] at r2
    try simp only [cond_true, cond_false] at r2
    exact r2
   ·rintro p L w1 ⟨hsz, hB, y, v, r1, r2⟩ hk
    have L2 : L 2 = true := hk.2.1 2 rfl
    have L3 : L 3 = false := hk.1
    skip
    refine ⟨(by simpa using hsz), Below.setRow hB (by first | exact Nat.le_trans hW0 hp.1 | exact ge_r2 | omega | (have := hB.size; simp at this ⊢; omega)) _, y.rowOther (by first | exact ne_y_r2 | exact Ne.symm ne_r2_y | omega) _, v.rowOther (by first | exact ne_v_r2 | exact Ne.symm ne_r2_v | omega) _, r1.rowOther (by first | exact ne_r1_r2 | exact Ne.symm ne_r2_r1 | omega) _, ?_⟩
    rw [show upL L 3 3 = true from rfl]
    exact r2.row _
  refine sVV ?_
  exact AllI.nil
 case hV0 => exact fun p q => AllI.nil
 case he =>
 clear hB y v r1 r2
 rintro p wvr ⟨hsz, hB, y, v, r1, r2⟩
 replace r1 : blk wvr (w.heap.size + 2) (rssc X) 30 := r1
 replace r2 : blk wvr (w.heap.size + 3) (qfn (fun _ => 0)) 28 := r2
 clear lt_y lt_v lt_r1 lt_r2 hsz hW0
 go_wp2_with (fail)
 refine bodyPost_ret (results_cct rfl _ _ _ _ _ _ _ _ _ _ _ _ rfl r1 rfl r2 Tryz.underlying30 rfl (by first | kernel_rfl | (rw [rssc_size]; kernel_rfl)) Tryz.underlying28 rfl (by first | kernel_rfl | (rw [qfn_size]; kernel_rfl))) rfl ?_
 refine ⟨?_, hB⟩
 rfl
set_option maxHeartbeats 6000000 in
theorem rrest_ok (X : SSt) (V : SeT) (w : World) (hk : senseOk V = true) (hD : ∀ i, i < 3 → -4194304 ≤ X.D i ∧ X.D i ≤ 4194304) : Calls Tryz.prog 8 #[.agg (rssc X), .agg (sec V)] w fun e w' => e = .returned (.tuple #[.agg (rssc (stX X V (fun _ => 0) (fun _ => 0))), .agg (qfn (stC X V (fun _ => 0))), .int .i64 0]) ∧ Below w.heap.size w w' := by
 have RV := Lib.hid (fun w => rsval_any V w)
 rw [hk] at RV
 have ST := Lib.hid (fun w => rstep_any ⟨X.D, fun _ => 0, X.P, X.g⟩ V (fun _ => 0) w hk hD (fun i hi => ⟨by decide, by decide⟩))
 rw [show stX ⟨X.D, fun _ => 0, X.P, X.g⟩ V (fun _ => 0) (fun _ => 0) = stX X V (fun _ => 0) (fun _ => 0) from rfl, show stC ⟨X.D, fun _ => 0, X.P, X.g⟩ V (fun _ => 0) = stC X V (fun _ => 0) from rfl, ← zero_vec] at ST
 clear hk hD
 generalize stX X V (fun _ => 0) (fun _ => 0) = N at *
 generalize stC X V (fun _ => 0) = C at *
 go_enter Tryz.func8, Tryz.ntmps8
 go_upto_region 1 with (fail)
 simp only [rssc_zero, zero_spd]
 have y : blk ((((w.alloc (.cells (rssc X) 30)).alloc (.cells (sec V) 33)).alloc (.cells (rssc SSt.zero) 30)).alloc (.cells (qfn fun _ => 0) 28)) w.heap.size (rssc X) 30 := (((blk.new _ _ _).alloc _).alloc _).alloc _
 have v : blk ((((w.alloc (.cells (rssc X) 30)).alloc (.cells (sec V) 33)).alloc (.cells (rssc SSt.zero) 30)).alloc (.cells (qfn fun _ => 0) 28)) (w.heap.size + 1) (sec V) 33 := ((blk.new' (by simp)).alloc _).alloc _
 have r1 : blk ((((w.alloc (.cells (rssc X) 30)).alloc (.cells (sec V) 33)).alloc (.cells (rssc SSt.zero) 30)).alloc (.cells (qfn fun _ => 0) 28)) (w.heap.size + 2) (rssc SSt.zero) 30 := (blk.new' (by simp)).alloc _
 have r2 : blk ((((w.alloc (.cells (rssc X) 30)).alloc (.cells (sec V) 33)).alloc (.cells (rssc SSt.zero) 30)).alloc (.cells (qfn fun _ => 0) 28)) (w.heap.size + 3) (qfn fun _ => 0) 28 := blk.new' (by simp)
 have hB : Below w.heap.size w ((((w.alloc (.cells (rssc X) 30)).alloc (.cells (sec V) 33)).alloc (.cells (rssc SSt.zero) 30)).alloc (.cells (qfn fun _ => 0) 28)) := by go_grown
 generalize ((((w.alloc (.cells (rssc X) 30)).alloc (.cells (sec V) 33)).alloc (.cells (rssc SSt.zero) 30)).alloc (.cells (qfn fun _ => 0) 28)) = w0 at *
 go_upto_region 3 with (first | (refine wpList_load_rowG ?hw _ _ rfl _ rfl _ _ _ _ v Tryz.underlying33 rfl ?hi ?_; (case hw => (first | rfl | (simp [Region.wanted, yielded]; done))); (case hi => (first | kernel_rfl | (rw [sec_size]; kernel_rfl)))) | (go_at_call 24; with_reducible refine (RV.out _).mono ?_; rintro e wv ⟨rfl, hb⟩; replace hB := hB.trans (hb.mono hB.size); replace y := y.below hb y.lt; replace v := v.below hb v.lt; replace r1 := r1.below hb r1.lt; replace r2 := r2.below hb r2.lt; clear hb))
 clear RV
 have lt_y := y.lt
 have lt_v := v.lt
 have lt_r1 := r1.lt
 have lt_r2 := r2.lt
 have hW0 : w.heap.size ≤ wv.heap.size := by simpa using hB.size
 apply wp_region_Q 3 [0, 1, 3] [] [_, _, (fun _ => undef)] (fun p L w' => wv.heap.size ≤ w'.heap.size ∧ Below w.heap.size w w' ∧ blk w' w.heap.size (bif L 2 then (rssc ⟨X.D, fun _ => 0, X.P, X.g⟩) else (rssc X)) 30 ∧ blk w' (w.heap.size + 1) (sec V) 33 ∧ blk w' (w.heap.size + 2) (rssc SSt.zero) 30 ∧ blk w' (w.heap.size + 3) (qfn fun _ => 0) 28) _ [(0, 14), (1, 15)] [0, 1, 2]
 case hn => rfl
 case hB => kernel_rfl
 case hds => kernel_rfl
 case hA => (intro p; simp only [putsD, Act.put, sIT, sCZ, sCS, gCZ, gCS]; exact rfl)
 case h0 => exact fun p => ⟨Nat.le_refl _, hB, y, v, r1, r2⟩
 case hmore => exact fun p L w1 w2 ⟨hsz, hB, y, v, r1, r2⟩ hm => ⟨Nat.le_trans hsz hm.size, hB.trans (hm.mono (Nat.le_trans hW0 hsz)), y.below hm y.lt, v.below hm v.lt, r1.below hm r1.lt, r2.below hm r2.lt⟩
 case hs =>
  intro more
  refine AllI.cons ?_ ?_
  ·refine stepI_val 0 rfl (fun p => rfl) ?_ (fun _ _ _ h => h)
   intros; (try simp only [vfn, qfn]); go_simp; exact ⟨rfl, rfl⟩
  refine sVV ?_
  refine AllI.cons ?_ ?_
  ·refine stepI_store 2 rfl (fun p => rfl) (fun p => rfl) _ _ _ rfl (fun _ => w.heap.size) 3 (fun p => rfl) (fun p => (vfn (fun _ => 0))) (fun p => congrArg Value.agg zero_vec) (fun p => (rssc X)) (fun p => (rssc ⟨X.D, fun _ => 0, X.P, X.g⟩)) 30 (fun p => rsover_A _ _) (fun p => by first | (rw [vfn_size, rssc_size]; decide) | simp [vfn_size, rssc_size]) (fun p => by rw [vfn_size]; kernel_rfl) (fun p => vfn_one _) ?_ ?_
   ·rintro p L w1 ⟨hsz, hB, y, v, r1, r2⟩ hk
    have L2 : L 2 = false := hk.1
    rw [L2] at y
    try simp only [cond_true, cond_false] at y
    exact y
   ·rintro p L w1 ⟨hsz, hB, y, v, r1, r2⟩ hk
    have L2 : L 2 = false := hk.1
    skip
    refine ⟨(by simpa using hsz), Below.setRow hB (by first | exact Nat.le_trans hW0 hp.1 | exact ge_y | omega | (have := hB.size; simp at this ⊢; omega)) _, ?_, v.rowOther (by first | exact ne_v_y | exact Ne.symm ne_y_v | omega) _, r1.rowOther (by first | exact ne_r1_y | exact Ne.symm ne_y_r1 | omega) _, r2.rowOther (by first | exact ne_r2_y | exact Ne.symm ne_y_r2 | omega) _⟩
    rw [show upL L 2 2 = true from rfl]
    exact y.row _
  exact AllI.nil
 case hV0 => exact fun p q => AllI.nil
 case he =>
 clear hB y v r1 r2
 rintro p wvr ⟨hsz, hB, y, v, r1, r2⟩
 replace y : blk wvr w.heap.size (rssc ⟨X.D, fun _ => 0, X.P, X.g⟩) 30 := y
 clear lt_y lt_v lt_r1 lt_r2 hsz hW0
 go_upto_region 4 with (fail)
 have lt_y := y.lt
 have lt_v := v.lt
 have lt_r1 := r1.lt
 have lt_r2 := r2.lt
 have hW0 : w.heap.size ≤ wvr.heap.size := by simpa using hB.size
 apply wp_region_Q 11 [0, 1, 3, 7, 15, 31, 63, 127, 255, 511, 1023] [7, 8] [_, _, _, _, _, _, _, (fun p => .pointer (some ⟨p 7, 0, none⟩)), (fun p => .pointer (some ⟨p 8, 0, none⟩)), (fun _ => undef), (fun _ => undef)] (fun p L w' => wvr.heap.size ≤ w'.heap.size ∧ Below w.heap.size w w' ∧ blk w' w.heap.size (rssc ⟨X.D, fun _ => 0, X.P, X.g⟩) 30 ∧ blk w' (w.heap.size + 1) (sec V) 33 ∧ blk w' (w.heap.size + 2) (rssc SSt.zero) 30 ∧ blk w' (w.heap.size + 3) (qfn fun _ => 0) 28 ∧ (L 7 = true → wvr.heap.size ≤ p 7 ∧ blk w' (p 7) (bif L 9 then (rssc N) else (rssc SSt.zero)) 30) ∧ (L 8 = true → wvr.heap.size ≤ p 8 ∧ blk w' (p 8) (bif L 10 then (qfn C) else (qfn fun _ => 0)) 28) ∧ (L 7 = true → L 8 = true → p 7 ≠ p 8)) _ [(0, 17), (1, 18), (2, 19), (3, 20), (4, 16), (5, 21), (6, 22), (7, 7), (8, 8)] [0, 1, 2, 3, 4, 5, 6, 7, 8, 9, 10]
 case hn => rfl
 case hB => kernel_rfl
 case hds => kernel_rfl
 case hA => (intro p; simp only [putsD, Act.put, sIT, sCZ, sCS, gCZ, gCS]; exact rfl)
 case h0 => exact fun p => ⟨Nat.le_refl _, hB, y, v, r1, r2, fun h => absurd h (by decide), fun h => absurd h (by decide), fun h => absurd h (by decide)⟩
 case hmore => exact fun p L w1 w2 ⟨hsz, hB, y, v, r1, r2, h_n, h_c, hne_n_c⟩ hm => ⟨Nat.le_trans hsz hm.size, hB.trans (hm.mono (Nat.le_trans hW0 hsz)), y.below hm y.lt, v.below hm v.lt, r1.below hm r1.lt, r2.below hm r2.lt, fun hl => ⟨(h_n hl).1, (h_n hl).2.below hm (h_n hl).2.lt⟩, fun hl => ⟨(h_c hl).1, (h_c hl).2.below hm (h_c hl).2.lt⟩, hne_n_c⟩
 case hs =>
  intro more
  refine sWW ?_ ?_
  ·rintro p L w1 ⟨hsz, hB, y, v, r1, r2, h_n, h_c, hne_n_c⟩ hk
   have L9 : L 9 = false := hk.2.2 9 rfl
   have L10 : L 10 = false := hk.2.2 10 rfl
   first | exact valR_row _ _ rfl _ rfl _ _ y _ Tryz.underlying30 rfl (by first | kernel_rfl | (rw [rssc_size]; kernel_rfl)) rfl | (have hc := y.cellIs (show _[0]? = some _ from rfl); go_simp; exact ⟨rfl, rfl⟩)
  refine sWW ?_ ?_
  ·rintro p L w1 ⟨hsz, hB, y, v, r1, r2, h_n, h_c, hne_n_c⟩ hk
   have L9 : L 9 = false := hk.2.2 9 rfl
   have L10 : L 10 = false := hk.2.2 10 rfl
   first | exact valR_row _ _ rfl _ rfl _ _ v _ Tryz.underlying33 rfl (by first | kernel_rfl | (rw [sec_size]; kernel_rfl)) rfl | (have hc := v.cellIs (show _[0]? = some _ from rfl); go_simp; exact ⟨rfl, rfl⟩)
  refine AllI.cons ?_ ?_
  ·refine stepI_val 2 rfl (fun p => rfl) ?_ (fun _ _ _ h => h)
   intros; (try simp only [vfn, qfn]); go_simp; exact ⟨rfl, rfl⟩
  refine stepD 3 rfl (fun p => rfl) (fun _ _ _ h => h) more ?_ ?_
  ·rintro p L w1 ⟨hsz, hB, y, v, r1, r2, h_n, h_c, hne_n_c⟩ hk
   go_simp
   refine (ST.out _).mono ?_
   rintro e w2 ⟨rfl, h2⟩
   first | exact ⟨rfl, h2⟩ | (subst h2; exact ⟨rfl, Below.refl _ _⟩)
  iterate 3 (refine sVV ?_)
  refine AllI.cons ?_ ?_
  ·refine stepI_alloc 7 rfl (fun p => rfl) rfl (rssc SSt.zero) 30 (fun p => rfl) ?_ ?_
   ·intro p w1
    go_simp
    first | rfl | rw [rssc_zero]
   rintro p L w1 ⟨hsz, hB, y, v, r1, r2, h_n, h_c, hne_n_c⟩ hk
   have L9 : L 9 = false := hk.2.2 9 rfl
   have L10 : L 10 = false := hk.2.2 10 rfl
   refine ⟨Nat.le_trans hsz (by simp), hB.alloc (Nat.le_trans (by first | exact hW0 | (have := hB.size; simp at this ⊢; omega)) hsz) _, y.alloc _, v.alloc _, r1.alloc _, r2.alloc _, fun _ => ⟨hsz, ?_⟩, fun hl => absurd hl (by rw [show upL L 7 8 = false from hk.2.2 8 rfl]; decide), fun _ hl => absurd hl (by rw [show upL L 7 8 = false from hk.2.2 8 rfl]; decide)⟩
   rw [show upL L 7 9 = false from L9]
   exact blk.new _ _ _
  refine AllI.cons ?_ ?_
  ·refine stepI_alloc 8 rfl (fun p => rfl) rfl (qfn fun _ => 0) 28 (fun p => rfl) ?_ ?_
   ·intro p w1
    go_simp
    first | rfl | rw [zero_spd]
   rintro p L w1 ⟨hsz, hB, y, v, r1, r2, h_n, h_c, hne_n_c⟩ hk
   have L9 : L 9 = false := hk.2.2 9 rfl
   have L10 : L 10 = false := hk.2.2 10 rfl
   refine ⟨Nat.le_trans hsz (by simp), hB.alloc (Nat.le_trans (by first | exact hW0 | (have := hB.size; simp at this ⊢; omega)) hsz) _, y.alloc _, v.alloc _, r1.alloc _, r2.alloc _, fun hl => ⟨(h_n hl).1, (h_n hl).2.alloc _⟩, fun _ => ⟨hsz, ?_⟩, fun hl _ => Nat.ne_of_lt (h_n hl).2.lt⟩
   rw [show upL L 8 10 = false from L10]
   exact blk.new _ _ _
  refine AllI.cons ?_ ?_
  ·refine stepI_store 9 rfl (fun p => rfl) (fun p => rfl) _ _ _ rfl (fun p => p 7) 0 (fun p => rfl) (fun p => (rssc N)) (fun p => rfl) (fun p => (rssc SSt.zero)) (fun p => (rssc N)) 30 (fun p => rsover _ _) (fun p => by first | (rw [rssc_size, rssc_size]; decide) | simp [rssc_size, rssc_size]) (fun p => by rw [rssc_size]; kernel_rfl) (fun p => rssc_one _) ?_ ?_
   ·rintro p L w1 ⟨hsz, hB, y, v, r1, r2, h_n, h_c, hne_n_c⟩ hk
    have L9 : L 9 = false := hk.1
    have L10 : L 10 = false := hk.2.2 10 rfl
    have hh := (h_n (hk.2.1 7 rfl)).2
    rw [L9] at hh
    try simp only [cond_true, cond_false] at hh
    exact hh
   ·rintro p L w1 ⟨hsz, hB, y, v, r1, r2, h_n, h_c, hne_n_c⟩ hk
    have L9 : L 9 = false := hk.1
    have L10 : L 10 = false := hk.2.2 10 rfl
    skip
    have hp := h_n (hk.2.1 7 rfl)
    refine ⟨(by simpa using hsz), Below.setRow hB (by first | exact Nat.le_trans hW0 hp.1 | exact ge_n | omega | (have := hB.size; simp at this ⊢; omega)) _, y.rowOther (by first | exact Nat.ne_of_lt (Nat.lt_of_lt_of_le lt_y hp.1) | omega) _, v.rowOther (by first | exact Nat.ne_of_lt (Nat.lt_of_lt_of_le lt_v hp.1) | omega) _, r1.rowOther (by first | exact Nat.ne_of_lt (Nat.lt_of_lt_of_le lt_r1 hp.1) | omega) _, r2.rowOther (by first | exact Nat.ne_of_lt (Nat.lt_of_lt_of_le lt_r2 hp.1) | omega) _, fun _ => ⟨hp.1, ?_⟩, fun hl => ⟨(h_c hl).1, (h_c hl).2.rowOther (Ne.symm (hne_n_c (hk.2.1 7 rfl) hl)) _⟩, hne_n_c⟩
    rw [show upL L 9 9 = true from rfl]
    exact hp.2.row _
  refine AllI.cons ?_ ?_
  ·refine stepI_store 10 rfl (fun p => rfl) (fun p => rfl) _ _ _ rfl (fun p => p 8) 0 (fun p => rfl) (fun p => (qfn C)) (fun p => rfl) (fun p => (qfn fun _ => 0)) (fun p => (qfn C)) 28 (fun p => over_qq _ _) (fun p => by first | (rw [qfn_size, qfn_size]; decide) | simp [qfn_size, qfn_size]) (fun p => by rw [qfn_size]; kernel_rfl) (fun p => qfn_one _) ?_ ?_
   ·rintro p L w1 ⟨hsz, hB, y, v, r1, r2, h_n, h_c, hne_n_c⟩ hk
    have L9 : L 9 = true := hk.2.1 9 rfl
    have L10 : L 10 = false := hk.1
    have hh := (h_c (hk.2.1 8 rfl)).2
    rw [L10] at hh
    try simp only [cond_true, cond_false] at hh
    exact hh
   ·rintro p L w1 ⟨hsz, hB, y, v, r1, r2, h_n, h_c, hne_n_c⟩ hk
    have L9 : L 9 = true := hk.2.1 9 rfl
    have L10 : L 10 = false := hk.1
    skip
    have hp := h_c (hk.2.1 8 rfl)
    refine ⟨(by simpa using hsz), Below.setRow hB (by first | exact Nat.le_trans hW0 hp.1 | exact ge_c | omega | (have := hB.size; simp at this ⊢; omega)) _, y.rowOther (by first | exact Nat.ne_of_lt (Nat.lt_of_lt_of_le lt_y hp.1) | omega) _, v.rowOther (by first | exact Nat.ne_of_lt (Nat.lt_of_lt_of_le lt_v hp.1) | omega) _, r1.rowOther (by first | exact Nat.ne_of_lt (Nat.lt_of_lt_of_le lt_r1 hp.1) | omega) _, r2.rowOther (by first | exact Nat.ne_of_lt (Nat.lt_of_lt_of_le lt_r2 hp.1) | omega) _, fun hl => ⟨(h_n hl).1, (h_n hl).2.rowOther (hne_n_c hl (hk.2.1 8 rfl)) _⟩, fun _ => ⟨hp.1, ?_⟩, hne_n_c⟩
    rw [show upL L 10 10 = true from rfl]
    exact hp.2.row _
  exact AllI.nil
 case hV0 =>
  intro p q
  refine AllI.cons ?_ ?_
  ·skip
   iterate 11 (refine AllI.cons (by first | exact .inl rfl | (refine .inr ?_; simp only [gCZ, gCS]; done) | exact .inr rfl) ?_)
   exact AllI.nil
  refine AllI.cons ?_ ?_
  ·skip
   iterate 11 (refine AllI.cons (by first | exact .inl rfl | (refine .inr ?_; simp only [gCZ, gCS]; done) | exact .inr rfl) ?_)
   exact AllI.nil
  exact AllI.nil
 case he =>
 clear hB y v r1 r2
 rintro p wvrr ⟨hsz, hB, y, v, r1, r2, h_n, h_c, hne_n_c⟩
 obtain ⟨le_n, n⟩ := h_n rfl
 clear h_n
 obtain ⟨le_c, c⟩ := h_c rfl
 clear h_c
 have ne_n_c : p 7 ≠ p 8 := hne_n_c rfl rfl
 clear hne_n_c
 replace n : blk wvrr (p 7) (rssc N) 30 := n
 replace c : blk wvrr (p 8) (qfn C) 28 := c
 have ne_y_n : w.heap.size ≠ p 7 := Nat.ne_of_lt (Nat.lt_of_lt_of_le lt_y le_n)
 have ne_v_n : (w.heap.size + 1) ≠ p 7 := Nat.ne_of_lt (Nat.lt_of_lt_of_le lt_v le_n)
 have ne_r1_n : (w.heap.size + 2) ≠ p 7 := Nat.ne_of_lt (Nat.lt_of_lt_of_le lt_r1 le_n)
 have ne_r2_n : (w.heap.size + 3) ≠ p 7 := Nat.ne_of_lt (Nat.lt_of_lt_of_le lt_r2 le_n)
 have ge_n : w.heap.size ≤ p 7 := Nat.le_trans hW0 le_n
 have ne_y_c : w.heap.size ≠ p 8 := Nat.ne_of_lt (Nat.lt_of_lt_of_le lt_y le_c)
 have ne_v_c : (w.heap.size + 1) ≠ p 8 := Nat.ne_of_lt (Nat.lt_of_lt_of_le lt_v le_c)
 have ne_r1_c : (w.heap.size + 2) ≠ p 8 := Nat.ne_of_lt (Nat.lt_of_lt_of_le lt_r1 le_c)
 have ne_r2_c : (w.heap.size + 3) ≠ p 8 := Nat.ne_of_lt (Nat.lt_of_lt_of_le lt_r2 le_c)
 have ge_c : w.heap.size ≤ p 8 := Nat.le_trans hW0 le_c
 generalize p 7 = n_b at *
 generalize p 8 = c_b at *
 clear lt_y lt_v lt_r1 lt_r2 hsz hW0 ST
 go_upto_region 5 with (fail)
 have lt_y := y.lt
 have lt_v := v.lt
 have lt_r1 := r1.lt
 have lt_r2 := r2.lt
 have lt_n := n.lt
 have lt_c := c.lt
 have hW0 : w.heap.size ≤ wvrr.heap.size := by simpa using hB.size
 apply wp_region_I 5 [0, 0, 1, 7, 15] [] [_, _, (fun _ => undef), (fun _ => undef), _] (fun p L w' => wvrr.heap.size ≤ w'.heap.size ∧ Below w.heap.size w w' ∧ blk w' w.heap.size (rssc ⟨X.D, fun _ => 0, X.P, X.g⟩) 30 ∧ blk w' (w.heap.size + 1) (sec V) 33 ∧ blk w' (w.heap.size + 2) (bif L 2 then (rssc N) else (rssc SSt.zero)) 30 ∧ blk w' (w.heap.size + 3) (bif L 3 then (qfn C) else (qfn fun _ => 0)) 28 ∧ blk w' n_b (rssc N) 30 ∧ blk w' c_b (qfn C) 28) _ [(0, 23), (1, 24), (4, 6)] [0, 1, 2, 3, 4]
 case hn => rfl
 case hm => kernel_rfl
 case hB => kernel_rfl
 case hds => kernel_rfl
 case hA => (intro p; simp only [putsD, Act.put, sIT, sCZ, sCS, gCZ, gCS]; exact rfl)
 case h0 => exact fun p => ⟨Nat.le_refl _, hB.drew, y.drew, v.drew, r1.drew, r2.drew, n.drew, c.drew⟩
 case hmore => exact fun p L w1 w2 ⟨hsz, hB, y, v, r1, r2, n, c⟩ hm => ⟨Nat.le_trans hsz hm.size, hB.trans (hm.mono (Nat.le_trans hW0 hsz)), y.below hm y.lt, v.below hm v.lt, r1.below hm r1.lt, r2.below hm r2.lt, n.below hm n.lt, c.below hm c.lt⟩
 case hs =>
  intro more
  refine sWW ?_ ?_
  ·rintro p L w1 ⟨hsz, hB, y, v, r1, r2, n, c⟩ hk
   have L2 : L 2 = false := hk.2.2 2 rfl
   have L3 : L 3 = false := hk.2.2 3 rfl
   first | exact valR_row _ _ rfl _ rfl _ _ n _ Tryz.underlying30 rfl (by first | kernel_rfl | (rw [rssc_size]; kernel_rfl)) rfl | (have hc := n.cellIs (show _[0]? = some _ from rfl); go_simp; exact ⟨rfl, rfl⟩)
  refine sWW ?_ ?_
  ·rintro p L w1 ⟨hsz, hB, y, v, r1, r2, n, c⟩ hk
   have L3 : L 3 = false := hk.2.2 3 rfl
   first | exact valR_row _ _ rfl _ rfl _ _ c _ Tryz.underlying28 rfl (by first | kernel_rfl | (rw [qfn_size]; kernel_rfl)) rfl | (have hc := c.cellIs (qfn_get _ (show 0 < 4 by omega)); go_simp; exact ⟨rfl, rfl⟩)
  refine AllI.cons ?_ ?_
  ·refine stepI_store 2 rfl (fun p => rfl) (fun p => rfl) _ _ _ rfl (fun _ => (w.heap.size + 2)) 0 (fun p => rfl) (fun p => (rssc N)) (fun p => rfl) (fun p => (rssc SSt.zero)) (fun p => (rssc N)) 30 (fun p => rsover _ _) (fun p => by first | (rw [rssc_size, rssc_size]; decide) | simp [rssc_size, rssc_size]) (fun p => by rw [rssc_size]; kernel_rfl) (fun p => rssc_one _) ?_ ?_
   ·rintro p L w1 ⟨hsz, hB, y, v, r1, r2, n, c⟩ hk
    have L2 : L 2 = false := hk.1
    have L3 : L 3 = false := hk.2.2 3 rfl
    rw [L2] at r1
    try simp only [cond_true, cond_false] at r1
    exact r1
   ·rintro p L w1 ⟨hsz, hB, y, v, r1, r2, n, c⟩ hk
    have L2 : L 2 = false := hk.1
    have L3 : L 3 = false := hk.2.2 3 rfl
    skip
    refine ⟨(by simpa using hsz), Below.setRow hB (by first | exact Nat.le_trans hW0 hp.1 | exact ge_r1 | omega | (have := hB.size; simp at this ⊢; omega)) _, y.rowOther (by first | exact ne_y_r1 | exact Ne.symm ne_r1_y | omega) _, v.rowOther (by first | exact ne_v_r1 | exact Ne.symm ne_r1_v | omega) _, ?_, r2.rowOther (by first | exact ne_r2_r1 | exact Ne.symm ne_r1_r2 | omega) _, n.rowOther (Ne.symm ne_r1_n) _, c.rowOther (Ne.symm ne_r1_c) _⟩
    rw [show upL L 2 2 = true from rfl]
    exact r1.row _
  refine AllI.cons ?_ ?_
  ·refine stepI_store 3 rfl (fun p => rfl) (fun p => rfl) _ _ _ rfl (fun _ => (w.heap.size + 3)) 0 (fun p => rfl) (fun p => (qfn C)) (fun p => rfl) (fun p => (qfn fun _ => 0)) (fun p => (qfn C)) 28 (fun p => over_qq _ _) (fun p => by first | (rw [qfn_size, qfn_size]; decide) | simp [qfn_size, qfn_size]) (fun p => by rw [qfn_size]; kernel_rfl) (fun p => qfn_one _) ?_ ?_
   ·rintro p L w1 ⟨hsz, hB, y, v, r1, r2, n, c⟩ hk
    have L2 : L 2 = true := hk.2.1 2 rfl
    have L3 : L 3 = false := hk.1
    rw [L3] at r2
    try simp only [cond_true, cond_false] at r2
    exact r2
   ·rintro p L w1 ⟨hsz, hB, y, v, r1, r2, n, c⟩ hk
    have L2 : L 2 = true := hk.2.1 2 rfl
    have L3 : L 3 = false := hk.1
    skip
    refine ⟨(by simpa using hsz), Below.setRow hB (by first | exact Nat.le_trans hW0 hp.1 | exact ge_r2 | omega | (have := hB.size; simp at this ⊢; omega)) _, y.rowOther (by first | exact ne_y_r2 | exact Ne.symm ne_r2_y | omega) _, v.rowOther (by first | exact ne_v_r2 | exact Ne.symm ne_r2_v | omega) _, r1.rowOther (by first | exact ne_r1_r2 | exact Ne.symm ne_r2_r1 | omega) _, ?_, n.rowOther (Ne.symm ne_r2_n) _, c.rowOther (Ne.symm ne_r2_c) _⟩
    rw [show upL L 3 3 = true from rfl]
    exact r2.row _
  refine sVV ?_
  exact AllI.nil
 case hV0 => exact fun p q => AllI.nil
 case he =>
 clear hB y v r1 r2 n c
 rintro p wvrrr ⟨hsz, hB, y, v, r1, r2, n, c⟩
 replace r1 : blk wvrrr (w.heap.size + 2) (rssc N) 30 := r1
 replace r2 : blk wvrrr (w.heap.size + 3) (qfn C) 28 := r2
 clear lt_y lt_v lt_r1 lt_r2 lt_n lt_c hsz hW0
 go_wp2_with (fail)
 refine bodyPost_ret (results_cct rfl _ _ _ _ _ _ _ _ _ _ _ _ rfl r1 rfl r2 Tryz.underlying30 rfl (by first | kernel_rfl | (rw [rssc_size]; kernel_rfl)) Tryz.underlying28 rfl (by first | kernel_rfl | (rw [qfn_size]; kernel_rfl))) rfl ?_
 refine ⟨?_, hB⟩
 rfl
theorem rrest_any (X : SSt) (V : SeT) (w : World) (k : SSI X) : Calls Tryz.prog 8 #[.agg (rssc X), .agg (sec V)] w fun e w' => e = .returned (.tuple #[.agg (rssc (restX X V)), .agg (qfn (restC X V)), .int .i64 (okE (senseOk V))]) ∧ Below w.heap.size w w' := by
 unfold restX restC okE
 cases hk : senseOk V with
 | true => exact rrest_ok X V w hk k.d
 | false => exact rrest_no X V w hk
end Go.Proofs.YtkmelddejdikgaaGreat
