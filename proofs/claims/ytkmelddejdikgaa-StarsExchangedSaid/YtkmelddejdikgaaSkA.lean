/-
  Sights: directions, and whether sights are valid.
-/
import Derived.Test.YtkmelddejdikgaaVecF
import Derived.Test.YtkmelddejdikgaaArg
import Derived.Test.YtkmelddejdikgaaInv
import Derived.Test.YtkmelddejdikgaaLawVec
set_option linter.unusedSimpArgs false
set_option linter.unusedVariables false
namespace Go.Proofs.Ytkmelddejdikgaa
open Go.RowKit PM Dt
theorem valR_range {P : Program} {op : Oper} {a : Act} {w : World} (ty : TypeId) (x : Operand) (ho : op.op = .load ty x) (b o : Nat) (hx : a.eval x = .pointer (some ⟨b, o, none⟩))
    (C : List Value) (oo j0 : Nat) (hr : w.rangeAt b oo C) (hoo : o = oo + j0) (cs : Array Value) (hc : ∀ j, j < cs.size → C[j0 + j]? = cs[j]?) (d : TypeDesc)
    (hu : P.underlying ty = some d) (hd : d.isRow = true) (hi : (P.info? ty).map (·.size) = some cs.size) {v : Value} (hv : v = .agg cs) : ValR v w ((execOp a.eval op).run P w) := by
  have hr2 : w.rangeAt b o cs.toList := fun j u hj => by
    have h1 : j < cs.toList.length := (List.getElem?_eq_some_iff.1 hj).1
    have h2 : cs[j]? = some u := by simpa using hj
    have h3 := hr (j0 + j) u ((hc j (by simpa using h1)).trans h2)
    rw [hoo, Nat.add_assoc]
    exact h3
  unfold execOp
  simp only [ho, hx, Instr.loadAt, Instr.sureAddr, Sem.run_bind, Sem.run_pure, Result.andThen_ok, run_loadVar_mid w b o ty cs.toList d hr2 hu hd (by simpa using hi)]
  exact ⟨by rw [hv], rfl⟩
theorem range_below {B : Nat} {w w' : World} {b o : Nat} {C : List Value} (h : w.rangeAt b o C) (hb : Below B w w') (hl : b < B) : w'.rangeAt b o C := fun j u hj => by
  rw [hb.cell (p := ⟨b, o + j, none⟩) hl]; exact h j u hj
theorem c3' {n : Nat} {P : Nat → Prop} (h : n < 3) (h0 : P 0) (h1 : P 1) (h2 : P 2) : P n := by
  match n, h with
  | 0, _ => exact h0
  | 1, _ => exact h1
  | 2, _ => exact h2
/-- A sight: the star, as it is seen, the weight. -/
structure Sgt where
  a : Nat → Int
  b : Nat → Int
  m : Int
def Sgt.zero : Sgt := ⟨fun _ => 0, fun _ => 0, 0⟩
def sgc (s : Sgt) : Array Value := #[.int .i64 (s.a 0), .int .i64 (s.a 1), .int .i64 (s.a 2), .int .i64 (s.b 0), .int .i64 (s.b 1), .int .i64 (s.b 2), .int .i64 s.m]
theorem sgc_size (s : Sgt) : (sgc s).size = 7 := rfl
theorem sgc_one (s : Sgt) : (sgc s).all (·.oneCell') = true := by simp [sgc, Value.oneCell']
theorem sgc_zero : (#[.int .i64 0, .int .i64 0, .int .i64 0, .int .i64 0, .int .i64 0, .int .i64 0, .int .i64 0] : Array Value) = sgc Sgt.zero := rfl
theorem sgover (s u : Sgt) : over (sgc s) 0 (sgc u).toList = sgc u := over_full rfl
theorem sg_a (s : Sgt) (j : Nat) (hj : j < (vfn s.a).size) : (sgc s)[0 + j]? = (vfn s.a)[j]? := by
  rw [vfn_size] at hj
  rw [vfn_get _ hj]
  exact c3' (P := fun j => (sgc s)[0 + j]? = some (.int .i64 (s.a j))) hj rfl rfl rfl
theorem sg_b (s : Sgt) (j : Nat) (hj : j < (vfn s.b).size) : (sgc s)[3 + j]? = (vfn s.b)[j]? := by
  rw [vfn_size] at hj
  rw [vfn_get _ hj]
  exact c3' (P := fun j => (sgc s)[3 + j]? = some (.int .i64 (s.b j))) hj rfl rfl rfl
theorem sg_L (s : Sgt) (j : Nat) (hj : j < (sgc s).size) : (sgc s).toList[0 + j]? = (sgc s)[j]? := by rw [Nat.zero_add, Array.getElem?_toList]
theorem sg_aL (s : Sgt) (j : Nat) (hj : j < (vfn s.a).size) : (sgc s).toList[0 + j]? = (vfn s.a)[j]? := by rw [Array.getElem?_toList]; exact sg_a s j hj
theorem sg_bL (s : Sgt) (j : Nat) (hj : j < (vfn s.b).size) : (sgc s).toList[3 + j]? = (vfn s.b)[j]? := by rw [Array.getElem?_toList]; exact sg_b s j hj
/-- Is a vector a direction? -/
def dirB (f : Nat → Int) : Bool := (normE f == 0) && (decide (1073741760 ≤ normV f) && decide (normV f ≤ 1073741888))
def sgOk (s : Sgt) : Bool := dirB s.a && (dirB s.b && (decide (1 ≤ s.m) && decide (s.m ≤ 65535)))
def valS (S : Nat → Sgt) (n : Nat) : Bool := decide (0 < n) && (decide (n ≤ 16) && (List.range n).all fun k => sgOk (S k))
theorem valS_of {S : Nat → Sgt} {n : Nat} (h : ∀ k, k < n → sgOk (S k) = true) : valS S n = (decide (0 < n) && decide (n ≤ 16)) := by
  unfold valS
  rw [show ((List.range n).all fun k => sgOk (S k)) = true from List.all_eq_true.2 fun k hk => h k (List.mem_range.1 hk)]
  simp
theorem valS_no {S : Nat → Sgt} {n : Nat} {k : Nat} (hk : k < n) (h : sgOk (S k) = false) : valS S n = false := by
  unfold valS
  rw [show ((List.range n).all fun k => sgOk (S k)) = false from by
    cases hq : (List.range n).all fun k => sgOk (S k) with
    | false => rfl
    | true => rw [List.all_eq_true] at hq; have := hq k (List.mem_range.2 hk); rw [h] at this; cases this]
  simp
set_option maxRecDepth 100000 in
set_option maxHeartbeats 4000000 in
theorem sdir_any (f : Nat → Int) (w : World) : Calls Try.prog 105 #[.agg (vfn f)] w fun e w' => e = .returned (.bool (dirB f)) ∧ Below w.heap.size w w' := by
  have NO := Lib.hid (fun w => vnorm_any f w)
  unfold dirB
  generalize normV f = N at *
  generalize normE f = E at *
  obtain ⟨b0, h0⟩ : ∃ b, (E == 0) = b := ⟨_, rfl⟩
  obtain ⟨b1, h1⟩ : ∃ b, decide (1073741760 ≤ N) = b := ⟨_, rfl⟩
  obtain ⟨b2, h2⟩ : ∃ b, decide (N ≤ 1073741888) = b := ⟨_, rfl⟩
  rw [h0, h1, h2]
  have h0' : decide (E = 0) = b0 := by rw [← h0]; by_cases h : E = 0 <;> simp [h]
  cases b0 <;> cases b1 <;> cases b2
  all_goals
    go_enter Try.func105, Try.ntmps105
    go_upto_region 1 with (fail)
    have v : blk (w.alloc (.cells (vfn f) 31)) w.heap.size (vfn f) 31 := blk.new _ _ _
    have hB : Below w.heap.size w (w.alloc (.cells (vfn f) 31)) := by go_grown
    generalize (w.alloc (.cells (vfn f) 31)) = w0 at *
    go_wp2_with (first
      | (refine wpList_load_rowG ?hw _ _ rfl _ rfl _ _ _ _ v Try.underlying31 rfl ?hi ?_; (case hw => (first | rfl | (simp [Region.wanted, yielded]; done))); (case hi => (first | kernel_rfl | (rw [vfn_size]; kernel_rfl))))
      | (go_at_call 36; with_reducible refine (NO.out _).mono ?_; rintro e w1 ⟨rfl, hb⟩; replace hB := hB.trans (hb.mono hB.size); replace v := v.below hb v.lt; clear hb))
    go_ret
    exact ⟨by first | rfl | simp, hB⟩
set_option maxRecDepth 100000 in
set_option maxHeartbeats 20000000 in
theorem svalid_any (S : Nat → Sgt) (a : Option Addr) (n c : Nat) (w : World) (el : ElemsA w a n 7 (fun k => (sgc (S k)).toList)) (hn : n ≤ 1000) : Calls Try.prog 45 #[.slice a n c] w fun e w' => e = .returned (.bool (valS S n)) ∧ Below w.heap.size w w' := by
  replace el := Lib.hid el
  obtain ⟨R, hR⟩ : ∃ R, valS S n = R := ⟨_, rfl⟩
  rw [hR]
  replace hR := Lib.hid hR
  have hn2 : (n : Int) ≤ 1000 := by omega
  have hB : Below w.heap.size w w := Below.refl _ _
  go_enter Try.func45, Try.ntmps45
  go_wp2_with (fail)
  go_loopg [7] n (fun g_ iv wr => ∃ K : Nat, g_ + K = n ∧ iv = .int .i64 K ∧ Hid (∀ j, j < K → sgOk (S j) = true) ∧ Below w.heap.size w wr)
  case atStart => exact ⟨0, by omega, rfl, fun j hj => by omega, hB⟩
  case round =>
    clear hB
    obtain ⟨K, hK, rfl, hall, hB⟩ := hrel
    by_cases hKn : K < n
    · have hdK : decide ((K : Int) < n) = true := decide_eq_true (by omega)
      have hdK' : decide (K < n) = true := decide_eq_true hKn
      have hk3 : (K : Int) < n := by omega
      have hk0 : (0 : Int) ≤ K := by omega
      have hwK : IntKind.i64.wrap ((K : Int) + 1) = ((K + 1 : Nat) : Int) := by rw [IntKind.wrap_i64]; omega
      obtain ⟨eb, eo, rfl, hEl, hE⟩ := el.out K hKn
      replace hE : w.rangeAt eb (eo + K * 7) ((sgc (S K)).toList) := hE
      obtain ⟨y, hy⟩ : ∃ y, S K = y := ⟨_, rfl⟩
      rw [hy] at hE
      replace hy := Lib.hid hy
      have D1 := Lib.hid (fun w => sdir_any y.a w)
      have D2 := Lib.hid (fun w => sdir_any y.b w)
      have hq : Hid (sgOk y = (dirB y.a && (dirB y.b && (decide (1 ≤ y.m) && decide (y.m ≤ 65535))))) := rfl
      generalize dirB y.a = b1 at *
      generalize dirB y.b = b2 at *
      go_upto_region 3 with (fail)
      have hW0 : w.heap.size ≤ wr.heap.size := by have := hB.size; first | exact this | simpa using this
      apply wp_region_Q 4 [0, 1, 3, 7] [2] [_, _, (fun p => .pointer (some ⟨p 2, 0, none⟩)), (fun _ => undef)] (fun p L w' => wr.heap.size ≤ w'.heap.size ∧ Below w.heap.size w w' ∧ (L 2 = true → wr.heap.size ≤ p 2 ∧ blk w' (p 2) (bif L 3 then (sgc y) else (sgc Sgt.zero)) 36)) _ [(0, 9), (1, 10), (2, 4)] [0, 1, 2, 3]
      case hn => rfl
      case hB => kernel_rfl
      case hds => kernel_rfl
      case hA => (intro p; simp only [putsD, Act.put, List.setIfInBounds_toArray, List.set_cons_zero, List.set_cons_succ, List.getD_cons_zero, List.getD_cons_succ]; exact rfl)
      case h0 => exact fun p => ⟨Nat.le_refl _, hB, fun h => absurd h (by decide)⟩
      case hmore => exact fun p L w1 w2 ⟨hsz, hB, h_s⟩ hm => ⟨Nat.le_trans hsz hm.size, hB.trans (hm.mono (Nat.le_trans hW0 hsz)), fun hl => ⟨(h_s hl).1, (h_s hl).2.below hm (h_s hl).2.lt⟩⟩
      case hs =>
        intro more
        refine stepV _ rfl rfl (fun _ _ _ h => h) (by intros; go_simp; exact ⟨rfl, rfl⟩) ?_
        refine stepV 1 rfl rfl (fun _ _ _ h => h) ?_ ?_
        · rintro p L w1 ⟨hsz, hB, h_s⟩ hk
          have hr := range_below hE hB hEl
          exact valR_range _ _ rfl _ _ rfl _ (eo + K * 7) 0 hr (by first | rfl | omega) (sgc y) (sg_L y) _ Try.underlying36 rfl (by rw [sgc_size]; kernel_rfl) rfl
        refine AllI.cons ?_ ?_
        · refine stepI_alloc 2 rfl (fun p => rfl) rfl (sgc Sgt.zero) 36 (fun p => rfl) ?_ ?_
          · intro p w1
            go_simp
            first | rfl | rw [sgc_zero]
          rintro p L w1 ⟨hsz, hB, h_s⟩ hk
          have L3 : L 3 = false := hk.2.2 3 rfl
          refine ⟨Nat.le_trans hsz (by simp), hB.alloc (Nat.le_trans (by first | exact hW0 | (have := hB.size; simp at this ⊢; omega)) hsz) _, fun _ => ⟨hsz, ?_⟩⟩
          rw [show upL L 2 3 = false from L3]
          exact blk.new _ _ _
        refine AllI.cons ?_ ?_
        · refine stepI_store 3 rfl (fun p => rfl) (fun p => rfl) _ _ _ rfl (fun p => p 2) 0 (fun p => rfl) (fun p => (sgc y)) (fun p => rfl) (fun p => (sgc Sgt.zero)) (fun p => (sgc y)) 36 (fun p => sgover _ _) (fun p => by first | (rw [sgc_size, sgc_size]; decide) | simp [sgc_size, sgc_size]) (fun p => by rw [sgc_size]; kernel_rfl) (fun p => sgc_one _) ?_ ?_
          · rintro p L w1 ⟨hsz, hB, h_s⟩ hk
            have L3 : L 3 = false := hk.1
            have hh := (h_s (hk.2.1 2 rfl)).2
            rw [L3] at hh
            try simp only [cond_true, cond_false] at hh
            exact hh
          · rintro p L w1 ⟨hsz, hB, h_s⟩ hk
            have L3 : L 3 = false := hk.1
            skip
            have hp := h_s (hk.2.1 2 rfl)
            refine ⟨(by simpa using hsz), Below.setRow hB (by first | exact Nat.le_trans hW0 hp.1 | exact ge_s | omega | (have := hB.size; simp at this ⊢; omega)) _, fun _ => ⟨hp.1, ?_⟩⟩
            rw [show upL L 3 3 = true from rfl]
            exact hp.2.row _
        exact AllI.nil
      case hV0 =>
        intro p q
        refine AllI.cons ?_ ?_
        · skip
          iterate 4 (refine AllI.cons (by first | exact .inl rfl | (refine .inr ?_; simp only [List.getD_cons_zero, List.getD_cons_succ]; done) | exact .inr rfl) ?_)
          exact AllI.nil
        exact AllI.nil
      case he =>
      clear hB 
      rintro p wrr ⟨hsz, hB, h_s⟩
      obtain ⟨le_s, s⟩ := h_s rfl
      clear h_s
      replace s : blk wrr (p 2) (sgc y) 36 := s
      have ge_s : w.heap.size ≤ p 2 := Nat.le_trans hW0 le_s
      generalize p 2 = s_b at *
      clear hsz hW0
      clear hE
      go_upto_region 4 with (fail)
      cases b1
      · skip
        have hF : R = false := by rw [← hR.out]; exact valS_no hKn (by rw [hy.out, hq.out]; first | rfl | simp [sgOk])
        subst hF
        clear hR hq
        have lt_s := s.lt
        have hW0 : w.heap.size ≤ wrr.heap.size := by have := hB.size; first | exact this | simpa using this
        apply wp_region_Q 20 [0, 1, 3, 7, 15, 31, 63, 127, 255, 511, 1023, 2047, 4095, 8191, 16383, 32767, 65535, 131071, 262143, 524287] [] [_, _, _, _, _, _, _, _, _, _, _, _, _, _, _, _, _, _, _, _] (fun p L w' => wrr.heap.size ≤ w'.heap.size ∧ Below w.heap.size w w' ∧ blk w' s_b (sgc y) 36) _ [(0, 11), (1, 12), (2, 13), (3, 14), (4, 15), (5, 16), (6, 17), (7, 18), (8, 19), (9, 20), (10, 21), (11, 22), (12, 23), (13, 24), (14, 25), (15, 26), (16, 27), (17, 28), (18, 29), (19, 30)] [0, 1, 2, 3, 4, 5, 6, 7, 8, 9, 10, 11, 12, 13, 14, 15, 16, 17, 18, 19]
        case hn => rfl
        case hB => kernel_rfl
        case hds => kernel_rfl
        case hA => (intro p; simp only [putsD, Act.put, List.setIfInBounds_toArray, List.set_cons_zero, List.set_cons_succ, List.getD_cons_zero, List.getD_cons_succ]; exact rfl)
        case h0 => exact fun p => ⟨Nat.le_refl _, hB, s⟩
        case hmore => exact fun p L w1 w2 ⟨hsz, hB, s⟩ hm => ⟨Nat.le_trans hsz hm.size, hB.trans (hm.mono (Nat.le_trans hW0 hsz)), s.below hm s.lt⟩
        case hs =>
          intro more
          refine stepV _ rfl rfl (fun _ _ _ h => h) (by intros; go_simp; exact ⟨rfl, rfl⟩) ?_
          refine stepV 1 rfl rfl (fun _ _ _ h => h) ?_ ?_
          · rintro p L w1 ⟨hsz, hB, s⟩ hk
            exact valR_part _ _ rfl _ 0 rfl _ _ s (vfn y.a) (sg_a y) _ Try.underlying31 rfl (by rw [vfn_size]; kernel_rfl) rfl
          refine stepD 2 rfl (fun p => rfl) (fun _ _ _ h => h) more ?_ ?_
          · rintro p L w1 ⟨hsz, hB, s⟩ hk
            go_simp
            refine (D1.out _).mono ?_
            rintro e w2 ⟨rfl, h2⟩
            first | exact ⟨rfl, h2⟩ | (subst h2; exact ⟨rfl, Below.refl _ _⟩)
          iterate 2 (refine stepV _ rfl rfl (fun _ _ _ h => h) (by intros; go_simp; exact ⟨rfl, rfl⟩) ?_)
          iterate 4 (refine AllI.cons (stepI_off _ rfl (fun p => rfl) (fun p => rfl) (fun _ _ _ h => h)) ?_)
          iterate 2 (refine stepV _ rfl rfl (fun _ _ _ h => h) (by intros; go_simp; exact ⟨rfl, rfl⟩) ?_)
          iterate 3 (refine AllI.cons (stepI_off _ rfl (fun p => rfl) (fun p => rfl) (fun _ _ _ h => h)) ?_)
          iterate 2 (refine stepV _ rfl rfl (fun _ _ _ h => h) (by intros; go_simp; exact ⟨rfl, rfl⟩) ?_)
          iterate 3 (refine AllI.cons (stepI_off _ rfl (fun p => rfl) (fun p => rfl) (fun _ _ _ h => h)) ?_)
          refine stepV _ rfl rfl (fun _ _ _ h => h) (by intros; go_simp; exact ⟨rfl, rfl⟩) ?_
          exact AllI.nil
        case hV0 => exact fun p q => AllI.nil
        case he =>
        clear hB s
        rintro p wrrr ⟨hsz, hB, s⟩
        clear lt_s
        clear hsz hW0
        go_wp2_with (fail)
        go_ret
        exact ⟨rfl, hB⟩
      cases b2
      · skip
        have hF : R = false := by rw [← hR.out]; exact valS_no hKn (by rw [hy.out, hq.out]; first | rfl | simp [sgOk])
        subst hF
        clear hR hq
        have lt_s := s.lt
        have hW0 : w.heap.size ≤ wrr.heap.size := by have := hB.size; first | exact this | simpa using this
        apply wp_region_Q 20 [0, 1, 3, 7, 15, 31, 63, 127, 255, 511, 1023, 2047, 4095, 8191, 16383, 32767, 65535, 131071, 262143, 524287] [] [_, _, _, _, _, _, _, _, _, _, _, _, _, _, _, _, _, _, _, _] (fun p L w' => wrr.heap.size ≤ w'.heap.size ∧ Below w.heap.size w w' ∧ blk w' s_b (sgc y) 36) _ [(0, 11), (1, 12), (2, 13), (3, 14), (4, 15), (5, 16), (6, 17), (7, 18), (8, 19), (9, 20), (10, 21), (11, 22), (12, 23), (13, 24), (14, 25), (15, 26), (16, 27), (17, 28), (18, 29), (19, 30)] [0, 1, 2, 3, 4, 5, 6, 7, 8, 9, 10, 11, 12, 13, 14, 15, 16, 17, 18, 19]
        case hn => rfl
        case hB => kernel_rfl
        case hds => kernel_rfl
        case hA => (intro p; simp only [putsD, Act.put, List.setIfInBounds_toArray, List.set_cons_zero, List.set_cons_succ, List.getD_cons_zero, List.getD_cons_succ]; exact rfl)
        case h0 => exact fun p => ⟨Nat.le_refl _, hB, s⟩
        case hmore => exact fun p L w1 w2 ⟨hsz, hB, s⟩ hm => ⟨Nat.le_trans hsz hm.size, hB.trans (hm.mono (Nat.le_trans hW0 hsz)), s.below hm s.lt⟩
        case hs =>
          intro more
          refine stepV _ rfl rfl (fun _ _ _ h => h) (by intros; go_simp; exact ⟨rfl, rfl⟩) ?_
          refine stepV 1 rfl rfl (fun _ _ _ h => h) ?_ ?_
          · rintro p L w1 ⟨hsz, hB, s⟩ hk
            exact valR_part _ _ rfl _ 0 rfl _ _ s (vfn y.a) (sg_a y) _ Try.underlying31 rfl (by rw [vfn_size]; kernel_rfl) rfl
          refine stepD 2 rfl (fun p => rfl) (fun _ _ _ h => h) more ?_ ?_
          · rintro p L w1 ⟨hsz, hB, s⟩ hk
            go_simp
            refine (D1.out _).mono ?_
            rintro e w2 ⟨rfl, h2⟩
            first | exact ⟨rfl, h2⟩ | (subst h2; exact ⟨rfl, Below.refl _ _⟩)
          iterate 2 (refine stepV _ rfl rfl (fun _ _ _ h => h) (by intros; go_simp; exact ⟨rfl, rfl⟩) ?_)
          refine stepVg _ rfl (fun p => (by first | rfl | (simp [Region.wanted, yielded]; done))) (fun _ _ _ h => h) (by intros; go_simp; exact ⟨rfl, rfl⟩) ?_
          refine stepVg 6 rfl (fun p => (by first | rfl | (simp [Region.wanted, yielded]; done))) (fun _ _ _ h => h) ?_ ?_
          · rintro p L w1 ⟨hsz, hB, s⟩ hk
            exact valR_part _ _ rfl _ 3 rfl _ _ s (vfn y.b) (sg_b y) _ Try.underlying31 rfl (by rw [vfn_size]; kernel_rfl) rfl
          refine stepD 7 rfl (fun p => (by first | rfl | (simp [Region.wanted, yielded]; done))) (fun _ _ _ h => h) more ?_ ?_
          · rintro p L w1 ⟨hsz, hB, s⟩ hk
            go_simp
            refine (D2.out _).mono ?_
            rintro e w2 ⟨rfl, h2⟩
            first | exact ⟨rfl, h2⟩ | (subst h2; exact ⟨rfl, Below.refl _ _⟩)
          refine stepVg _ rfl (fun p => (by first | rfl | (simp [Region.wanted, yielded]; done))) (fun _ _ _ h => h) (by intros; go_simp; exact ⟨rfl, rfl⟩) ?_
          iterate 2 (refine stepV _ rfl rfl (fun _ _ _ h => h) (by intros; go_simp; exact ⟨rfl, rfl⟩) ?_)
          iterate 3 (refine AllI.cons (stepI_off _ rfl (fun p => rfl) (fun p => rfl) (fun _ _ _ h => h)) ?_)
          iterate 2 (refine stepV _ rfl rfl (fun _ _ _ h => h) (by intros; go_simp; exact ⟨rfl, rfl⟩) ?_)
          iterate 3 (refine AllI.cons (stepI_off _ rfl (fun p => rfl) (fun p => rfl) (fun _ _ _ h => h)) ?_)
          refine stepV _ rfl rfl (fun _ _ _ h => h) (by intros; go_simp; exact ⟨rfl, rfl⟩) ?_
          exact AllI.nil
        case hV0 => exact fun p q => AllI.nil
        case he =>
        clear hB s
        rintro p wrrr ⟨hsz, hB, s⟩
        clear lt_s
        clear hsz hW0
        go_wp2_with (fail)
        go_ret
        exact ⟨rfl, hB⟩
      by_cases m1 : y.m < 1
      · have d1 : decide (y.m < 1) = true := decide_eq_true m1
        have d1b : decide (1 ≤ y.m) = false := decide_eq_false (by omega)
        have hF : R = false := by rw [← hR.out]; exact valS_no hKn (by rw [hy.out, hq.out]; first | rfl | simp [d1b])
        subst hF
        clear hR hq
        have lt_s := s.lt
        have hW0 : w.heap.size ≤ wrr.heap.size := by have := hB.size; first | exact this | simpa using this
        apply wp_region_Q 20 [0, 1, 3, 7, 15, 31, 63, 127, 255, 511, 1023, 2047, 4095, 8191, 16383, 32767, 65535, 131071, 262143, 524287] [] [_, _, _, _, _, _, _, _, _, _, _, _, _, _, _, _, _, _, _, _] (fun p L w' => wrr.heap.size ≤ w'.heap.size ∧ Below w.heap.size w w' ∧ blk w' s_b (sgc y) 36) _ [(0, 11), (1, 12), (2, 13), (3, 14), (4, 15), (5, 16), (6, 17), (7, 18), (8, 19), (9, 20), (10, 21), (11, 22), (12, 23), (13, 24), (14, 25), (15, 26), (16, 27), (17, 28), (18, 29), (19, 30)] [0, 1, 2, 3, 4, 5, 6, 7, 8, 9, 10, 11, 12, 13, 14, 15, 16, 17, 18, 19]
        case hn => rfl
        case hB => kernel_rfl
        case hds => kernel_rfl
        case hA => (intro p; simp only [putsD, Act.put, List.setIfInBounds_toArray, List.set_cons_zero, List.set_cons_succ, List.getD_cons_zero, List.getD_cons_succ]; exact rfl)
        case h0 => exact fun p => ⟨Nat.le_refl _, hB, s⟩
        case hmore => exact fun p L w1 w2 ⟨hsz, hB, s⟩ hm => ⟨Nat.le_trans hsz hm.size, hB.trans (hm.mono (Nat.le_trans hW0 hsz)), s.below hm s.lt⟩
        case hs =>
          intro more
          refine stepV _ rfl rfl (fun _ _ _ h => h) (by intros; go_simp; exact ⟨rfl, rfl⟩) ?_
          refine stepV 1 rfl rfl (fun _ _ _ h => h) ?_ ?_
          · rintro p L w1 ⟨hsz, hB, s⟩ hk
            exact valR_part _ _ rfl _ 0 rfl _ _ s (vfn y.a) (sg_a y) _ Try.underlying31 rfl (by rw [vfn_size]; kernel_rfl) rfl
          refine stepD 2 rfl (fun p => rfl) (fun _ _ _ h => h) more ?_ ?_
          · rintro p L w1 ⟨hsz, hB, s⟩ hk
            go_simp
            refine (D1.out _).mono ?_
            rintro e w2 ⟨rfl, h2⟩
            first | exact ⟨rfl, h2⟩ | (subst h2; exact ⟨rfl, Below.refl _ _⟩)
          iterate 2 (refine stepV _ rfl rfl (fun _ _ _ h => h) (by intros; go_simp; exact ⟨rfl, rfl⟩) ?_)
          refine stepVg _ rfl (fun p => (by first | rfl | (simp [Region.wanted, yielded]; done))) (fun _ _ _ h => h) (by intros; go_simp; exact ⟨rfl, rfl⟩) ?_
          refine stepVg 6 rfl (fun p => (by first | rfl | (simp [Region.wanted, yielded]; done))) (fun _ _ _ h => h) ?_ ?_
          · rintro p L w1 ⟨hsz, hB, s⟩ hk
            exact valR_part _ _ rfl _ 3 rfl _ _ s (vfn y.b) (sg_b y) _ Try.underlying31 rfl (by rw [vfn_size]; kernel_rfl) rfl
          refine stepD 7 rfl (fun p => (by first | rfl | (simp [Region.wanted, yielded]; done))) (fun _ _ _ h => h) more ?_ ?_
          · rintro p L w1 ⟨hsz, hB, s⟩ hk
            go_simp
            refine (D2.out _).mono ?_
            rintro e w2 ⟨rfl, h2⟩
            first | exact ⟨rfl, h2⟩ | (subst h2; exact ⟨rfl, Below.refl _ _⟩)
          refine stepVg _ rfl (fun p => (by first | rfl | (simp [Region.wanted, yielded]; done))) (fun _ _ _ h => h) (by intros; go_simp; exact ⟨rfl, rfl⟩) ?_
          iterate 2 (refine stepV _ rfl rfl (fun _ _ _ h => h) (by intros; go_simp; exact ⟨rfl, rfl⟩) ?_)
          refine stepVg _ rfl (fun p => (by first | rfl | (simp [Region.wanted, yielded]; done))) (fun _ _ _ h => h) (by intros; go_simp; exact ⟨rfl, rfl⟩) ?_
          refine stepVg 12 rfl (fun p => (by first | rfl | (simp [Region.wanted, yielded]; done))) (fun _ _ _ h => h) ?_ ?_
          · rintro p L w1 ⟨hsz, hB, s⟩ hk
            have hc : w1.cell? ⟨s_b, 6, none⟩ = some (.int .i64 y.m) := s.cellIs rfl
            go_simp
            exact ⟨rfl, rfl⟩
          refine stepVg _ rfl (fun p => (by first | rfl | (simp [Region.wanted, yielded]; done))) (fun _ _ _ h => h) (by intros; go_simp; exact ⟨rfl, rfl⟩) ?_
          iterate 2 (refine stepV _ rfl rfl (fun _ _ _ h => h) (by intros; go_simp; exact ⟨rfl, rfl⟩) ?_)
          iterate 3 (refine AllI.cons (stepI_off _ rfl (fun p => rfl) (fun p => rfl) (fun _ _ _ h => h)) ?_)
          refine stepV _ rfl rfl (fun _ _ _ h => h) (by intros; go_simp; exact ⟨rfl, rfl⟩) ?_
          exact AllI.nil
        case hV0 => exact fun p q => AllI.nil
        case he =>
        clear hB s
        rintro p wrrr ⟨hsz, hB, s⟩
        clear lt_s
        clear hsz hW0
        go_wp2_with (fail)
        go_ret
        exact ⟨rfl, hB⟩
      have d1 : decide (y.m < 1) = false := decide_eq_false m1
      have d1b : decide (1 ≤ y.m) = true := decide_eq_true (by omega)
      by_cases m2 : 65535 < y.m
      · have d2 : decide (65535 < y.m) = true := decide_eq_true m2
        have d2b : decide (y.m ≤ 65535) = false := decide_eq_false (by omega)
        have hF : R = false := by rw [← hR.out]; exact valS_no hKn (by rw [hy.out, hq.out]; first | rfl | simp [d2b])
        subst hF
        clear hR hq
        have lt_s := s.lt
        have hW0 : w.heap.size ≤ wrr.heap.size := by have := hB.size; first | exact this | simpa using this
        apply wp_region_Q 20 [0, 1, 3, 7, 15, 31, 63, 127, 255, 511, 1023, 2047, 4095, 8191, 16383, 32767, 65535, 131071, 262143, 524287] [] [_, _, _, _, _, _, _, _, _, _, _, _, _, _, _, _, _, _, _, _] (fun p L w' => wrr.heap.size ≤ w'.heap.size ∧ Below w.heap.size w w' ∧ blk w' s_b (sgc y) 36) _ [(0, 11), (1, 12), (2, 13), (3, 14), (4, 15), (5, 16), (6, 17), (7, 18), (8, 19), (9, 20), (10, 21), (11, 22), (12, 23), (13, 24), (14, 25), (15, 26), (16, 27), (17, 28), (18, 29), (19, 30)] [0, 1, 2, 3, 4, 5, 6, 7, 8, 9, 10, 11, 12, 13, 14, 15, 16, 17, 18, 19]
        case hn => rfl
        case hB => kernel_rfl
        case hds => kernel_rfl
        case hA => (intro p; simp only [putsD, Act.put, List.setIfInBounds_toArray, List.set_cons_zero, List.set_cons_succ, List.getD_cons_zero, List.getD_cons_succ]; exact rfl)
        case h0 => exact fun p => ⟨Nat.le_refl _, hB, s⟩
        case hmore => exact fun p L w1 w2 ⟨hsz, hB, s⟩ hm => ⟨Nat.le_trans hsz hm.size, hB.trans (hm.mono (Nat.le_trans hW0 hsz)), s.below hm s.lt⟩
        case hs =>
          intro more
          refine stepV _ rfl rfl (fun _ _ _ h => h) (by intros; go_simp; exact ⟨rfl, rfl⟩) ?_
          refine stepV 1 rfl rfl (fun _ _ _ h => h) ?_ ?_
          · rintro p L w1 ⟨hsz, hB, s⟩ hk
            exact valR_part _ _ rfl _ 0 rfl _ _ s (vfn y.a) (sg_a y) _ Try.underlying31 rfl (by rw [vfn_size]; kernel_rfl) rfl
          refine stepD 2 rfl (fun p => rfl) (fun _ _ _ h => h) more ?_ ?_
          · rintro p L w1 ⟨hsz, hB, s⟩ hk
            go_simp
            refine (D1.out _).mono ?_
            rintro e w2 ⟨rfl, h2⟩
            first | exact ⟨rfl, h2⟩ | (subst h2; exact ⟨rfl, Below.refl _ _⟩)
          iterate 2 (refine stepV _ rfl rfl (fun _ _ _ h => h) (by intros; go_simp; exact ⟨rfl, rfl⟩) ?_)
          refine stepVg _ rfl (fun p => (by first | rfl | (simp [Region.wanted, yielded]; done))) (fun _ _ _ h => h) (by intros; go_simp; exact ⟨rfl, rfl⟩) ?_
          refine stepVg 6 rfl (fun p => (by first | rfl | (simp [Region.wanted, yielded]; done))) (fun _ _ _ h => h) ?_ ?_
          · rintro p L w1 ⟨hsz, hB, s⟩ hk
            exact valR_part _ _ rfl _ 3 rfl _ _ s (vfn y.b) (sg_b y) _ Try.underlying31 rfl (by rw [vfn_size]; kernel_rfl) rfl
          refine stepD 7 rfl (fun p => (by first | rfl | (simp [Region.wanted, yielded]; done))) (fun _ _ _ h => h) more ?_ ?_
          · rintro p L w1 ⟨hsz, hB, s⟩ hk
            go_simp
            refine (D2.out _).mono ?_
            rintro e w2 ⟨rfl, h2⟩
            first | exact ⟨rfl, h2⟩ | (subst h2; exact ⟨rfl, Below.refl _ _⟩)
          refine stepVg _ rfl (fun p => (by first | rfl | (simp [Region.wanted, yielded]; done))) (fun _ _ _ h => h) (by intros; go_simp; exact ⟨rfl, rfl⟩) ?_
          iterate 2 (refine stepV _ rfl rfl (fun _ _ _ h => h) (by intros; go_simp; exact ⟨rfl, rfl⟩) ?_)
          refine stepVg _ rfl (fun p => (by first | rfl | (simp [Region.wanted, yielded]; done))) (fun _ _ _ h => h) (by intros; go_simp; exact ⟨rfl, rfl⟩) ?_
          refine stepVg 12 rfl (fun p => (by first | rfl | (simp [Region.wanted, yielded]; done))) (fun _ _ _ h => h) ?_ ?_
          · rintro p L w1 ⟨hsz, hB, s⟩ hk
            have hc : w1.cell? ⟨s_b, 6, none⟩ = some (.int .i64 y.m) := s.cellIs rfl
            go_simp
            exact ⟨rfl, rfl⟩
          refine stepVg _ rfl (fun p => (by first | rfl | (simp [Region.wanted, yielded]; done))) (fun _ _ _ h => h) (by intros; go_simp; exact ⟨rfl, rfl⟩) ?_
          iterate 2 (refine stepV _ rfl rfl (fun _ _ _ h => h) (by intros; go_simp; exact ⟨rfl, rfl⟩) ?_)
          refine stepVg _ rfl (fun p => (by first | rfl | (simp [Region.wanted, yielded]; done))) (fun _ _ _ h => h) (by intros; go_simp; exact ⟨rfl, rfl⟩) ?_
          refine stepVg 17 rfl (fun p => (by first | rfl | (simp [Region.wanted, yielded]; done))) (fun _ _ _ h => h) ?_ ?_
          · rintro p L w1 ⟨hsz, hB, s⟩ hk
            have hc : w1.cell? ⟨s_b, 6, none⟩ = some (.int .i64 y.m) := s.cellIs rfl
            go_simp
            exact ⟨rfl, rfl⟩
          refine stepVg _ rfl (fun p => (by first | rfl | (simp [Region.wanted, yielded]; done))) (fun _ _ _ h => h) (by intros; go_simp; exact ⟨rfl, rfl⟩) ?_
          refine stepV _ rfl rfl (fun _ _ _ h => h) (by intros; go_simp; exact ⟨rfl, rfl⟩) ?_
          exact AllI.nil
        case hV0 => exact fun p q => AllI.nil
        case he =>
        clear hB s
        rintro p wrrr ⟨hsz, hB, s⟩
        clear lt_s
        clear hsz hW0
        go_wp2_with (fail)
        go_ret
        exact ⟨rfl, hB⟩
      have d2 : decide (65535 < y.m) = false := decide_eq_false m2
      replace m1 : 1 ≤ y.m := by omega
      replace m2 : y.m ≤ 65535 := by omega
      have lt_s := s.lt
      have hW0 : w.heap.size ≤ wrr.heap.size := by have := hB.size; first | exact this | simpa using this
      apply wp_region_Q 20 [0, 1, 3, 7, 15, 31, 63, 127, 255, 511, 1023, 2047, 4095, 8191, 16383, 32767, 65535, 131071, 262143, 524287] [] [_, _, _, _, _, _, _, _, _, _, _, _, _, _, _, _, _, _, _, _] (fun p L w' => wrr.heap.size ≤ w'.heap.size ∧ Below w.heap.size w w' ∧ blk w' s_b (sgc y) 36) _ [(0, 11), (1, 12), (2, 13), (3, 14), (4, 15), (5, 16), (6, 17), (7, 18), (8, 19), (9, 20), (10, 21), (11, 22), (12, 23), (13, 24), (14, 25), (15, 26), (16, 27), (17, 28), (18, 29), (19, 30)] [0, 1, 2, 3, 4, 5, 6, 7, 8, 9, 10, 11, 12, 13, 14, 15, 16, 17, 18, 19]
      case hn => rfl
      case hB => kernel_rfl
      case hds => kernel_rfl
      case hA => (intro p; simp only [putsD, Act.put, List.setIfInBounds_toArray, List.set_cons_zero, List.set_cons_succ, List.getD_cons_zero, List.getD_cons_succ]; exact rfl)
      case h0 => exact fun p => ⟨Nat.le_refl _, hB, s⟩
      case hmore => exact fun p L w1 w2 ⟨hsz, hB, s⟩ hm => ⟨Nat.le_trans hsz hm.size, hB.trans (hm.mono (Nat.le_trans hW0 hsz)), s.below hm s.lt⟩
      case hs =>
        intro more
        refine stepV _ rfl rfl (fun _ _ _ h => h) (by intros; go_simp; exact ⟨rfl, rfl⟩) ?_
        refine stepV 1 rfl rfl (fun _ _ _ h => h) ?_ ?_
        · rintro p L w1 ⟨hsz, hB, s⟩ hk
          exact valR_part _ _ rfl _ 0 rfl _ _ s (vfn y.a) (sg_a y) _ Try.underlying31 rfl (by rw [vfn_size]; kernel_rfl) rfl
        refine stepD 2 rfl (fun p => rfl) (fun _ _ _ h => h) more ?_ ?_
        · rintro p L w1 ⟨hsz, hB, s⟩ hk
          go_simp
          refine (D1.out _).mono ?_
          rintro e w2 ⟨rfl, h2⟩
          first | exact ⟨rfl, h2⟩ | (subst h2; exact ⟨rfl, Below.refl _ _⟩)
        iterate 2 (refine stepV _ rfl rfl (fun _ _ _ h => h) (by intros; go_simp; exact ⟨rfl, rfl⟩) ?_)
        refine stepVg _ rfl (fun p => (by first | rfl | (simp [Region.wanted, yielded]; done))) (fun _ _ _ h => h) (by intros; go_simp; exact ⟨rfl, rfl⟩) ?_
        refine stepVg 6 rfl (fun p => (by first | rfl | (simp [Region.wanted, yielded]; done))) (fun _ _ _ h => h) ?_ ?_
        · rintro p L w1 ⟨hsz, hB, s⟩ hk
          exact valR_part _ _ rfl _ 3 rfl _ _ s (vfn y.b) (sg_b y) _ Try.underlying31 rfl (by rw [vfn_size]; kernel_rfl) rfl
        refine stepD 7 rfl (fun p => (by first | rfl | (simp [Region.wanted, yielded]; done))) (fun _ _ _ h => h) more ?_ ?_
        · rintro p L w1 ⟨hsz, hB, s⟩ hk
          go_simp
          refine (D2.out _).mono ?_
          rintro e w2 ⟨rfl, h2⟩
          first | exact ⟨rfl, h2⟩ | (subst h2; exact ⟨rfl, Below.refl _ _⟩)
        refine stepVg _ rfl (fun p => (by first | rfl | (simp [Region.wanted, yielded]; done))) (fun _ _ _ h => h) (by intros; go_simp; exact ⟨rfl, rfl⟩) ?_
        iterate 2 (refine stepV _ rfl rfl (fun _ _ _ h => h) (by intros; go_simp; exact ⟨rfl, rfl⟩) ?_)
        refine stepVg _ rfl (fun p => (by first | rfl | (simp [Region.wanted, yielded]; done))) (fun _ _ _ h => h) (by intros; go_simp; exact ⟨rfl, rfl⟩) ?_
        refine stepVg 12 rfl (fun p => (by first | rfl | (simp [Region.wanted, yielded]; done))) (fun _ _ _ h => h) ?_ ?_
        · rintro p L w1 ⟨hsz, hB, s⟩ hk
          have hc : w1.cell? ⟨s_b, 6, none⟩ = some (.int .i64 y.m) := s.cellIs rfl
          go_simp
          exact ⟨rfl, rfl⟩
        refine stepVg _ rfl (fun p => (by first | rfl | (simp [Region.wanted, yielded]; done))) (fun _ _ _ h => h) (by intros; go_simp; exact ⟨rfl, rfl⟩) ?_
        iterate 2 (refine stepV _ rfl rfl (fun _ _ _ h => h) (by intros; go_simp; exact ⟨rfl, rfl⟩) ?_)
        refine stepVg _ rfl (fun p => (by first | rfl | (simp [Region.wanted, yielded]; done))) (fun _ _ _ h => h) (by intros; go_simp; exact ⟨rfl, rfl⟩) ?_
        refine stepVg 17 rfl (fun p => (by first | rfl | (simp [Region.wanted, yielded]; done))) (fun _ _ _ h => h) ?_ ?_
        · rintro p L w1 ⟨hsz, hB, s⟩ hk
          have hc : w1.cell? ⟨s_b, 6, none⟩ = some (.int .i64 y.m) := s.cellIs rfl
          go_simp
          exact ⟨rfl, rfl⟩
        refine stepVg _ rfl (fun p => (by first | rfl | (simp [Region.wanted, yielded]; done))) (fun _ _ _ h => h) (by intros; go_simp; exact ⟨rfl, rfl⟩) ?_
        refine stepV _ rfl rfl (fun _ _ _ h => h) (by intros; go_simp; exact ⟨rfl, rfl⟩) ?_
        exact AllI.nil
      case hV0 => exact fun p q => AllI.nil
      case he =>
      clear hB s
      rintro p wrrr ⟨hsz, hB, s⟩
      clear lt_s
      clear hsz hW0
      go_wp2_with (fail)
      go_roundg (n - (K + 1))
      case rel => exact ⟨K + 1, by omega, rfl, fun j hj => by
        by_cases h : j < K
        · exact hall.out j h
        · obtain rfl : j = K := by omega
          rw [hy.out, hq.out]; simp [m1, m2], hB⟩
      case measure => omega
    · obtain rfl : K = n := by omega
      have hdK : decide ((K : Int) < K) = false := decide_eq_false (by omega)
      have hdK' : decide (K < K) = false := decide_eq_false (by omega)
      have e0 := valS_of hall.out
      rw [hR.out] at e0
      clear hR
      obtain ⟨c0, h0⟩ : ∃ b, decide (0 < K) = b := ⟨_, rfl⟩
      obtain ⟨c1, h1⟩ : ∃ b, decide (K ≤ 16) = b := ⟨_, rfl⟩
      have h0' : decide ((0 : Int) < K) = c0 := by rw [← h0]; by_cases h : 0 < K <;> simp [h]
      have h1' : decide ((K : Int) ≤ 16) = c1 := by rw [← h1]; by_cases h : K ≤ 16 <;> simp [h] <;> omega
      rw [h0, h1] at e0
      subst e0
      clear hall
      cases c0 <;> cases c1
      all_goals
        go_wp2_with (fail)
        go_ret
        exact ⟨by first | rfl | simp, hB⟩
end Go.Proofs.Ytkmelddejdikgaa
