/-
  Square roots and norms by the specification's own numbers (package perigeeref01): Sqrt, Hypot.
-/
import Derived.Test.YthkklhfnmodpnaaRootB
import Derived.Test.YthkklhfnmodpnaaAlg
import Derived.Test.YthkklhfnmodpnaaRefR
set_option linter.unusedSimpArgs false
set_option linter.unusedVariables false
namespace Go.Proofs.Ythkklhfnmodpnaa
open Go.RowKit PM Dt
set_option maxRecDepth 100000 in
set_option maxHeartbeats 2000000 in
theorem rhypot_any (xs : List Int) (v : Value) (w : World) (hv : Ints w v xs) (hx : ∀ k, k < xs.length → I64 (xs.getD k 0)) :
    Calls Try.prog 76 #[v] w fun e w' => e = .returned (.tuple #[.int .i64 (if 8 < xs.length then 0 else fitV (hypQ xs)), .int .i64 (if 8 < xs.length then 2 else fitE (hypQ xs))]) ∧ Below w.heap.size w w' := by
  have hlenI : ∀ a c n, v = .slice a n c → n = xs.length := by
    rintro a c n rfl
    rcases hv with ⟨h, a', c', hh⟩ | ⟨_, b, off, cap, hh, _⟩
    · cases hh; rw [h]; rfl
    · cases hh; rfl
  obtain ⟨va, vc, n, rfl⟩ : ∃ a c n, v = .slice a n c := by
    rcases hv with ⟨h, a', c', hh⟩ | ⟨_, b, off, cap, hh, _⟩
    · exact ⟨_, _, _, hh⟩
    · exact ⟨_, _, _, hh⟩
  have hn := hlenI _ _ _ rfl
  clear hlenI
  by_cases h8 : 8 < n
  · rw [if_pos (hn ▸ h8), if_pos (hn ▸ h8)]
    have hd : decide (8 < n) = true := decide_eq_true h8
    have hd' : decide ((8 : Int) < (n : Int)) = true := decide_eq_true (by omega)
    clear hv hx hn
    go_enter Try.func76, Try.ntmps76
    go_wp2_with (fail)
    go_ret2
    exact ⟨rfl, Below.refl _ _⟩
  · rw [if_neg (hn ▸ h8), if_neg (hn ▸ h8)]
    have hd : decide (8 < n) = false := decide_eq_false h8
    have hd' : decide ((8 : Int) < (n : Int)) = false := decide_eq_false (by omega)
    have HN := Lib.hid hn
    have HV := Lib.hid hv
    have HX := Lib.hid hx
    have HTOT := Lib.hid (sqs_take_le xs)
    have HTOT2 := Lib.hid (sqs_le xs 8 (by omega) hx)
    have hn8 : n ≤ 8 := by omega
    clear hn hv hx h8
    go_enter Try.func76, Try.ntmps76
    go_wp2_with (fail)
    rw [zero_eq_big]
    go_loopg [5] n (fun g iv wr => ∃ k : Nat, g + k = n ∧ iv = .int .i64 k ∧ blk wr w.heap.size (bigC (sqs (xs.take k))) 76 ∧ Below w.heap.size w wr)
    case atStart => exact ⟨0, rfl, rfl, by rw [List.take_zero, sqs_nil]; exact blk.new _ _ _, by go_grown⟩
    case round =>
      obtain ⟨k, hk, rfl, p, hB⟩ := hrel
      by_cases hkn : k < n
      · have hdk : decide ((k : Int) < (n : Int)) = true := decide_eq_true (by omega)
        have hdk' : decide (k < n) = true := decide_eq_true (by omega)
        obtain ⟨b, off, rfl, hbw, hcell⟩ : ∃ b off, va = some ⟨b, off, none⟩ ∧ b < w.heap.size ∧ w.cell? ⟨b, off + k, none⟩ = some (.int .i64 (xs.getD k 0)) := by
          rcases HV.out with ⟨h, _⟩ | ⟨_, b, off, cap, hh, hbw, hc⟩
          · have := HN.out; rw [h] at this; simp at this; omega
          · cases hh; exact ⟨b, off, rfl, hbw, hc k hkn⟩
        have hI := HX.out k (by have := HN.out; omega)
        have hsx := sqs_take_succ xs k (by have := HN.out; omega)
        obtain ⟨x, hxx⟩ : ∃ x, x = xs.getD k 0 := ⟨_, rfl⟩
        rw [← hxx] at hI hsx hcell
        obtain ⟨A, hA⟩ : ∃ A, A = x.natAbs := ⟨_, rfl⟩
        rw [← hA] at hsx
        obtain ⟨S, hS⟩ : ∃ S, S = sqs (xs.take k) := ⟨_, rfl⟩
        rw [← hS] at hsx p
        have HSX := Lib.hid hsx
        have HA := Lib.hid hA
        have HA8 := Lib.hid (show A < 65536 ^ 8 by rw [hA]; have := hI.1; have := hI.2; omega)
        have HI1 := Lib.hid hI.1
        have HI2 := Lib.hid hI.2
        have HCELL := Lib.hid hcell
        have HBW := Lib.hid hbw
        have hw3 : IntKind.i64.wrap ((k : Int) + 1) = ((k + 1 : Nat) : Int) := by rw [IntKind.wrap_i64]; omega
        have cellIn : Hid (∀ w1, Below w.heap.size w w1 → w1.cell? ⟨b, off + k, none⟩ = some (.int .i64 x)) := by
          intro w1 h1
          rw [h1.cell (p := ⟨b, off + k, none⟩) HBW.out]; exact HCELL.out
        clear hI hsx hcell hxx hA hS hbw
        go_upto_region 7 with (fail)
        refine wp_region_X 13 (by kernel_rfl) (by kernel_rfl) ?_
        replace p := p.drew
        replace hB : Below w.heap.size w wr.drew := hB.drew
        generalize wr.drew = wo at *
        refine wpX_take 0 (.agg (bigC S)) rfl rfl (by kernel_rfl) (fun w1 h1 => detR_row _ _ rfl _ rfl _ _ _ (p.below h1 p.lt) Try.underlying76 rfl (by rw [bigC_size]; kernel_rfl) rfl) ?_
        simp only [Act.put, List.setIfInBounds_toArray, List.set_cons_zero, List.set_cons_succ]
        refine wpX_take 1 (.slice (some ⟨b, off, none⟩) n vc) rfl rfl (by kernel_rfl) (fun w1 h1 => by go_simp; exact ⟨rfl, Below.refl _ _⟩) ?_
        simp only [Act.put, List.setIfInBounds_toArray, List.set_cons_zero, List.set_cons_succ]
        refine wpX_take 2 (.int .i64 k) rfl rfl (by kernel_rfl) (fun w1 h1 => by go_simp; exact ⟨rfl, Below.refl _ _⟩) ?_
        simp only [Act.put, List.setIfInBounds_toArray, List.set_cons_zero, List.set_cons_succ]
        refine wpX_take 3 (.pointer (some ⟨b, off + k, none⟩)) rfl rfl (by kernel_rfl) (fun w1 h1 => by go_simp; exact ⟨rfl, Below.refl _ _⟩) ?_
        simp only [Act.put, List.setIfInBounds_toArray, List.set_cons_zero, List.set_cons_succ]
        refine wpX_take 4 (.int .i64 x) rfl rfl (by kernel_rfl) (fun w1 h1 => by have hc := cellIn.out w1 (hB.trans (h1.mono (by have := p.lt; omega))); go_simp; exact ⟨rfl, Below.refl _ _⟩) ?_
        simp only [Act.put, List.setIfInBounds_toArray, List.set_cons_zero, List.set_cons_succ]
        refine wpX_take 5 (.agg (bigC A)) rfl rfl (by kernel_rfl) (fun w1 h1 => ?_) ?_
        · go_simp
          refine (abs_any x _ HI1.out HI2.out).mono ?_
          rintro e w2 ⟨rfl, h2⟩
          exact ⟨by rw [← HA.out], h2⟩
        simp only [Act.put, List.setIfInBounds_toArray, List.set_cons_zero, List.set_cons_succ]
        refine wpX_take 6 (.slice (some ⟨b, off, none⟩) n vc) rfl rfl (by kernel_rfl) (fun w1 h1 => by go_simp; exact ⟨rfl, Below.refl _ _⟩) ?_
        simp only [Act.put, List.setIfInBounds_toArray, List.set_cons_zero, List.set_cons_succ]
        refine wpX_take 7 (.int .i64 k) rfl rfl (by kernel_rfl) (fun w1 h1 => by go_simp; exact ⟨rfl, Below.refl _ _⟩) ?_
        simp only [Act.put, List.setIfInBounds_toArray, List.set_cons_zero, List.set_cons_succ]
        refine wpX_take 8 (.pointer (some ⟨b, off + k, none⟩)) rfl rfl (by kernel_rfl) (fun w1 h1 => by go_simp; exact ⟨rfl, Below.refl _ _⟩) ?_
        simp only [Act.put, List.setIfInBounds_toArray, List.set_cons_zero, List.set_cons_succ]
        refine wpX_take 9 (.int .i64 x) rfl rfl (by kernel_rfl) (fun w1 h1 => by have hc := cellIn.out w1 (hB.trans (h1.mono (by have := p.lt; omega))); go_simp; exact ⟨rfl, Below.refl _ _⟩) ?_
        simp only [Act.put, List.setIfInBounds_toArray, List.set_cons_zero, List.set_cons_succ]
        refine wpX_take 10 (.agg (bigC A)) rfl rfl (by kernel_rfl) (fun w1 h1 => ?_) ?_
        · go_simp
          refine (abs_any x _ HI1.out HI2.out).mono ?_
          rintro e w2 ⟨rfl, h2⟩
          exact ⟨by rw [← HA.out], h2⟩
        simp only [Act.put, List.setIfInBounds_toArray, List.set_cons_zero, List.set_cons_succ]
        refine wpX_take 11 (.agg (bigC (A * A))) rfl rfl (by kernel_rfl) (fun w1 h1 => ?_) ?_
        · go_simp
          refine (times_any A A _ HA8.out HA8.out).mono ?_
          rintro e w2 ⟨rfl, h2⟩
          exact ⟨rfl, h2⟩
        simp only [Act.put, List.setIfInBounds_toArray, List.set_cons_zero, List.set_cons_succ]
        refine wpX_take 12 (.agg (bigC (S + A * A))) rfl rfl (by kernel_rfl) (fun w1 h1 => ?_) ?_
        · go_simp
          refine (add_any S (A * A) _).mono ?_
          rintro e w2 ⟨rfl, h2⟩
          exact ⟨rfl, h2⟩
        simp only [Act.put, List.setIfInBounds_toArray, List.set_cons_zero, List.set_cons_succ]
        refine wpX_tail (by kernel_rfl) (fun wt ht => ?_)
        simp only [List.drop_succ_cons, List.drop_zero]
        replace hB := hB.trans (ht.mono (by have := p.lt; omega))
        replace p := p.below ht p.lt
        clear ht
        go_wp2_with (refine wpList_store_row rfl _ _ _ rfl _ rfl _ rfl _ _ p (by rw [bigC_size]; kernel_rfl) (by rw [bigC_size, bigC_size]) (fnC_one _) ?_)
        go_roundg (n - (k + 1))
        case rel => exact ⟨k + 1, by omega, rfl, by rw [HSX.out]; exact p.row _, Below.setRow hB (Nat.le_refl _) _⟩
        case measure => omega
      · obtain rfl : k = n := by omega
        have hdk : decide ((k : Int) < (k : Int)) = false := decide_eq_false (by omega)
        have hdk' : decide (k < k) = false := decide_eq_false (by omega)
        have hs2 : sqs (xs.take k) = sqs xs := by rw [HN.out, List.take_length]
        rw [hs2] at p
        have HR := Lib.hid (show sqs xs < 5444517870735015415413993718908291383296 from Nat.lt_of_le_of_lt HTOT2.out (by decide))
        obtain ⟨r, hr⟩ : ∃ r, r = isqrt (sqs xs) := ⟨_, rfl⟩
        have HRR := Lib.hid hr
        have HR17 := Lib.hid (show r < 65536 ^ 17 by
          rw [hr]
          exact (isqrt_lt (Nat.lt_trans HR.out (by decide))).2 (Nat.lt_trans HR.out (by decide)))
        have HQ : Hid (hypQ xs = sgn false r) := by show hypQ xs = _; unfold hypQ sgn; rw [← hr]; rfl
        clear hs2 hr
        go_wp2_with (first
          | (refine wpList_load_row rfl _ _ rfl _ rfl _ _ _ _ p Try.underlying76 rfl (by rw [bigC_size]; kernel_rfl) ?_)
          | (go_at_call 111; refine (rootB_any (sqs xs) _ HR.out).mono ?_; rintro e w1 ⟨rfl, hb⟩; rw [← HRR.out]; replace hB := hB.trans (hb.mono (by have := p.lt; omega)); clear hb)
          | (go_at_call 96; refine (rsigned_any r false _ HR17.out).mono ?_; rintro e w1 ⟨rfl, hb⟩; replace hB := hB.trans (hb.mono hB.size); clear hb))
        go_ret2
        exact ⟨ret2I (by rw [HQ.out]) (by rw [HQ.out]), hB⟩
end Go.Proofs.Ythkklhfnmodpnaa
