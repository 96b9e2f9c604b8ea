/-
  The examples of chapter 25.
-/
import Derived.Test.YtnkjbdfhdenbcaaInv
import Derived.Test.YtnkjbdfhdenbcaaOrbW
import Derived.Test.YtnkjbdfhdenbcaaOrbK
import Derived.Test.YtnkjbdfhdenbcaaWinE
set_option linter.unusedSimpArgs false
set_option linter.unusedVariables false
namespace Go.Proofs.Ytnkjbdfhdenbcaa
open Go.RowKit PM Dt
theorem zero_orb : #[Value.int .i64 0, .int .i64 0, .int .i64 0, .int .u32 0, .int .u32 0, .int .u32 0, .int .u32 0, .int .i64 0] = ofn fun _ => 0 := by unfold ofn; rfl
theorem zero_stn : #[Value.int .u32 0, .int .u32 0, .int .i64 0] = stn fun _ => 0 := by unfold stn; rfl
theorem over_o (F G : Nat → Int) : over (ofn F) 0 (ofn G).toList = ofn G := over_full rfl
theorem over_s (F G : Nat → Int) : over (stn F) 0 (stn G).toList = stn G := over_full rfl
theorem over_v' (F G : Nat → Int) : over (vfn F) 0 (vfn G).toList = vfn G := by unfold vfn; rfl
theorem set_t : (ofn osm).setIfInBounds 5 (.int .u32 1073741824) = ofn osmt := by unfold ofn; rfl
theorem set_n : (ofn osm).setIfInBounds 4 (.int .u32 1073741824) = ofn osmn := by unfold ofn; rfl
def ostb : Nat → Int := fun i => if i = 0 then 1073741825 else 0
theorem ostb_cells : #[Value.int .u32 1073741825, .int .u32 0, .int .i64 0] = stn ostb := by unfold stn; rfl
theorem SS_ostb : SS ostb := ⟨⟨by decide, by decide⟩, ⟨by decide, by decide⟩, ⟨by decide, by decide⟩⟩
theorem ok_w1 : winL osm ost0 3 14 = [] ∧ winE osm ost0 3 14 = 0 := by
  have h : winOk osm ost0 3 14 := by decide +kernel
  unfold winL winE
  rw [if_pos h, if_pos h]
  refine ⟨?_, rfl⟩
  have t0 : tick osm ost0 3 0 = [] := rfl
  have t1 : tick osm ost0 3 1 = [] := (tick_no (show viewB osm ost0 (3 + ((0 : Nat) : Int)) = false from vw3)).trans t0
  have t2 : tick osm ost0 3 2 = [] := (tick_no (show viewB osm ost0 (3 + ((1 : Nat) : Int)) = false from vw4)).trans t1
  have t3 : tick osm ost0 3 3 = [] := (tick_no (show viewB osm ost0 (3 + ((2 : Nat) : Int)) = false from vw5)).trans t2
  have t4 : tick osm ost0 3 4 = [] := (tick_no (show viewB osm ost0 (3 + ((3 : Nat) : Int)) = false from vw6)).trans t3
  have t5 : tick osm ost0 3 5 = [] := (tick_no (show viewB osm ost0 (3 + ((4 : Nat) : Int)) = false from vw7)).trans t4
  have t6 : tick osm ost0 3 6 = [] := (tick_no (show viewB osm ost0 (3 + ((5 : Nat) : Int)) = false from vw8)).trans t5
  have t7 : tick osm ost0 3 7 = [] := (tick_no (show viewB osm ost0 (3 + ((6 : Nat) : Int)) = false from vw9)).trans t6
  have t8 : tick osm ost0 3 8 = [] := (tick_no (show viewB osm ost0 (3 + ((7 : Nat) : Int)) = false from vw10)).trans t7
  have t9 : tick osm ost0 3 9 = [] := (tick_no (show viewB osm ost0 (3 + ((8 : Nat) : Int)) = false from vw11)).trans t8
  have t10 : tick osm ost0 3 10 = [] := (tick_no (show viewB osm ost0 (3 + ((9 : Nat) : Int)) = false from vw12)).trans t9
  have t11 : tick osm ost0 3 11 = [] := (tick_no (show viewB osm ost0 (3 + ((10 : Nat) : Int)) = false from vw13)).trans t10
  show win (tick osm ost0 3 11) = []
  rw [t11]; rfl
theorem ok_w2 : winL osm ost0 0 20001 = [] ∧ winE osm ost0 0 20001 = 2 := by
  have h : ¬ winOk osm ost0 0 20001 := by decide +kernel
  unfold winL winE
  rw [if_neg h, if_neg h]
  exact ⟨rfl, rfl⟩
theorem spans_nil {B : Nat} {w : World} {v : Value} (h : Spans B w v []) : ∃ a c, v = .slice a 0 c := by
  obtain ⟨_, ⟨h1, h2⟩ | ⟨g, cap, cur, h1, _⟩⟩ := h
  · exact ⟨_, _, h1⟩
  · exact ⟨_, _, h1⟩
theorem ok_sb : statF osm ostb 0 = fun _ => 0 := by
  unfold statF
  rw [if_neg (by decide +kernel)]
set_option maxRecDepth 100000 in
set_option maxHeartbeats 20000000 in
theorem orbknown_any  (w : World) : Calls Try.prog 4 #[] w fun e w' => e = .returned (.bool true) ∧ Below w.heap.size w w' := by
  have hB : Below w.heap.size w w := Below.refl _ _
  have SM := Lib.hid (fun w => small25_any w)
  rw [osm_cells] at SM
  have P0 := Lib.hid (fun w => place_any osm 0 w OO_osm)
  rw [vfn_congr pl_osm_0, show placeE osm 0 = 0 from by decide +kernel] at P0
  have P2 := Lib.hid (fun w => place_any osm 2 w OO_osm)
  rw [vfn_congr pl_osm_2, show placeE osm 2 = 0 from by decide +kernel] at P2
  have S16 := Lib.hid (fun w => sun_any osm 16 w OO_osm)
  rw [vfn_congr su_osm_16, show placeE osm 16 = 0 from by decide +kernel] at S16
  have PT := Lib.hid (fun w => place_any osmt 2 w OO_osmt)
  rw [vfn_congr pl_osmt_2, show placeE osmt 2 = 0 from by decide +kernel] at PT
  have PN := Lib.hid (fun w => place_any osmn 0 w OO_osmn)
  rw [vfn_congr pl_osmn_0, show placeE osmn 0 = 0 from by decide +kernel] at PN
  have D0 := Lib.hid (fun w => dark_any osm 0 w OO_osm)
  rw [dk0, show placeE osm 0 = 0 from by decide +kernel] at D0
  have D2 := Lib.hid (fun w => dark_any osm 2 w OO_osm)
  rw [dk2, show placeE osm 2 = 0 from by decide +kernel] at D2
  have ST := Lib.hid (fun w => station_any osm ost0 4 w OO_osm SS_ost0)
  rw [vfn_congr st_osm_4, show statE osm ost0 4 = 0 from by decide +kernel] at ST
  have V2 := Lib.hid (fun w => inview_any osm ost0 2 w OO_osm SS_ost0)
  rw [show viewB osm ost0 2 = true from vw2, show statE osm ost0 2 = 0 from by decide +kernel] at V2
  have V3 := Lib.hid (fun w => inview_any osm ost0 3 w OO_osm SS_ost0)
  rw [show viewB osm ost0 3 = false from vw3, show statE osm ost0 3 = 0 from by decide +kernel] at V3
  have W1 := Lib.hid (fun w => windows_any osm ost0 OO_osm SS_ost0 3 14 ⟨by omega, by omega⟩ ⟨by omega, by omega⟩ w)
  rw [ok_w1.1, ok_w1.2] at W1
  have W2 := Lib.hid (fun w => windows_any osm ost0 OO_osm SS_ost0 0 20001 ⟨by omega, by omega⟩ ⟨by omega, by omega⟩ w)
  rw [ok_w2.1, ok_w2.2] at W2
  have SB := Lib.hid (fun w => station_any osm ostb 0 w OO_osm SS_ostb)
  rw [show statE osm ostb 0 = 2 from by decide +kernel, ok_sb] at SB
  have CK := Lib.hid (fun w => check_any (fun _ => 0) w)
  rw [show chkE (fun _ => 0) = 2 from by decide +kernel] at CK
  have AW := Lib.hid (fun w => awake25_any w)
  go_enter Try.func4, Try.ntmps4
  go_upto_region 1 with (fail)
  have hW0 : w.heap.size ≤ w.heap.size := by have := hB.size; first | exact this | simpa using this
  apply wp_region_Q 3 [0, 1, 3] [1] [_, (fun p => .pointer (some ⟨p 1, 0, none⟩)), (fun _ => undef)] (fun p L w' => w.heap.size ≤ w'.heap.size ∧ Below w.heap.size w w' ∧ (L 1 = true → w.heap.size ≤ p 1 ∧ blk w' (p 1) (bif L 2 then (ofn osm) else (ofn fun _ => 0)) 24)) _ [(0, 31), (1, 1)] [0, 1, 2]
  case hn => rfl
  case hB => kernel_rfl
  case hds => kernel_rfl
  case hA => (intro p; simp only [putsD, Act.put, List.setIfInBounds_toArray, List.set_cons_zero, List.set_cons_succ, List.getD_cons_zero, List.getD_cons_succ]; exact rfl)
  case h0 => exact fun p => ⟨Nat.le_refl _, hB, fun h => absurd h (by decide)⟩
  case hmore => exact fun p L w1 w2 ⟨hsz, hB, h_o⟩ hm => ⟨Nat.le_trans hsz hm.size, hB.trans (hm.mono (Nat.le_trans hW0 hsz)), fun hl => ⟨(h_o hl).1, (h_o hl).2.below hm (h_o hl).2.lt⟩⟩
  case hs =>
    intro more
    refine stepD 0 rfl (fun p => rfl) (fun _ _ _ h => h) more ?_ ?_
    · rintro p L w1 ⟨hsz, hB, h_o⟩ hk
      go_simp
      refine (SM.out _).mono ?_
      rintro e w2 ⟨rfl, h2⟩
      first | exact ⟨rfl, h2⟩ | (subst h2; exact ⟨rfl, Below.refl _ _⟩)
    refine AllI.cons ?_ ?_
    · refine stepI_alloc 1 rfl (fun p => rfl) rfl (ofn fun _ => 0) 24 (fun p => rfl) ?_ ?_
      · intro p w1
        go_simp
        first | rfl | rw [zero_orb]
      rintro p L w1 ⟨hsz, hB, h_o⟩ hk
      have L2 : L 2 = false := hk.2.2 2 rfl
      refine ⟨Nat.le_trans hsz (by simp), hB.alloc (Nat.le_trans (by first | exact hW0 | (have := hB.size; simp at this ⊢; omega)) hsz) _, fun _ => ⟨hsz, ?_⟩⟩
      rw [show upL L 1 2 = false from L2]
      exact blk.new _ _ _
    refine AllI.cons ?_ ?_
    · refine stepI_store 2 rfl (fun p => rfl) (fun p => rfl) _ _ _ rfl (fun p => p 1) 0 (fun p => rfl) (fun p => (ofn osm)) (fun p => rfl) (fun p => (ofn fun _ => 0)) (fun p => (ofn osm)) 24 (fun p => over_o _ _) (fun p => by first | (rw [ofn_size, ofn_size]; decide) | simp [ofn_size, ofn_size]) (fun p => by rw [ofn_size]; kernel_rfl) (fun p => ofn_one _) ?_ ?_
      · rintro p L w1 ⟨hsz, hB, h_o⟩ hk
        have L2 : L 2 = false := hk.1
        have hh := (h_o (hk.2.1 1 rfl)).2
        rw [L2] at hh
        try simp only [cond_true, cond_false] at hh
        exact hh
      · rintro p L w1 ⟨hsz, hB, h_o⟩ hk
        have L2 : L 2 = false := hk.1
        skip
        have hp := h_o (hk.2.1 1 rfl)
        refine ⟨(by simpa using hsz), Below.setRow hB (by first | exact Nat.le_trans hW0 hp.1 | exact ge_o | omega | (have := hB.size; simp at this ⊢; omega)) _, fun _ => ⟨hp.1, ?_⟩⟩
        rw [show upL L 2 2 = true from rfl]
        exact hp.2.row _
    exact AllI.nil
  case hV0 =>
    intro p q
    refine AllI.cons ?_ ?_
    · skip
      iterate 3 (refine AllI.cons (by first | exact .inl rfl | (refine .inr ?_; simp only [List.getD_cons_zero, List.getD_cons_succ]; done) | exact .inr rfl) ?_)
      exact AllI.nil
    exact AllI.nil
  case he =>
  clear hB 
  rintro p wr ⟨hsz, hB, h_o⟩
  obtain ⟨le_o, o⟩ := h_o rfl
  clear h_o
  replace o : blk wr (p 1) (ofn osm) 24 := o
  have ge_o : w.heap.size ≤ p 1 := Nat.le_trans hW0 le_o
  generalize p 1 = o_b at *
  clear hsz hW0
  go_upto_region 2 with (fail)
  have lt_o := o.lt
  have hW0 : w.heap.size ≤ wr.heap.size := by have := hB.size; first | exact this | simpa using this
  apply wp_region_Q 8 [0, 1, 3, 7, 15, 31, 63, 127] [5] [_, _, _, _, _, (fun p => .pointer (some ⟨p 5, 0, none⟩)), (fun _ => undef), _] (fun p L w' => wr.heap.size ≤ w'.heap.size ∧ Below w.heap.size w w' ∧ blk w' o_b (ofn osm) 24 ∧ (L 5 = true → wr.heap.size ≤ p 5 ∧ blk w' (p 5) (bif L 6 then (vfn (of3 1073741824 0 0)) else (vfn fun _ => 0)) 39)) _ [(0, 33), (1, 34), (2, 32), (3, 35), (4, 36), (5, 2), (7, 3)] [0, 1, 2, 3, 4, 5, 6, 7]
  case hn => rfl
  case hB => kernel_rfl
  case hds => kernel_rfl
  case hA => (intro p; simp only [putsD, Act.put, List.setIfInBounds_toArray, List.set_cons_zero, List.set_cons_succ, List.getD_cons_zero, List.getD_cons_succ]; exact rfl)
  case h0 => exact fun p => ⟨Nat.le_refl _, hB, o, fun h => absurd h (by decide)⟩
  case hmore => exact fun p L w1 w2 ⟨hsz, hB, o, h_a1⟩ hm => ⟨Nat.le_trans hsz hm.size, hB.trans (hm.mono (Nat.le_trans hW0 hsz)), o.below hm o.lt, fun hl => ⟨(h_a1 hl).1, (h_a1 hl).2.below hm (h_a1 hl).2.lt⟩⟩
  case hs =>
    intro more
    refine stepV 0 rfl rfl (fun _ _ _ h => h) ?_ ?_
    · rintro p L w1 ⟨hsz, hB, o, h_a1⟩ hk
      have L6 : L 6 = false := hk.2.2 6 rfl
      first | exact valR_row _ _ rfl _ rfl _ _ o _ Try.underlying24 rfl (by first | kernel_rfl | (rw [ofn_size]; kernel_rfl)) rfl | (have hc := o.cellIs (show _[0]? = some _ from rfl); go_simp; exact ⟨rfl, rfl⟩)
    refine stepD 1 rfl (fun p => rfl) (fun _ _ _ h => h) more ?_ ?_
    · rintro p L w1 ⟨hsz, hB, o, h_a1⟩ hk
      go_simp
      refine (P0.out _).mono ?_
      rintro e w2 ⟨rfl, h2⟩
      first | exact ⟨rfl, h2⟩ | (subst h2; exact ⟨rfl, Below.refl _ _⟩)
    refine stepV 2 rfl rfl (fun _ _ _ h => h) ?_ ?_
    · intros; go_simp; exact ⟨rfl, rfl⟩
    refine stepV 3 rfl rfl (fun _ _ _ h => h) ?_ ?_
    · intros; go_simp; exact ⟨rfl, rfl⟩
    refine stepV 4 rfl rfl (fun _ _ _ h => h) ?_ ?_
    · intros; go_simp; exact ⟨rfl, rfl⟩
    refine AllI.cons ?_ ?_
    · refine stepI_alloc 5 rfl (fun p => rfl) rfl (vfn fun _ => 0) 39 (fun p => rfl) ?_ ?_
      · intro p w1
        go_simp
        first | rfl | rw [zero_vec]
      rintro p L w1 ⟨hsz, hB, o, h_a1⟩ hk
      have L6 : L 6 = false := hk.2.2 6 rfl
      refine ⟨Nat.le_trans hsz (by simp), hB.alloc (Nat.le_trans (by first | exact hW0 | (have := hB.size; simp at this ⊢; omega)) hsz) _, o.alloc _, fun _ => ⟨hsz, ?_⟩⟩
      rw [show upL L 5 6 = false from L6]
      exact blk.new _ _ _
    refine AllI.cons ?_ ?_
    · refine stepI_store 6 rfl (fun p => rfl) (fun p => rfl) _ _ _ rfl (fun p => p 5) 0 (fun p => rfl) (fun p => (vfn (of3 1073741824 0 0))) (fun p => rfl) (fun p => (vfn fun _ => 0)) (fun p => (vfn (of3 1073741824 0 0))) 39 (fun p => over_v' _ _) (fun p => by first | (rw [vfn_size, vfn_size]; decide) | simp [vfn_size, vfn_size]) (fun p => by rw [vfn_size]; kernel_rfl) (fun p => vfn_one _) ?_ ?_
      · rintro p L w1 ⟨hsz, hB, o, h_a1⟩ hk
        have L6 : L 6 = false := hk.1
        have hh := (h_a1 (hk.2.1 5 rfl)).2
        rw [L6] at hh
        try simp only [cond_true, cond_false] at hh
        exact hh
      · rintro p L w1 ⟨hsz, hB, o, h_a1⟩ hk
        have L6 : L 6 = false := hk.1
        skip
        have hp := h_a1 (hk.2.1 5 rfl)
        refine ⟨(by simpa using hsz), Below.setRow hB (by first | exact Nat.le_trans hW0 hp.1 | exact ge_a1 | omega | (have := hB.size; simp at this ⊢; omega)) _, o.rowOther (by first | exact Nat.ne_of_lt (Nat.lt_of_lt_of_le lt_o hp.1) | omega) _, fun _ => ⟨hp.1, ?_⟩⟩
        rw [show upL L 6 6 = true from rfl]
        exact hp.2.row _
    refine stepV 7 rfl rfl (fun _ _ _ h => h) ?_ ?_
    · intros; go_simp; exact ⟨rfl, rfl⟩
    exact AllI.nil
  case hV0 =>
    intro p q
    refine AllI.cons ?_ ?_
    · skip
      iterate 8 (refine AllI.cons (by first | exact .inl rfl | (refine .inr ?_; simp only [List.getD_cons_zero, List.getD_cons_succ]; done) | exact .inr rfl) ?_)
      exact AllI.nil
    exact AllI.nil
  case he =>
  clear hB o
  rintro p wrr ⟨hsz, hB, o, h_a1⟩
  obtain ⟨le_a1, a1⟩ := h_a1 rfl
  clear h_a1
  replace a1 : blk wrr (p 5) (vfn (of3 1073741824 0 0)) 39 := a1
  have ne_o_a1 : o_b ≠ p 5 := Nat.ne_of_lt (Nat.lt_of_lt_of_le lt_o le_a1)
  have ge_a1 : w.heap.size ≤ p 5 := Nat.le_trans hW0 le_a1
  generalize p 5 = a1_b at *
  clear lt_o
  clear hsz hW0
  go_upto_region 3 with (fail)
  have lt_o := o.lt
  have lt_a1 := a1.lt
  have hW0 : w.heap.size ≤ wrr.heap.size := by have := hB.size; first | exact this | simpa using this
  apply wp_region_Q 8 [0, 1, 3, 7, 15, 31, 63, 127] [5] [_, _, _, _, _, (fun p => .pointer (some ⟨p 5, 0, none⟩)), (fun _ => undef), _] (fun p L w' => wrr.heap.size ≤ w'.heap.size ∧ Below w.heap.size w w' ∧ blk w' o_b (ofn osm) 24 ∧ blk w' a1_b (vfn (of3 1073741824 0 0)) 39 ∧ (L 5 = true → wrr.heap.size ≤ p 5 ∧ blk w' (p 5) (bif L 6 then (vfn (of3 0 1073741824 0)) else (vfn fun _ => 0)) 39)) _ [(0, 38), (1, 39), (2, 37), (3, 40), (4, 41), (5, 4), (7, 5)] [0, 1, 2, 3, 4, 5, 6, 7]
  case hn => rfl
  case hB => kernel_rfl
  case hds => kernel_rfl
  case hA => (intro p; simp only [putsD, Act.put, List.setIfInBounds_toArray, List.set_cons_zero, List.set_cons_succ, List.getD_cons_zero, List.getD_cons_succ]; exact rfl)
  case h0 => exact fun p => ⟨Nat.le_refl _, hB, o, a1, fun h => absurd h (by decide)⟩
  case hmore => exact fun p L w1 w2 ⟨hsz, hB, o, a1, h_a2⟩ hm => ⟨Nat.le_trans hsz hm.size, hB.trans (hm.mono (Nat.le_trans hW0 hsz)), o.below hm o.lt, a1.below hm a1.lt, fun hl => ⟨(h_a2 hl).1, (h_a2 hl).2.below hm (h_a2 hl).2.lt⟩⟩
  case hs =>
    intro more
    refine stepV 0 rfl rfl (fun _ _ _ h => h) ?_ ?_
    · rintro p L w1 ⟨hsz, hB, o, a1, h_a2⟩ hk
      have L6 : L 6 = false := hk.2.2 6 rfl
      first | exact valR_row _ _ rfl _ rfl _ _ o _ Try.underlying24 rfl (by first | kernel_rfl | (rw [ofn_size]; kernel_rfl)) rfl | (have hc := o.cellIs (show _[0]? = some _ from rfl); go_simp; exact ⟨rfl, rfl⟩)
    refine stepD 1 rfl (fun p => rfl) (fun _ _ _ h => h) more ?_ ?_
    · rintro p L w1 ⟨hsz, hB, o, a1, h_a2⟩ hk
      go_simp
      refine (P2.out _).mono ?_
      rintro e w2 ⟨rfl, h2⟩
      first | exact ⟨rfl, h2⟩ | (subst h2; exact ⟨rfl, Below.refl _ _⟩)
    refine stepV 2 rfl rfl (fun _ _ _ h => h) ?_ ?_
    · intros; go_simp; exact ⟨rfl, rfl⟩
    refine stepV 3 rfl rfl (fun _ _ _ h => h) ?_ ?_
    · intros; go_simp; exact ⟨rfl, rfl⟩
    refine stepV 4 rfl rfl (fun _ _ _ h => h) ?_ ?_
    · intros; go_simp; exact ⟨rfl, rfl⟩
    refine AllI.cons ?_ ?_
    · refine stepI_alloc 5 rfl (fun p => rfl) rfl (vfn fun _ => 0) 39 (fun p => rfl) ?_ ?_
      · intro p w1
        go_simp
        first | rfl | rw [zero_vec]
      rintro p L w1 ⟨hsz, hB, o, a1, h_a2⟩ hk
      have L6 : L 6 = false := hk.2.2 6 rfl
      refine ⟨Nat.le_trans hsz (by simp), hB.alloc (Nat.le_trans (by first | exact hW0 | (have := hB.size; simp at this ⊢; omega)) hsz) _, o.alloc _, a1.alloc _, fun _ => ⟨hsz, ?_⟩⟩
      rw [show upL L 5 6 = false from L6]
      exact blk.new _ _ _
    refine AllI.cons ?_ ?_
    · refine stepI_store 6 rfl (fun p => rfl) (fun p => rfl) _ _ _ rfl (fun p => p 5) 0 (fun p => rfl) (fun p => (vfn (of3 0 1073741824 0))) (fun p => rfl) (fun p => (vfn fun _ => 0)) (fun p => (vfn (of3 0 1073741824 0))) 39 (fun p => over_v' _ _) (fun p => by first | (rw [vfn_size, vfn_size]; decide) | simp [vfn_size, vfn_size]) (fun p => by rw [vfn_size]; kernel_rfl) (fun p => vfn_one _) ?_ ?_
      · rintro p L w1 ⟨hsz, hB, o, a1, h_a2⟩ hk
        have L6 : L 6 = false := hk.1
        have hh := (h_a2 (hk.2.1 5 rfl)).2
        rw [L6] at hh
        try simp only [cond_true, cond_false] at hh
        exact hh
      · rintro p L w1 ⟨hsz, hB, o, a1, h_a2⟩ hk
        have L6 : L 6 = false := hk.1
        skip
        have hp := h_a2 (hk.2.1 5 rfl)
        refine ⟨(by simpa using hsz), Below.setRow hB (by first | exact Nat.le_trans hW0 hp.1 | exact ge_a2 | omega | (have := hB.size; simp at this ⊢; omega)) _, o.rowOther (by first | exact Nat.ne_of_lt (Nat.lt_of_lt_of_le lt_o hp.1) | omega) _, a1.rowOther (by first | exact Nat.ne_of_lt (Nat.lt_of_lt_of_le lt_a1 hp.1) | omega) _, fun _ => ⟨hp.1, ?_⟩⟩
        rw [show upL L 6 6 = true from rfl]
        exact hp.2.row _
    refine stepV 7 rfl rfl (fun _ _ _ h => h) ?_ ?_
    · intros; go_simp; exact ⟨rfl, rfl⟩
    exact AllI.nil
  case hV0 =>
    intro p q
    refine AllI.cons ?_ ?_
    · skip
      iterate 8 (refine AllI.cons (by first | exact .inl rfl | (refine .inr ?_; simp only [List.getD_cons_zero, List.getD_cons_succ]; done) | exact .inr rfl) ?_)
      exact AllI.nil
    exact AllI.nil
  case he =>
  clear hB o a1
  rintro p wrrr ⟨hsz, hB, o, a1, h_a2⟩
  obtain ⟨le_a2, a2⟩ := h_a2 rfl
  clear h_a2
  replace a2 : blk wrrr (p 5) (vfn (of3 0 1073741824 0)) 39 := a2
  have ne_o_a2 : o_b ≠ p 5 := Nat.ne_of_lt (Nat.lt_of_lt_of_le lt_o le_a2)
  have ne_a1_a2 : a1_b ≠ p 5 := Nat.ne_of_lt (Nat.lt_of_lt_of_le lt_a1 le_a2)
  have ge_a2 : w.heap.size ≤ p 5 := Nat.le_trans hW0 le_a2
  generalize p 5 = a2_b at *
  clear lt_o
  clear lt_a1
  clear hsz hW0
  go_upto_region 4 with (fail)
  have lt_o := o.lt
  have lt_a1 := a1.lt
  have lt_a2 := a2.lt
  have hW0 : w.heap.size ≤ wrrr.heap.size := by have := hB.size; first | exact this | simpa using this
  apply wp_region_Q 8 [0, 1, 3, 7, 15, 31, 63, 127] [5] [_, _, _, _, _, (fun p => .pointer (some ⟨p 5, 0, none⟩)), (fun _ => undef), _] (fun p L w' => wrrr.heap.size ≤ w'.heap.size ∧ Below w.heap.size w w' ∧ blk w' o_b (ofn osm) 24 ∧ blk w' a1_b (vfn (of3 1073741824 0 0)) 39 ∧ blk w' a2_b (vfn (of3 0 1073741824 0)) 39 ∧ (L 5 = true → wrrr.heap.size ≤ p 5 ∧ blk w' (p 5) (bif L 6 then (vfn (of3 0 1073741824 0)) else (vfn fun _ => 0)) 39)) _ [(0, 43), (1, 44), (2, 42), (3, 45), (4, 46), (5, 6), (7, 7)] [0, 1, 2, 3, 4, 5, 6, 7]
  case hn => rfl
  case hB => kernel_rfl
  case hds => kernel_rfl
  case hA => (intro p; simp only [putsD, Act.put, List.setIfInBounds_toArray, List.set_cons_zero, List.set_cons_succ, List.getD_cons_zero, List.getD_cons_succ]; exact rfl)
  case h0 => exact fun p => ⟨Nat.le_refl _, hB, o, a1, a2, fun h => absurd h (by decide)⟩
  case hmore => exact fun p L w1 w2 ⟨hsz, hB, o, a1, a2, h_a3⟩ hm => ⟨Nat.le_trans hsz hm.size, hB.trans (hm.mono (Nat.le_trans hW0 hsz)), o.below hm o.lt, a1.below hm a1.lt, a2.below hm a2.lt, fun hl => ⟨(h_a3 hl).1, (h_a3 hl).2.below hm (h_a3 hl).2.lt⟩⟩
  case hs =>
    intro more
    refine stepV 0 rfl rfl (fun _ _ _ h => h) ?_ ?_
    · rintro p L w1 ⟨hsz, hB, o, a1, a2, h_a3⟩ hk
      have L6 : L 6 = false := hk.2.2 6 rfl
      first | exact valR_row _ _ rfl _ rfl _ _ o _ Try.underlying24 rfl (by first | kernel_rfl | (rw [ofn_size]; kernel_rfl)) rfl | (have hc := o.cellIs (show _[0]? = some _ from rfl); go_simp; exact ⟨rfl, rfl⟩)
    refine stepD 1 rfl (fun p => rfl) (fun _ _ _ h => h) more ?_ ?_
    · rintro p L w1 ⟨hsz, hB, o, a1, a2, h_a3⟩ hk
      go_simp
      refine (S16.out _).mono ?_
      rintro e w2 ⟨rfl, h2⟩
      first | exact ⟨rfl, h2⟩ | (subst h2; exact ⟨rfl, Below.refl _ _⟩)
    refine stepV 2 rfl rfl (fun _ _ _ h => h) ?_ ?_
    · intros; go_simp; exact ⟨rfl, rfl⟩
    refine stepV 3 rfl rfl (fun _ _ _ h => h) ?_ ?_
    · intros; go_simp; exact ⟨rfl, rfl⟩
    refine stepV 4 rfl rfl (fun _ _ _ h => h) ?_ ?_
    · intros; go_simp; exact ⟨rfl, rfl⟩
    refine AllI.cons ?_ ?_
    · refine stepI_alloc 5 rfl (fun p => rfl) rfl (vfn fun _ => 0) 39 (fun p => rfl) ?_ ?_
      · intro p w1
        go_simp
        first | rfl | rw [zero_vec]
      rintro p L w1 ⟨hsz, hB, o, a1, a2, h_a3⟩ hk
      have L6 : L 6 = false := hk.2.2 6 rfl
      refine ⟨Nat.le_trans hsz (by simp), hB.alloc (Nat.le_trans (by first | exact hW0 | (have := hB.size; simp at this ⊢; omega)) hsz) _, o.alloc _, a1.alloc _, a2.alloc _, fun _ => ⟨hsz, ?_⟩⟩
      rw [show upL L 5 6 = false from L6]
      exact blk.new _ _ _
    refine AllI.cons ?_ ?_
    · refine stepI_store 6 rfl (fun p => rfl) (fun p => rfl) _ _ _ rfl (fun p => p 5) 0 (fun p => rfl) (fun p => (vfn (of3 0 1073741824 0))) (fun p => rfl) (fun p => (vfn fun _ => 0)) (fun p => (vfn (of3 0 1073741824 0))) 39 (fun p => over_v' _ _) (fun p => by first | (rw [vfn_size, vfn_size]; decide) | simp [vfn_size, vfn_size]) (fun p => by rw [vfn_size]; kernel_rfl) (fun p => vfn_one _) ?_ ?_
      · rintro p L w1 ⟨hsz, hB, o, a1, a2, h_a3⟩ hk
        have L6 : L 6 = false := hk.1
        have hh := (h_a3 (hk.2.1 5 rfl)).2
        rw [L6] at hh
        try simp only [cond_true, cond_false] at hh
        exact hh
      · rintro p L w1 ⟨hsz, hB, o, a1, a2, h_a3⟩ hk
        have L6 : L 6 = false := hk.1
        skip
        have hp := h_a3 (hk.2.1 5 rfl)
        refine ⟨(by simpa using hsz), Below.setRow hB (by first | exact Nat.le_trans hW0 hp.1 | exact ge_a3 | omega | (have := hB.size; simp at this ⊢; omega)) _, o.rowOther (by first | exact Nat.ne_of_lt (Nat.lt_of_lt_of_le lt_o hp.1) | omega) _, a1.rowOther (by first | exact Nat.ne_of_lt (Nat.lt_of_lt_of_le lt_a1 hp.1) | omega) _, a2.rowOther (by first | exact Nat.ne_of_lt (Nat.lt_of_lt_of_le lt_a2 hp.1) | omega) _, fun _ => ⟨hp.1, ?_⟩⟩
        rw [show upL L 6 6 = true from rfl]
        exact hp.2.row _
    refine stepV 7 rfl rfl (fun _ _ _ h => h) ?_ ?_
    · intros; go_simp; exact ⟨rfl, rfl⟩
    exact AllI.nil
  case hV0 =>
    intro p q
    refine AllI.cons ?_ ?_
    · skip
      iterate 8 (refine AllI.cons (by first | exact .inl rfl | (refine .inr ?_; simp only [List.getD_cons_zero, List.getD_cons_succ]; done) | exact .inr rfl) ?_)
      exact AllI.nil
    exact AllI.nil
  case he =>
  clear hB o a1 a2
  rintro p wrrrr ⟨hsz, hB, o, a1, a2, h_a3⟩
  obtain ⟨le_a3, a3⟩ := h_a3 rfl
  clear h_a3
  replace a3 : blk wrrrr (p 5) (vfn (of3 0 1073741824 0)) 39 := a3
  have ne_o_a3 : o_b ≠ p 5 := Nat.ne_of_lt (Nat.lt_of_lt_of_le lt_o le_a3)
  have ne_a1_a3 : a1_b ≠ p 5 := Nat.ne_of_lt (Nat.lt_of_lt_of_le lt_a1 le_a3)
  have ne_a2_a3 : a2_b ≠ p 5 := Nat.ne_of_lt (Nat.lt_of_lt_of_le lt_a2 le_a3)
  have ge_a3 : w.heap.size ≤ p 5 := Nat.le_trans hW0 le_a3
  generalize p 5 = a3_b at *
  clear lt_o
  clear lt_a1
  clear lt_a2
  clear hsz hW0
  go_upto_region 5 with (fail)
  have lt_o := o.lt
  have lt_a1 := a1.lt
  have lt_a2 := a2.lt
  have lt_a3 := a3.lt
  have hW0 : w.heap.size ≤ wrrrr.heap.size := by have := hB.size; first | exact this | simpa using this
  apply wp_region_I 6 [0, 0, 0, 0, 13, 31] [2, 3] [_, _, (fun p => .pointer (some ⟨p 2, 0, none⟩)), (fun p => .pointer (some ⟨p 3, 0, none⟩)), (fun _ => undef), (fun _ => undef)] (fun p L w' => wrrrr.heap.size ≤ w'.heap.size ∧ Below w.heap.size w w' ∧ blk w' o_b (ofn osm) 24 ∧ blk w' a1_b (vfn (of3 1073741824 0 0)) 39 ∧ blk w' a2_b (vfn (of3 0 1073741824 0)) 39 ∧ blk w' a3_b (vfn (of3 0 1073741824 0)) 39 ∧ (L 2 = true → wrrrr.heap.size ≤ p 2 ∧ blk w' (p 2) (bif L 4 then (ofn osm) else (ofn fun _ => 0)) 24) ∧ (L 3 = true → wrrrr.heap.size ≤ p 3 ∧ blk w' (p 3) (bif L 5 then (ofn osm) else (ofn fun _ => 0)) 24) ∧ (L 2 = true → L 3 = true → p 2 ≠ p 3)) _ [(0, 47), (1, 48), (2, 8), (3, 9)] [0, 1, 2, 3, 4, 5]
  case hn => rfl
  case hm => kernel_rfl
  case hB => kernel_rfl
  case hds => kernel_rfl
  case hA => (intro p; simp only [putsD, Act.put, List.setIfInBounds_toArray, List.set_cons_zero, List.set_cons_succ, List.getD_cons_zero, List.getD_cons_succ]; exact rfl)
  case h0 => exact fun p => ⟨Nat.le_refl _, hB.drew, o.drew, a1.drew, a2.drew, a3.drew, fun h => absurd h (by decide), fun h => absurd h (by decide), fun h => absurd h (by decide)⟩
  case hmore => exact fun p L w1 w2 ⟨hsz, hB, o, a1, a2, a3, h_t, h_n, hne_t_n⟩ hm => ⟨Nat.le_trans hsz hm.size, hB.trans (hm.mono (Nat.le_trans hW0 hsz)), o.below hm o.lt, a1.below hm a1.lt, a2.below hm a2.lt, a3.below hm a3.lt, fun hl => ⟨(h_t hl).1, (h_t hl).2.below hm (h_t hl).2.lt⟩, fun hl => ⟨(h_n hl).1, (h_n hl).2.below hm (h_n hl).2.lt⟩, hne_t_n⟩
  case hs =>
    intro more
    refine stepV 0 rfl rfl (fun _ _ _ h => h) ?_ ?_
    · rintro p L w1 ⟨hsz, hB, o, a1, a2, a3, h_t, h_n, hne_t_n⟩ hk
      have L4 : L 4 = false := hk.2.2 4 rfl
      have L5 : L 5 = false := hk.2.2 5 rfl
      first | exact valR_row _ _ rfl _ rfl _ _ o _ Try.underlying24 rfl (by first | kernel_rfl | (rw [ofn_size]; kernel_rfl)) rfl | (have hc := o.cellIs (show _[0]? = some _ from rfl); go_simp; exact ⟨rfl, rfl⟩)
    refine stepV 1 rfl rfl (fun _ _ _ h => h) ?_ ?_
    · rintro p L w1 ⟨hsz, hB, o, a1, a2, a3, h_t, h_n, hne_t_n⟩ hk
      have L5 : L 5 = false := hk.2.2 5 rfl
      first | exact valR_row _ _ rfl _ rfl _ _ o _ Try.underlying24 rfl (by first | kernel_rfl | (rw [ofn_size]; kernel_rfl)) rfl | (have hc := o.cellIs (show _[0]? = some _ from rfl); go_simp; exact ⟨rfl, rfl⟩)
    refine AllI.cons ?_ ?_
    · refine stepI_alloc 2 rfl (fun p => rfl) rfl (ofn fun _ => 0) 24 (fun p => rfl) ?_ ?_
      · intro p w1
        go_simp
        first | rfl | rw [zero_orb]
      rintro p L w1 ⟨hsz, hB, o, a1, a2, a3, h_t, h_n, hne_t_n⟩ hk
      have L4 : L 4 = false := hk.2.2 4 rfl
      have L5 : L 5 = false := hk.2.2 5 rfl
      refine ⟨Nat.le_trans hsz (by simp), hB.alloc (Nat.le_trans (by first | exact hW0 | (have := hB.size; simp at this ⊢; omega)) hsz) _, o.alloc _, a1.alloc _, a2.alloc _, a3.alloc _, fun _ => ⟨hsz, ?_⟩, fun hl => ⟨(h_n hl).1, (h_n hl).2.alloc _⟩, fun _ hl => Nat.ne_of_gt (h_n hl).2.lt⟩
      rw [show upL L 2 4 = false from L4]
      exact blk.new _ _ _
    refine AllI.cons ?_ ?_
    · refine stepI_alloc 3 rfl (fun p => rfl) rfl (ofn fun _ => 0) 24 (fun p => rfl) ?_ ?_
      · intro p w1
        go_simp
        first | rfl | rw [zero_orb]
      rintro p L w1 ⟨hsz, hB, o, a1, a2, a3, h_t, h_n, hne_t_n⟩ hk
      have L4 : L 4 = false := hk.2.2 4 rfl
      have L5 : L 5 = false := hk.2.2 5 rfl
      refine ⟨Nat.le_trans hsz (by simp), hB.alloc (Nat.le_trans (by first | exact hW0 | (have := hB.size; simp at this ⊢; omega)) hsz) _, o.alloc _, a1.alloc _, a2.alloc _, a3.alloc _, fun hl => ⟨(h_t hl).1, (h_t hl).2.alloc _⟩, fun _ => ⟨hsz, ?_⟩, fun hl _ => Nat.ne_of_lt (h_t hl).2.lt⟩
      rw [show upL L 3 5 = false from L5]
      exact blk.new _ _ _
    refine AllI.cons ?_ ?_
    · refine stepI_store 4 rfl (fun p => rfl) (fun p => rfl) _ _ _ rfl (fun p => p 2) 0 (fun p => rfl) (fun p => (ofn osm)) (fun p => rfl) (fun p => (ofn fun _ => 0)) (fun p => (ofn osm)) 24 (fun p => over_o _ _) (fun p => by first | (rw [ofn_size, ofn_size]; decide) | simp [ofn_size, ofn_size]) (fun p => by rw [ofn_size]; kernel_rfl) (fun p => ofn_one _) ?_ ?_
      · rintro p L w1 ⟨hsz, hB, o, a1, a2, a3, h_t, h_n, hne_t_n⟩ hk
        have L4 : L 4 = false := hk.1
        have L5 : L 5 = false := hk.2.2 5 rfl
        have hh := (h_t (hk.2.1 2 rfl)).2
        rw [L4] at hh
        try simp only [cond_true, cond_false] at hh
        exact hh
      · rintro p L w1 ⟨hsz, hB, o, a1, a2, a3, h_t, h_n, hne_t_n⟩ hk
        have L4 : L 4 = false := hk.1
        have L5 : L 5 = false := hk.2.2 5 rfl
        skip
        have hp := h_t (hk.2.1 2 rfl)
        refine ⟨(by simpa using hsz), Below.setRow hB (by first | exact Nat.le_trans hW0 hp.1 | exact ge_t | omega | (have := hB.size; simp at this ⊢; omega)) _, o.rowOther (by first | exact Nat.ne_of_lt (Nat.lt_of_lt_of_le lt_o hp.1) | omega) _, a1.rowOther (by first | exact Nat.ne_of_lt (Nat.lt_of_lt_of_le lt_a1 hp.1) | omega) _, a2.rowOther (by first | exact Nat.ne_of_lt (Nat.lt_of_lt_of_le lt_a2 hp.1) | omega) _, a3.rowOther (by first | exact Nat.ne_of_lt (Nat.lt_of_lt_of_le lt_a3 hp.1) | omega) _, fun _ => ⟨hp.1, ?_⟩, fun hl => ⟨(h_n hl).1, (h_n hl).2.rowOther (Ne.symm (hne_t_n (hk.2.1 2 rfl) hl)) _⟩, hne_t_n⟩
        rw [show upL L 4 4 = true from rfl]
        exact hp.2.row _
    refine AllI.cons ?_ ?_
    · refine stepI_store 5 rfl (fun p => rfl) (fun p => rfl) _ _ _ rfl (fun p => p 3) 0 (fun p => rfl) (fun p => (ofn osm)) (fun p => rfl) (fun p => (ofn fun _ => 0)) (fun p => (ofn osm)) 24 (fun p => over_o _ _) (fun p => by first | (rw [ofn_size, ofn_size]; decide) | simp [ofn_size, ofn_size]) (fun p => by rw [ofn_size]; kernel_rfl) (fun p => ofn_one _) ?_ ?_
      · rintro p L w1 ⟨hsz, hB, o, a1, a2, a3, h_t, h_n, hne_t_n⟩ hk
        have L4 : L 4 = true := hk.2.1 4 rfl
        have L5 : L 5 = false := hk.1
        have hh := (h_n (hk.2.1 3 rfl)).2
        rw [L5] at hh
        try simp only [cond_true, cond_false] at hh
        exact hh
      · rintro p L w1 ⟨hsz, hB, o, a1, a2, a3, h_t, h_n, hne_t_n⟩ hk
        have L4 : L 4 = true := hk.2.1 4 rfl
        have L5 : L 5 = false := hk.1
        skip
        have hp := h_n (hk.2.1 3 rfl)
        refine ⟨(by simpa using hsz), Below.setRow hB (by first | exact Nat.le_trans hW0 hp.1 | exact ge_n | omega | (have := hB.size; simp at this ⊢; omega)) _, o.rowOther (by first | exact Nat.ne_of_lt (Nat.lt_of_lt_of_le lt_o hp.1) | omega) _, a1.rowOther (by first | exact Nat.ne_of_lt (Nat.lt_of_lt_of_le lt_a1 hp.1) | omega) _, a2.rowOther (by first | exact Nat.ne_of_lt (Nat.lt_of_lt_of_le lt_a2 hp.1) | omega) _, a3.rowOther (by first | exact Nat.ne_of_lt (Nat.lt_of_lt_of_le lt_a3 hp.1) | omega) _, fun hl => ⟨(h_t hl).1, (h_t hl).2.rowOther (hne_t_n hl (hk.2.1 3 rfl)) _⟩, fun _ => ⟨hp.1, ?_⟩, hne_t_n⟩
        rw [show upL L 5 5 = true from rfl]
        exact hp.2.row _
    exact AllI.nil
  case hV0 =>
    intro p q
    refine AllI.cons ?_ ?_
    · skip
      iterate 6 (refine AllI.cons (by first | exact .inl rfl | (refine .inr ?_; simp only [List.getD_cons_zero, List.getD_cons_succ]; done) | exact .inr rfl) ?_)
      exact AllI.nil
    refine AllI.cons ?_ ?_
    · skip
      iterate 6 (refine AllI.cons (by first | exact .inl rfl | (refine .inr ?_; simp only [List.getD_cons_zero, List.getD_cons_succ]; done) | exact .inr rfl) ?_)
      exact AllI.nil
    exact AllI.nil
  case he =>
  clear hB o a1 a2 a3
  rintro p wrrrrr ⟨hsz, hB, o, a1, a2, a3, h_t, h_n, hne_t_n⟩
  obtain ⟨le_t, t⟩ := h_t rfl
  clear h_t
  obtain ⟨le_n, n⟩ := h_n rfl
  clear h_n
  have ne_t_n : p 2 ≠ p 3 := hne_t_n rfl rfl
  clear hne_t_n
  replace t : blk wrrrrr (p 2) (ofn osm) 24 := t
  replace n : blk wrrrrr (p 3) (ofn osm) 24 := n
  have ne_o_t : o_b ≠ p 2 := Nat.ne_of_lt (Nat.lt_of_lt_of_le lt_o le_t)
  have ne_a1_t : a1_b ≠ p 2 := Nat.ne_of_lt (Nat.lt_of_lt_of_le lt_a1 le_t)
  have ne_a2_t : a2_b ≠ p 2 := Nat.ne_of_lt (Nat.lt_of_lt_of_le lt_a2 le_t)
  have ne_a3_t : a3_b ≠ p 2 := Nat.ne_of_lt (Nat.lt_of_lt_of_le lt_a3 le_t)
  have ge_t : w.heap.size ≤ p 2 := Nat.le_trans hW0 le_t
  have ne_o_n : o_b ≠ p 3 := Nat.ne_of_lt (Nat.lt_of_lt_of_le lt_o le_n)
  have ne_a1_n : a1_b ≠ p 3 := Nat.ne_of_lt (Nat.lt_of_lt_of_le lt_a1 le_n)
  have ne_a2_n : a2_b ≠ p 3 := Nat.ne_of_lt (Nat.lt_of_lt_of_le lt_a2 le_n)
  have ne_a3_n : a3_b ≠ p 3 := Nat.ne_of_lt (Nat.lt_of_lt_of_le lt_a3 le_n)
  have ge_n : w.heap.size ≤ p 3 := Nat.le_trans hW0 le_n
  generalize p 2 = t_b at *
  generalize p 3 = n_b at *
  clear lt_o
  clear lt_a1
  clear lt_a2
  clear lt_a3
  clear hsz hW0
  go_upto_region 6 with (fail)
  have lt_o := o.lt
  have lt_a1 := a1.lt
  have lt_a2 := a2.lt
  have lt_a3 := a3.lt
  have lt_t := t.lt
  have lt_n := n.lt
  have hW0 : w.heap.size ≤ wrrrrr.heap.size := by have := hB.size; first | exact this | simpa using this
  apply wp_region_Q 4 [0, 1, 3, 7] [] [_, (fun _ => undef), _, (fun _ => undef)] (fun p L w' => wrrrrr.heap.size ≤ w'.heap.size ∧ Below w.heap.size w w' ∧ blk w' o_b (ofn osm) 24 ∧ blk w' a1_b (vfn (of3 1073741824 0 0)) 39 ∧ blk w' a2_b (vfn (of3 0 1073741824 0)) 39 ∧ blk w' a3_b (vfn (of3 0 1073741824 0)) 39 ∧ blk w' t_b (bif L 1 then (ofn osmt) else (ofn osm)) 24 ∧ blk w' n_b (bif L 3 then (ofn osmn) else (ofn osm)) 24) _ [(0, 49), (2, 50)] [0, 1, 2, 3]
  case hn => rfl
  case hB => kernel_rfl
  case hds => kernel_rfl
  case hA => (intro p; simp only [putsD, Act.put, List.setIfInBounds_toArray, List.set_cons_zero, List.set_cons_succ, List.getD_cons_zero, List.getD_cons_succ]; exact rfl)
  case h0 => exact fun p => ⟨Nat.le_refl _, hB, o, a1, a2, a3, t, n⟩
  case hmore => exact fun p L w1 w2 ⟨hsz, hB, o, a1, a2, a3, t, n⟩ hm => ⟨Nat.le_trans hsz hm.size, hB.trans (hm.mono (Nat.le_trans hW0 hsz)), o.below hm o.lt, a1.below hm a1.lt, a2.below hm a2.lt, a3.below hm a3.lt, t.below hm t.lt, n.below hm n.lt⟩
  case hs =>
    intro more
    refine stepV 0 rfl rfl (fun _ _ _ h => h) ?_ ?_
    · intros; go_simp; exact ⟨rfl, rfl⟩
    refine AllI.cons ?_ ?_
    · refine stepI_cell 1 rfl (fun p => rfl) (fun p => rfl) (fun _ => t_b) (5) (fun p => .int .u32 1073741824) (fun p => (ofn osm)) (fun p => (ofn osmt)) 24 (fun p => set_t) ?_ ?_ ?_
      · rintro p L w1 ⟨hsz, hB, o, a1, a2, a3, t, n⟩ hk
        have L1 : L 1 = false := hk.1
        have L3 : L 3 = false := hk.2.2 3 rfl
        rw [L1] at t
        try simp only [cond_true, cond_false] at t
        exact t
      · intro p w1 hb
        have fz : w1.frozen? ⟨t_b, 5, none⟩ = false := hb.free _
        have cz : ∃ u, w1.cell? ⟨t_b, 5, none⟩ = some u := ⟨_, hb.cellIs (show _[5]? = some _ from rfl)⟩
        obtain ⟨u, cz⟩ := cz
        go_simp
        try exact ⟨_, rfl, by first | exact .inl rfl | exact .inr rfl⟩
      · rintro p L w1 ⟨hsz, hB, o, a1, a2, a3, t, n⟩ hk
        have L1 : L 1 = false := hk.1
        have L3 : L 3 = false := hk.2.2 3 rfl
        refine ⟨(by simpa using hsz), Below.setRow hB (by first | exact Nat.le_trans hW0 hp.1 | exact ge_t | omega | (have := hB.size; simp at this ⊢; omega)) _, o.rowOther (by first | exact ne_o_t | exact Ne.symm ne_t_o | omega) _, a1.rowOther (by first | exact ne_a1_t | exact Ne.symm ne_t_a1 | omega) _, a2.rowOther (by first | exact ne_a2_t | exact Ne.symm ne_t_a2 | omega) _, a3.rowOther (by first | exact ne_a3_t | exact Ne.symm ne_t_a3 | omega) _, ?_, n.rowOther (by first | exact ne_n_t | exact Ne.symm ne_t_n | omega) _⟩
        rw [show upL L 1 1 = true from rfl]
        exact t.row _
    refine stepV 2 rfl rfl (fun _ _ _ h => h) ?_ ?_
    · intros; go_simp; exact ⟨rfl, rfl⟩
    refine AllI.cons ?_ ?_
    · refine stepI_cell 3 rfl (fun p => rfl) (fun p => rfl) (fun _ => n_b) (4) (fun p => .int .u32 1073741824) (fun p => (ofn osm)) (fun p => (ofn osmn)) 24 (fun p => set_n) ?_ ?_ ?_
      · rintro p L w1 ⟨hsz, hB, o, a1, a2, a3, t, n⟩ hk
        have L1 : L 1 = true := hk.2.1 1 rfl
        have L3 : L 3 = false := hk.1
        rw [L3] at n
        try simp only [cond_true, cond_false] at n
        exact n
      · intro p w1 hb
        have fz : w1.frozen? ⟨n_b, 4, none⟩ = false := hb.free _
        have cz : ∃ u, w1.cell? ⟨n_b, 4, none⟩ = some u := ⟨_, hb.cellIs (show _[4]? = some _ from rfl)⟩
        obtain ⟨u, cz⟩ := cz
        go_simp
        try exact ⟨_, rfl, by first | exact .inl rfl | exact .inr rfl⟩
      · rintro p L w1 ⟨hsz, hB, o, a1, a2, a3, t, n⟩ hk
        have L1 : L 1 = true := hk.2.1 1 rfl
        have L3 : L 3 = false := hk.1
        refine ⟨(by simpa using hsz), Below.setRow hB (by first | exact Nat.le_trans hW0 hp.1 | exact ge_n | omega | (have := hB.size; simp at this ⊢; omega)) _, o.rowOther (by first | exact ne_o_n | exact Ne.symm ne_n_o | omega) _, a1.rowOther (by first | exact ne_a1_n | exact Ne.symm ne_n_a1 | omega) _, a2.rowOther (by first | exact ne_a2_n | exact Ne.symm ne_n_a2 | omega) _, a3.rowOther (by first | exact ne_a3_n | exact Ne.symm ne_n_a3 | omega) _, t.rowOther (by first | exact ne_t_n | exact Ne.symm ne_n_t | omega) _, ?_⟩
        rw [show upL L 3 3 = true from rfl]
        exact n.row _
    exact AllI.nil
  case hV0 => exact fun p q => AllI.nil
  case he =>
  clear hB o a1 a2 a3 t n
  rintro p wrrrrrr ⟨hsz, hB, o, a1, a2, a3, t, n⟩
  replace t : blk wrrrrrr t_b (ofn osmt) 24 := t
  replace n : blk wrrrrrr n_b (ofn osmn) 24 := n
  clear lt_o
  clear lt_a1
  clear lt_a2
  clear lt_a3
  clear lt_t
  clear lt_n
  clear hsz hW0
  go_upto_region 7 with (fail)
  have lt_o := o.lt
  have lt_a1 := a1.lt
  have lt_a2 := a2.lt
  have lt_a3 := a3.lt
  have lt_t := t.lt
  have lt_n := n.lt
  have hW0 : w.heap.size ≤ wrrrrrr.heap.size := by have := hB.size; first | exact this | simpa using this
  apply wp_region_Q 8 [0, 1, 3, 7, 15, 31, 63, 127] [5] [_, _, _, _, _, (fun p => .pointer (some ⟨p 5, 0, none⟩)), (fun _ => undef), _] (fun p L w' => wrrrrrr.heap.size ≤ w'.heap.size ∧ Below w.heap.size w w' ∧ blk w' o_b (ofn osm) 24 ∧ blk w' a1_b (vfn (of3 1073741824 0 0)) 39 ∧ blk w' a2_b (vfn (of3 0 1073741824 0)) 39 ∧ blk w' a3_b (vfn (of3 0 1073741824 0)) 39 ∧ blk w' t_b (ofn osmt) 24 ∧ blk w' n_b (ofn osmn) 24 ∧ (L 5 = true → wrrrrrr.heap.size ≤ p 5 ∧ blk w' (p 5) (bif L 6 then (vfn (of3 0 0 1073741824)) else (vfn fun _ => 0)) 39)) _ [(0, 52), (1, 53), (2, 51), (3, 54), (4, 55), (5, 10), (7, 11)] [0, 1, 2, 3, 4, 5, 6, 7]
  case hn => rfl
  case hB => kernel_rfl
  case hds => kernel_rfl
  case hA => (intro p; simp only [putsD, Act.put, List.setIfInBounds_toArray, List.set_cons_zero, List.set_cons_succ, List.getD_cons_zero, List.getD_cons_succ]; exact rfl)
  case h0 => exact fun p => ⟨Nat.le_refl _, hB, o, a1, a2, a3, t, n, fun h => absurd h (by decide)⟩
  case hmore => exact fun p L w1 w2 ⟨hsz, hB, o, a1, a2, a3, t, n, h_a4⟩ hm => ⟨Nat.le_trans hsz hm.size, hB.trans (hm.mono (Nat.le_trans hW0 hsz)), o.below hm o.lt, a1.below hm a1.lt, a2.below hm a2.lt, a3.below hm a3.lt, t.below hm t.lt, n.below hm n.lt, fun hl => ⟨(h_a4 hl).1, (h_a4 hl).2.below hm (h_a4 hl).2.lt⟩⟩
  case hs =>
    intro more
    refine stepV 0 rfl rfl (fun _ _ _ h => h) ?_ ?_
    · rintro p L w1 ⟨hsz, hB, o, a1, a2, a3, t, n, h_a4⟩ hk
      have L6 : L 6 = false := hk.2.2 6 rfl
      first | exact valR_row _ _ rfl _ rfl _ _ t _ Try.underlying24 rfl (by first | kernel_rfl | (rw [ofn_size]; kernel_rfl)) rfl | (have hc := t.cellIs (show _[0]? = some _ from rfl); go_simp; exact ⟨rfl, rfl⟩)
    refine stepD 1 rfl (fun p => rfl) (fun _ _ _ h => h) more ?_ ?_
    · rintro p L w1 ⟨hsz, hB, o, a1, a2, a3, t, n, h_a4⟩ hk
      go_simp
      refine (PT.out _).mono ?_
      rintro e w2 ⟨rfl, h2⟩
      first | exact ⟨rfl, h2⟩ | (subst h2; exact ⟨rfl, Below.refl _ _⟩)
    refine stepV 2 rfl rfl (fun _ _ _ h => h) ?_ ?_
    · intros; go_simp; exact ⟨rfl, rfl⟩
    refine stepV 3 rfl rfl (fun _ _ _ h => h) ?_ ?_
    · intros; go_simp; exact ⟨rfl, rfl⟩
    refine stepV 4 rfl rfl (fun _ _ _ h => h) ?_ ?_
    · intros; go_simp; exact ⟨rfl, rfl⟩
    refine AllI.cons ?_ ?_
    · refine stepI_alloc 5 rfl (fun p => rfl) rfl (vfn fun _ => 0) 39 (fun p => rfl) ?_ ?_
      · intro p w1
        go_simp
        first | rfl | rw [zero_vec]
      rintro p L w1 ⟨hsz, hB, o, a1, a2, a3, t, n, h_a4⟩ hk
      have L6 : L 6 = false := hk.2.2 6 rfl
      refine ⟨Nat.le_trans hsz (by simp), hB.alloc (Nat.le_trans (by first | exact hW0 | (have := hB.size; simp at this ⊢; omega)) hsz) _, o.alloc _, a1.alloc _, a2.alloc _, a3.alloc _, t.alloc _, n.alloc _, fun _ => ⟨hsz, ?_⟩⟩
      rw [show upL L 5 6 = false from L6]
      exact blk.new _ _ _
    refine AllI.cons ?_ ?_
    · refine stepI_store 6 rfl (fun p => rfl) (fun p => rfl) _ _ _ rfl (fun p => p 5) 0 (fun p => rfl) (fun p => (vfn (of3 0 0 1073741824))) (fun p => rfl) (fun p => (vfn fun _ => 0)) (fun p => (vfn (of3 0 0 1073741824))) 39 (fun p => over_v' _ _) (fun p => by first | (rw [vfn_size, vfn_size]; decide) | simp [vfn_size, vfn_size]) (fun p => by rw [vfn_size]; kernel_rfl) (fun p => vfn_one _) ?_ ?_
      · rintro p L w1 ⟨hsz, hB, o, a1, a2, a3, t, n, h_a4⟩ hk
        have L6 : L 6 = false := hk.1
        have hh := (h_a4 (hk.2.1 5 rfl)).2
        rw [L6] at hh
        try simp only [cond_true, cond_false] at hh
        exact hh
      · rintro p L w1 ⟨hsz, hB, o, a1, a2, a3, t, n, h_a4⟩ hk
        have L6 : L 6 = false := hk.1
        skip
        have hp := h_a4 (hk.2.1 5 rfl)
        refine ⟨(by simpa using hsz), Below.setRow hB (by first | exact Nat.le_trans hW0 hp.1 | exact ge_a4 | omega | (have := hB.size; simp at this ⊢; omega)) _, o.rowOther (by first | exact Nat.ne_of_lt (Nat.lt_of_lt_of_le lt_o hp.1) | omega) _, a1.rowOther (by first | exact Nat.ne_of_lt (Nat.lt_of_lt_of_le lt_a1 hp.1) | omega) _, a2.rowOther (by first | exact Nat.ne_of_lt (Nat.lt_of_lt_of_le lt_a2 hp.1) | omega) _, a3.rowOther (by first | exact Nat.ne_of_lt (Nat.lt_of_lt_of_le lt_a3 hp.1) | omega) _, t.rowOther (by first | exact Nat.ne_of_lt (Nat.lt_of_lt_of_le lt_t hp.1) | omega) _, n.rowOther (by first | exact Nat.ne_of_lt (Nat.lt_of_lt_of_le lt_n hp.1) | omega) _, fun _ => ⟨hp.1, ?_⟩⟩
        rw [show upL L 6 6 = true from rfl]
        exact hp.2.row _
    refine stepV 7 rfl rfl (fun _ _ _ h => h) ?_ ?_
    · intros; go_simp; exact ⟨rfl, rfl⟩
    exact AllI.nil
  case hV0 =>
    intro p q
    refine AllI.cons ?_ ?_
    · skip
      iterate 8 (refine AllI.cons (by first | exact .inl rfl | (refine .inr ?_; simp only [List.getD_cons_zero, List.getD_cons_succ]; done) | exact .inr rfl) ?_)
      exact AllI.nil
    exact AllI.nil
  case he =>
  clear hB o a1 a2 a3 t n
  rintro p wrrrrrrr ⟨hsz, hB, o, a1, a2, a3, t, n, h_a4⟩
  obtain ⟨le_a4, a4⟩ := h_a4 rfl
  clear h_a4
  replace a4 : blk wrrrrrrr (p 5) (vfn (of3 0 0 1073741824)) 39 := a4
  have ne_o_a4 : o_b ≠ p 5 := Nat.ne_of_lt (Nat.lt_of_lt_of_le lt_o le_a4)
  have ne_a1_a4 : a1_b ≠ p 5 := Nat.ne_of_lt (Nat.lt_of_lt_of_le lt_a1 le_a4)
  have ne_a2_a4 : a2_b ≠ p 5 := Nat.ne_of_lt (Nat.lt_of_lt_of_le lt_a2 le_a4)
  have ne_a3_a4 : a3_b ≠ p 5 := Nat.ne_of_lt (Nat.lt_of_lt_of_le lt_a3 le_a4)
  have ne_t_a4 : t_b ≠ p 5 := Nat.ne_of_lt (Nat.lt_of_lt_of_le lt_t le_a4)
  have ne_n_a4 : n_b ≠ p 5 := Nat.ne_of_lt (Nat.lt_of_lt_of_le lt_n le_a4)
  have ge_a4 : w.heap.size ≤ p 5 := Nat.le_trans hW0 le_a4
  generalize p 5 = a4_b at *
  clear lt_o
  clear lt_a1
  clear lt_a2
  clear lt_a3
  clear lt_t
  clear lt_n
  clear hsz hW0
  go_upto_region 8 with (fail)
  have lt_o := o.lt
  have lt_a1 := a1.lt
  have lt_a2 := a2.lt
  have lt_a3 := a3.lt
  have lt_t := t.lt
  have lt_n := n.lt
  have lt_a4 := a4.lt
  have hW0 : w.heap.size ≤ wrrrrrrr.heap.size := by have := hB.size; first | exact this | simpa using this
  apply wp_region_Q 8 [0, 1, 3, 7, 15, 31, 63, 127] [5] [_, _, _, _, _, (fun p => .pointer (some ⟨p 5, 0, none⟩)), (fun _ => undef), _] (fun p L w' => wrrrrrrr.heap.size ≤ w'.heap.size ∧ Below w.heap.size w w' ∧ blk w' o_b (ofn osm) 24 ∧ blk w' a1_b (vfn (of3 1073741824 0 0)) 39 ∧ blk w' a2_b (vfn (of3 0 1073741824 0)) 39 ∧ blk w' a3_b (vfn (of3 0 1073741824 0)) 39 ∧ blk w' t_b (ofn osmt) 24 ∧ blk w' n_b (ofn osmn) 24 ∧ blk w' a4_b (vfn (of3 0 0 1073741824)) 39 ∧ (L 5 = true → wrrrrrrr.heap.size ≤ p 5 ∧ blk w' (p 5) (bif L 6 then (vfn (of3 0 1073741824 0)) else (vfn fun _ => 0)) 39)) _ [(0, 57), (1, 58), (2, 56), (3, 59), (4, 60), (5, 12), (7, 13)] [0, 1, 2, 3, 4, 5, 6, 7]
  case hn => rfl
  case hB => kernel_rfl
  case hds => kernel_rfl
  case hA => (intro p; simp only [putsD, Act.put, List.setIfInBounds_toArray, List.set_cons_zero, List.set_cons_succ, List.getD_cons_zero, List.getD_cons_succ]; exact rfl)
  case h0 => exact fun p => ⟨Nat.le_refl _, hB, o, a1, a2, a3, t, n, a4, fun h => absurd h (by decide)⟩
  case hmore => exact fun p L w1 w2 ⟨hsz, hB, o, a1, a2, a3, t, n, a4, h_a5⟩ hm => ⟨Nat.le_trans hsz hm.size, hB.trans (hm.mono (Nat.le_trans hW0 hsz)), o.below hm o.lt, a1.below hm a1.lt, a2.below hm a2.lt, a3.below hm a3.lt, t.below hm t.lt, n.below hm n.lt, a4.below hm a4.lt, fun hl => ⟨(h_a5 hl).1, (h_a5 hl).2.below hm (h_a5 hl).2.lt⟩⟩
  case hs =>
    intro more
    refine stepV 0 rfl rfl (fun _ _ _ h => h) ?_ ?_
    · rintro p L w1 ⟨hsz, hB, o, a1, a2, a3, t, n, a4, h_a5⟩ hk
      have L6 : L 6 = false := hk.2.2 6 rfl
      first | exact valR_row _ _ rfl _ rfl _ _ n _ Try.underlying24 rfl (by first | kernel_rfl | (rw [ofn_size]; kernel_rfl)) rfl | (have hc := n.cellIs (show _[0]? = some _ from rfl); go_simp; exact ⟨rfl, rfl⟩)
    refine stepD 1 rfl (fun p => rfl) (fun _ _ _ h => h) more ?_ ?_
    · rintro p L w1 ⟨hsz, hB, o, a1, a2, a3, t, n, a4, h_a5⟩ hk
      go_simp
      refine (PN.out _).mono ?_
      rintro e w2 ⟨rfl, h2⟩
      first | exact ⟨rfl, h2⟩ | (subst h2; exact ⟨rfl, Below.refl _ _⟩)
    refine stepV 2 rfl rfl (fun _ _ _ h => h) ?_ ?_
    · intros; go_simp; exact ⟨rfl, rfl⟩
    refine stepV 3 rfl rfl (fun _ _ _ h => h) ?_ ?_
    · intros; go_simp; exact ⟨rfl, rfl⟩
    refine stepV 4 rfl rfl (fun _ _ _ h => h) ?_ ?_
    · intros; go_simp; exact ⟨rfl, rfl⟩
    refine AllI.cons ?_ ?_
    · refine stepI_alloc 5 rfl (fun p => rfl) rfl (vfn fun _ => 0) 39 (fun p => rfl) ?_ ?_
      · intro p w1
        go_simp
        first | rfl | rw [zero_vec]
      rintro p L w1 ⟨hsz, hB, o, a1, a2, a3, t, n, a4, h_a5⟩ hk
      have L6 : L 6 = false := hk.2.2 6 rfl
      refine ⟨Nat.le_trans hsz (by simp), hB.alloc (Nat.le_trans (by first | exact hW0 | (have := hB.size; simp at this ⊢; omega)) hsz) _, o.alloc _, a1.alloc _, a2.alloc _, a3.alloc _, t.alloc _, n.alloc _, a4.alloc _, fun _ => ⟨hsz, ?_⟩⟩
      rw [show upL L 5 6 = false from L6]
      exact blk.new _ _ _
    refine AllI.cons ?_ ?_
    · refine stepI_store 6 rfl (fun p => rfl) (fun p => rfl) _ _ _ rfl (fun p => p 5) 0 (fun p => rfl) (fun p => (vfn (of3 0 1073741824 0))) (fun p => rfl) (fun p => (vfn fun _ => 0)) (fun p => (vfn (of3 0 1073741824 0))) 39 (fun p => over_v' _ _) (fun p => by first | (rw [vfn_size, vfn_size]; decide) | simp [vfn_size, vfn_size]) (fun p => by rw [vfn_size]; kernel_rfl) (fun p => vfn_one _) ?_ ?_
      · rintro p L w1 ⟨hsz, hB, o, a1, a2, a3, t, n, a4, h_a5⟩ hk
        have L6 : L 6 = false := hk.1
        have hh := (h_a5 (hk.2.1 5 rfl)).2
        rw [L6] at hh
        try simp only [cond_true, cond_false] at hh
        exact hh
      · rintro p L w1 ⟨hsz, hB, o, a1, a2, a3, t, n, a4, h_a5⟩ hk
        have L6 : L 6 = false := hk.1
        skip
        have hp := h_a5 (hk.2.1 5 rfl)
        refine ⟨(by simpa using hsz), Below.setRow hB (by first | exact Nat.le_trans hW0 hp.1 | exact ge_a5 | omega | (have := hB.size; simp at this ⊢; omega)) _, o.rowOther (by first | exact Nat.ne_of_lt (Nat.lt_of_lt_of_le lt_o hp.1) | omega) _, a1.rowOther (by first | exact Nat.ne_of_lt (Nat.lt_of_lt_of_le lt_a1 hp.1) | omega) _, a2.rowOther (by first | exact Nat.ne_of_lt (Nat.lt_of_lt_of_le lt_a2 hp.1) | omega) _, a3.rowOther (by first | exact Nat.ne_of_lt (Nat.lt_of_lt_of_le lt_a3 hp.1) | omega) _, t.rowOther (by first | exact Nat.ne_of_lt (Nat.lt_of_lt_of_le lt_t hp.1) | omega) _, n.rowOther (by first | exact Nat.ne_of_lt (Nat.lt_of_lt_of_le lt_n hp.1) | omega) _, a4.rowOther (by first | exact Nat.ne_of_lt (Nat.lt_of_lt_of_le lt_a4 hp.1) | omega) _, fun _ => ⟨hp.1, ?_⟩⟩
        rw [show upL L 6 6 = true from rfl]
        exact hp.2.row _
    refine stepV 7 rfl rfl (fun _ _ _ h => h) ?_ ?_
    · intros; go_simp; exact ⟨rfl, rfl⟩
    exact AllI.nil
  case hV0 =>
    intro p q
    refine AllI.cons ?_ ?_
    · skip
      iterate 8 (refine AllI.cons (by first | exact .inl rfl | (refine .inr ?_; simp only [List.getD_cons_zero, List.getD_cons_succ]; done) | exact .inr rfl) ?_)
      exact AllI.nil
    exact AllI.nil
  case he =>
  clear hB o a1 a2 a3 t n a4
  rintro p wrrrrrrrr ⟨hsz, hB, o, a1, a2, a3, t, n, a4, h_a5⟩
  obtain ⟨le_a5, a5⟩ := h_a5 rfl
  clear h_a5
  replace a5 : blk wrrrrrrrr (p 5) (vfn (of3 0 1073741824 0)) 39 := a5
  have ne_o_a5 : o_b ≠ p 5 := Nat.ne_of_lt (Nat.lt_of_lt_of_le lt_o le_a5)
  have ne_a1_a5 : a1_b ≠ p 5 := Nat.ne_of_lt (Nat.lt_of_lt_of_le lt_a1 le_a5)
  have ne_a2_a5 : a2_b ≠ p 5 := Nat.ne_of_lt (Nat.lt_of_lt_of_le lt_a2 le_a5)
  have ne_a3_a5 : a3_b ≠ p 5 := Nat.ne_of_lt (Nat.lt_of_lt_of_le lt_a3 le_a5)
  have ne_t_a5 : t_b ≠ p 5 := Nat.ne_of_lt (Nat.lt_of_lt_of_le lt_t le_a5)
  have ne_n_a5 : n_b ≠ p 5 := Nat.ne_of_lt (Nat.lt_of_lt_of_le lt_n le_a5)
  have ne_a4_a5 : a4_b ≠ p 5 := Nat.ne_of_lt (Nat.lt_of_lt_of_le lt_a4 le_a5)
  have ge_a5 : w.heap.size ≤ p 5 := Nat.le_trans hW0 le_a5
  generalize p 5 = a5_b at *
  clear lt_o
  clear lt_a1
  clear lt_a2
  clear lt_a3
  clear lt_t
  clear lt_n
  clear lt_a4
  clear hsz hW0
  go_upto_region 9 with (fail)
  have lt_o := o.lt
  have lt_a1 := a1.lt
  have lt_a2 := a2.lt
  have lt_a3 := a3.lt
  have lt_t := t.lt
  have lt_n := n.lt
  have lt_a4 := a4.lt
  have lt_a5 := a5.lt
  have hW0 : w.heap.size ≤ wrrrrrrrr.heap.size := by have := hB.size; first | exact this | simpa using this
  apply wp_region_Q 7 [0, 1, 3, 7, 15, 31, 63] [] [_, _, _, _, _, _, _] (fun p L w' => wrrrrrrrr.heap.size ≤ w'.heap.size ∧ Below w.heap.size w w' ∧ blk w' o_b (ofn osm) 24 ∧ blk w' a1_b (vfn (of3 1073741824 0 0)) 39 ∧ blk w' a2_b (vfn (of3 0 1073741824 0)) 39 ∧ blk w' a3_b (vfn (of3 0 1073741824 0)) 39 ∧ blk w' t_b (ofn osmt) 24 ∧ blk w' n_b (ofn osmn) 24 ∧ blk w' a4_b (vfn (of3 0 0 1073741824)) 39 ∧ blk w' a5_b (vfn (of3 0 1073741824 0)) 39) _ [(0, 62), (1, 63), (2, 61), (3, 64), (4, 65), (5, 14), (6, 15)] [0, 1, 2, 3, 4, 5, 6]
  case hn => rfl
  case hB => kernel_rfl
  case hds => kernel_rfl
  case hA => (intro p; simp only [putsD, Act.put, List.setIfInBounds_toArray, List.set_cons_zero, List.set_cons_succ, List.getD_cons_zero, List.getD_cons_succ]; exact rfl)
  case h0 => exact fun p => ⟨Nat.le_refl _, hB, o, a1, a2, a3, t, n, a4, a5⟩
  case hmore => exact fun p L w1 w2 ⟨hsz, hB, o, a1, a2, a3, t, n, a4, a5⟩ hm => ⟨Nat.le_trans hsz hm.size, hB.trans (hm.mono (Nat.le_trans hW0 hsz)), o.below hm o.lt, a1.below hm a1.lt, a2.below hm a2.lt, a3.below hm a3.lt, t.below hm t.lt, n.below hm n.lt, a4.below hm a4.lt, a5.below hm a5.lt⟩
  case hs =>
    intro more
    refine stepV 0 rfl rfl (fun _ _ _ h => h) ?_ ?_
    · rintro p L w1 ⟨hsz, hB, o, a1, a2, a3, t, n, a4, a5⟩ hk
      first | exact valR_row _ _ rfl _ rfl _ _ o _ Try.underlying24 rfl (by first | kernel_rfl | (rw [ofn_size]; kernel_rfl)) rfl | (have hc := o.cellIs (show _[0]? = some _ from rfl); go_simp; exact ⟨rfl, rfl⟩)
    refine stepD 1 rfl (fun p => rfl) (fun _ _ _ h => h) more ?_ ?_
    · rintro p L w1 ⟨hsz, hB, o, a1, a2, a3, t, n, a4, a5⟩ hk
      go_simp
      refine (D0.out _).mono ?_
      rintro e w2 ⟨rfl, h2⟩
      first | exact ⟨rfl, h2⟩ | (subst h2; exact ⟨rfl, Below.refl _ _⟩)
    refine stepV 2 rfl rfl (fun _ _ _ h => h) ?_ ?_
    · intros; go_simp; exact ⟨rfl, rfl⟩
    refine stepV 3 rfl rfl (fun _ _ _ h => h) ?_ ?_
    · intros; go_simp; exact ⟨rfl, rfl⟩
    refine stepV 4 rfl rfl (fun _ _ _ h => h) ?_ ?_
    · intros; go_simp; exact ⟨rfl, rfl⟩
    refine stepV 5 rfl rfl (fun _ _ _ h => h) ?_ ?_
    · intros; go_simp; exact ⟨rfl, rfl⟩
    refine stepV 6 rfl rfl (fun _ _ _ h => h) ?_ ?_
    · intros; go_simp; exact ⟨rfl, rfl⟩
    exact AllI.nil
  case hV0 => exact fun p q => AllI.nil
  case he =>
  clear hB o a1 a2 a3 t n a4 a5
  rintro p wrrrrrrrrr ⟨hsz, hB, o, a1, a2, a3, t, n, a4, a5⟩
  clear lt_o
  clear lt_a1
  clear lt_a2
  clear lt_a3
  clear lt_t
  clear lt_n
  clear lt_a4
  clear lt_a5
  clear hsz hW0
  go_upto_region 10 with (fail)
  have lt_o := o.lt
  have lt_a1 := a1.lt
  have lt_a2 := a2.lt
  have lt_a3 := a3.lt
  have lt_t := t.lt
  have lt_n := n.lt
  have lt_a4 := a4.lt
  have lt_a5 := a5.lt
  have hW0 : w.heap.size ≤ wrrrrrrrrr.heap.size := by have := hB.size; first | exact this | simpa using this
  apply wp_region_Q 7 [0, 1, 3, 7, 15, 31, 63] [] [_, _, _, _, _, _, _] (fun p L w' => wrrrrrrrrr.heap.size ≤ w'.heap.size ∧ Below w.heap.size w w' ∧ blk w' o_b (ofn osm) 24 ∧ blk w' a1_b (vfn (of3 1073741824 0 0)) 39 ∧ blk w' a2_b (vfn (of3 0 1073741824 0)) 39 ∧ blk w' a3_b (vfn (of3 0 1073741824 0)) 39 ∧ blk w' t_b (ofn osmt) 24 ∧ blk w' n_b (ofn osmn) 24 ∧ blk w' a4_b (vfn (of3 0 0 1073741824)) 39 ∧ blk w' a5_b (vfn (of3 0 1073741824 0)) 39) _ [(0, 67), (1, 68), (2, 66), (3, 69), (4, 70), (5, 16), (6, 17)] [0, 1, 2, 3, 4, 5, 6]
  case hn => rfl
  case hB => kernel_rfl
  case hds => kernel_rfl
  case hA => (intro p; simp only [putsD, Act.put, List.setIfInBounds_toArray, List.set_cons_zero, List.set_cons_succ, List.getD_cons_zero, List.getD_cons_succ]; exact rfl)
  case h0 => exact fun p => ⟨Nat.le_refl _, hB, o, a1, a2, a3, t, n, a4, a5⟩
  case hmore => exact fun p L w1 w2 ⟨hsz, hB, o, a1, a2, a3, t, n, a4, a5⟩ hm => ⟨Nat.le_trans hsz hm.size, hB.trans (hm.mono (Nat.le_trans hW0 hsz)), o.below hm o.lt, a1.below hm a1.lt, a2.below hm a2.lt, a3.below hm a3.lt, t.below hm t.lt, n.below hm n.lt, a4.below hm a4.lt, a5.below hm a5.lt⟩
  case hs =>
    intro more
    refine stepV 0 rfl rfl (fun _ _ _ h => h) ?_ ?_
    · rintro p L w1 ⟨hsz, hB, o, a1, a2, a3, t, n, a4, a5⟩ hk
      first | exact valR_row _ _ rfl _ rfl _ _ o _ Try.underlying24 rfl (by first | kernel_rfl | (rw [ofn_size]; kernel_rfl)) rfl | (have hc := o.cellIs (show _[0]? = some _ from rfl); go_simp; exact ⟨rfl, rfl⟩)
    refine stepD 1 rfl (fun p => rfl) (fun _ _ _ h => h) more ?_ ?_
    · rintro p L w1 ⟨hsz, hB, o, a1, a2, a3, t, n, a4, a5⟩ hk
      go_simp
      refine (D2.out _).mono ?_
      rintro e w2 ⟨rfl, h2⟩
      first | exact ⟨rfl, h2⟩ | (subst h2; exact ⟨rfl, Below.refl _ _⟩)
    refine stepV 2 rfl rfl (fun _ _ _ h => h) ?_ ?_
    · intros; go_simp; exact ⟨rfl, rfl⟩
    refine stepV 3 rfl rfl (fun _ _ _ h => h) ?_ ?_
    · intros; go_simp; exact ⟨rfl, rfl⟩
    refine stepV 4 rfl rfl (fun _ _ _ h => h) ?_ ?_
    · intros; go_simp; exact ⟨rfl, rfl⟩
    refine stepV 5 rfl rfl (fun _ _ _ h => h) ?_ ?_
    · intros; go_simp; exact ⟨rfl, rfl⟩
    refine stepV 6 rfl rfl (fun _ _ _ h => h) ?_ ?_
    · intros; go_simp; exact ⟨rfl, rfl⟩
    exact AllI.nil
  case hV0 => exact fun p q => AllI.nil
  case he =>
  clear hB o a1 a2 a3 t n a4 a5
  rintro p wrrrrrrrrrr ⟨hsz, hB, o, a1, a2, a3, t, n, a4, a5⟩
  clear lt_o
  clear lt_a1
  clear lt_a2
  clear lt_a3
  clear lt_t
  clear lt_n
  clear lt_a4
  clear lt_a5
  clear hsz hW0
  go_upto_region 11 with (fail)
  have lt_o := o.lt
  have lt_a1 := a1.lt
  have lt_a2 := a2.lt
  have lt_a3 := a3.lt
  have lt_t := t.lt
  have lt_n := n.lt
  have lt_a4 := a4.lt
  have lt_a5 := a5.lt
  have hW0 : w.heap.size ≤ wrrrrrrrrrr.heap.size := by have := hB.size; first | exact this | simpa using this
  apply wp_region_Q 3 [0, 1, 3] [1] [_, (fun p => .pointer (some ⟨p 1, 0, none⟩)), (fun _ => undef)] (fun p L w' => wrrrrrrrrrr.heap.size ≤ w'.heap.size ∧ Below w.heap.size w w' ∧ blk w' o_b (ofn osm) 24 ∧ blk w' a1_b (vfn (of3 1073741824 0 0)) 39 ∧ blk w' a2_b (vfn (of3 0 1073741824 0)) 39 ∧ blk w' a3_b (vfn (of3 0 1073741824 0)) 39 ∧ blk w' t_b (ofn osmt) 24 ∧ blk w' n_b (ofn osmn) 24 ∧ blk w' a4_b (vfn (of3 0 0 1073741824)) 39 ∧ blk w' a5_b (vfn (of3 0 1073741824 0)) 39 ∧ (L 1 = true → wrrrrrrrrrr.heap.size ≤ p 1 ∧ blk w' (p 1) (bif L 2 then (stn ost0) else (stn fun _ => 0)) 26)) _ [(0, 71), (1, 18)] [0, 1, 2]
  case hn => rfl
  case hB => kernel_rfl
  case hds => kernel_rfl
  case hA => (intro p; simp only [putsD, Act.put, List.setIfInBounds_toArray, List.set_cons_zero, List.set_cons_succ, List.getD_cons_zero, List.getD_cons_succ]; exact rfl)
  case h0 => exact fun p => ⟨Nat.le_refl _, hB, o, a1, a2, a3, t, n, a4, a5, fun h => absurd h (by decide)⟩
  case hmore => exact fun p L w1 w2 ⟨hsz, hB, o, a1, a2, a3, t, n, a4, a5, h_c⟩ hm => ⟨Nat.le_trans hsz hm.size, hB.trans (hm.mono (Nat.le_trans hW0 hsz)), o.below hm o.lt, a1.below hm a1.lt, a2.below hm a2.lt, a3.below hm a3.lt, t.below hm t.lt, n.below hm n.lt, a4.below hm a4.lt, a5.below hm a5.lt, fun hl => ⟨(h_c hl).1, (h_c hl).2.below hm (h_c hl).2.lt⟩⟩
  case hs =>
    intro more
    refine stepV 0 rfl rfl (fun _ _ _ h => h) ?_ ?_
    · intros; try simp only [vfn, qfn]; go_simp; exact ⟨rfl, rfl⟩
    refine AllI.cons ?_ ?_
    · refine stepI_alloc 1 rfl (fun p => rfl) rfl (stn fun _ => 0) 26 (fun p => rfl) ?_ ?_
      · intro p w1
        go_simp
        first | rfl | rw [zero_stn]
      rintro p L w1 ⟨hsz, hB, o, a1, a2, a3, t, n, a4, a5, h_c⟩ hk
      have L2 : L 2 = false := hk.2.2 2 rfl
      refine ⟨Nat.le_trans hsz (by simp), hB.alloc (Nat.le_trans (by first | exact hW0 | (have := hB.size; simp at this ⊢; omega)) hsz) _, o.alloc _, a1.alloc _, a2.alloc _, a3.alloc _, t.alloc _, n.alloc _, a4.alloc _, a5.alloc _, fun _ => ⟨hsz, ?_⟩⟩
      rw [show upL L 1 2 = false from L2]
      exact blk.new _ _ _
    refine AllI.cons ?_ ?_
    · refine stepI_store 2 rfl (fun p => rfl) (fun p => rfl) _ _ _ rfl (fun p => p 1) 0 (fun p => rfl) (fun p => (stn ost0)) (fun p => congrArg Value.agg ost0_cells) (fun p => (stn fun _ => 0)) (fun p => (stn ost0)) 26 (fun p => over_s _ _) (fun p => by first | (rw [stn_size, stn_size]; decide) | simp [stn_size, stn_size]) (fun p => by rw [stn_size]; kernel_rfl) (fun p => stn_one _) ?_ ?_
      · rintro p L w1 ⟨hsz, hB, o, a1, a2, a3, t, n, a4, a5, h_c⟩ hk
        have L2 : L 2 = false := hk.1
        have hh := (h_c (hk.2.1 1 rfl)).2
        rw [L2] at hh
        try simp only [cond_true, cond_false] at hh
        exact hh
      · rintro p L w1 ⟨hsz, hB, o, a1, a2, a3, t, n, a4, a5, h_c⟩ hk
        have L2 : L 2 = false := hk.1
        skip
        have hp := h_c (hk.2.1 1 rfl)
        refine ⟨(by simpa using hsz), Below.setRow hB (by first | exact Nat.le_trans hW0 hp.1 | exact ge_c | omega | (have := hB.size; simp at this ⊢; omega)) _, o.rowOther (by first | exact Nat.ne_of_lt (Nat.lt_of_lt_of_le lt_o hp.1) | omega) _, a1.rowOther (by first | exact Nat.ne_of_lt (Nat.lt_of_lt_of_le lt_a1 hp.1) | omega) _, a2.rowOther (by first | exact Nat.ne_of_lt (Nat.lt_of_lt_of_le lt_a2 hp.1) | omega) _, a3.rowOther (by first | exact Nat.ne_of_lt (Nat.lt_of_lt_of_le lt_a3 hp.1) | omega) _, t.rowOther (by first | exact Nat.ne_of_lt (Nat.lt_of_lt_of_le lt_t hp.1) | omega) _, n.rowOther (by first | exact Nat.ne_of_lt (Nat.lt_of_lt_of_le lt_n hp.1) | omega) _, a4.rowOther (by first | exact Nat.ne_of_lt (Nat.lt_of_lt_of_le lt_a4 hp.1) | omega) _, a5.rowOther (by first | exact Nat.ne_of_lt (Nat.lt_of_lt_of_le lt_a5 hp.1) | omega) _, fun _ => ⟨hp.1, ?_⟩⟩
        rw [show upL L 2 2 = true from rfl]
        exact hp.2.row _
    exact AllI.nil
  case hV0 =>
    intro p q
    refine AllI.cons ?_ ?_
    · skip
      iterate 3 (refine AllI.cons (by first | exact .inl rfl | (refine .inr ?_; simp only [List.getD_cons_zero, List.getD_cons_succ]; done) | exact .inr rfl) ?_)
      exact AllI.nil
    exact AllI.nil
  case he =>
  clear hB o a1 a2 a3 t n a4 a5
  rintro p wrrrrrrrrrrr ⟨hsz, hB, o, a1, a2, a3, t, n, a4, a5, h_c⟩
  obtain ⟨le_c, c⟩ := h_c rfl
  clear h_c
  replace c : blk wrrrrrrrrrrr (p 1) (stn ost0) 26 := c
  have ne_o_c : o_b ≠ p 1 := Nat.ne_of_lt (Nat.lt_of_lt_of_le lt_o le_c)
  have ne_a1_c : a1_b ≠ p 1 := Nat.ne_of_lt (Nat.lt_of_lt_of_le lt_a1 le_c)
  have ne_a2_c : a2_b ≠ p 1 := Nat.ne_of_lt (Nat.lt_of_lt_of_le lt_a2 le_c)
  have ne_a3_c : a3_b ≠ p 1 := Nat.ne_of_lt (Nat.lt_of_lt_of_le lt_a3 le_c)
  have ne_t_c : t_b ≠ p 1 := Nat.ne_of_lt (Nat.lt_of_lt_of_le lt_t le_c)
  have ne_n_c : n_b ≠ p 1 := Nat.ne_of_lt (Nat.lt_of_lt_of_le lt_n le_c)
  have ne_a4_c : a4_b ≠ p 1 := Nat.ne_of_lt (Nat.lt_of_lt_of_le lt_a4 le_c)
  have ne_a5_c : a5_b ≠ p 1 := Nat.ne_of_lt (Nat.lt_of_lt_of_le lt_a5 le_c)
  have ge_c : w.heap.size ≤ p 1 := Nat.le_trans hW0 le_c
  generalize p 1 = c_b at *
  clear lt_o
  clear lt_a1
  clear lt_a2
  clear lt_a3
  clear lt_t
  clear lt_n
  clear lt_a4
  clear lt_a5
  clear hsz hW0
  go_upto_region 12 with (fail)
  have lt_o := o.lt
  have lt_a1 := a1.lt
  have lt_a2 := a2.lt
  have lt_a3 := a3.lt
  have lt_t := t.lt
  have lt_n := n.lt
  have lt_a4 := a4.lt
  have lt_a5 := a5.lt
  have lt_c := c.lt
  have hW0 : w.heap.size ≤ wrrrrrrrrrrr.heap.size := by have := hB.size; first | exact this | simpa using this
  apply wp_region_Q 9 [0, 1, 3, 7, 15, 31, 63, 127, 255] [6] [_, _, _, _, _, _, (fun p => .pointer (some ⟨p 6, 0, none⟩)), (fun _ => undef), _] (fun p L w' => wrrrrrrrrrrr.heap.size ≤ w'.heap.size ∧ Below w.heap.size w w' ∧ blk w' o_b (ofn osm) 24 ∧ blk w' a1_b (vfn (of3 1073741824 0 0)) 39 ∧ blk w' a2_b (vfn (of3 0 1073741824 0)) 39 ∧ blk w' a3_b (vfn (of3 0 1073741824 0)) 39 ∧ blk w' t_b (ofn osmt) 24 ∧ blk w' n_b (ofn osmn) 24 ∧ blk w' a4_b (vfn (of3 0 0 1073741824)) 39 ∧ blk w' a5_b (vfn (of3 0 1073741824 0)) 39 ∧ blk w' c_b (stn ost0) 26 ∧ (L 6 = true → wrrrrrrrrrrr.heap.size ≤ p 6 ∧ blk w' (p 6) (bif L 7 then (vfn (of3 0 1073741824 0)) else (vfn fun _ => 0)) 39)) _ [(0, 73), (1, 74), (2, 75), (3, 72), (4, 76), (5, 77), (6, 19), (8, 20)] [0, 1, 2, 3, 4, 5, 6, 7, 8]
  case hn => rfl
  case hB => kernel_rfl
  case hds => kernel_rfl
  case hA => (intro p; simp only [putsD, Act.put, List.setIfInBounds_toArray, List.set_cons_zero, List.set_cons_succ, List.getD_cons_zero, List.getD_cons_succ]; exact rfl)
  case h0 => exact fun p => ⟨Nat.le_refl _, hB, o, a1, a2, a3, t, n, a4, a5, c, fun h => absurd h (by decide)⟩
  case hmore => exact fun p L w1 w2 ⟨hsz, hB, o, a1, a2, a3, t, n, a4, a5, c, h_a6⟩ hm => ⟨Nat.le_trans hsz hm.size, hB.trans (hm.mono (Nat.le_trans hW0 hsz)), o.below hm o.lt, a1.below hm a1.lt, a2.below hm a2.lt, a3.below hm a3.lt, t.below hm t.lt, n.below hm n.lt, a4.below hm a4.lt, a5.below hm a5.lt, c.below hm c.lt, fun hl => ⟨(h_a6 hl).1, (h_a6 hl).2.below hm (h_a6 hl).2.lt⟩⟩
  case hs =>
    intro more
    refine stepV 0 rfl rfl (fun _ _ _ h => h) ?_ ?_
    · rintro p L w1 ⟨hsz, hB, o, a1, a2, a3, t, n, a4, a5, c, h_a6⟩ hk
      have L7 : L 7 = false := hk.2.2 7 rfl
      first | exact valR_row _ _ rfl _ rfl _ _ o _ Try.underlying24 rfl (by first | kernel_rfl | (rw [ofn_size]; kernel_rfl)) rfl | (have hc := o.cellIs (show _[0]? = some _ from rfl); go_simp; exact ⟨rfl, rfl⟩)
    refine stepV 1 rfl rfl (fun _ _ _ h => h) ?_ ?_
    · rintro p L w1 ⟨hsz, hB, o, a1, a2, a3, t, n, a4, a5, c, h_a6⟩ hk
      have L7 : L 7 = false := hk.2.2 7 rfl
      first | exact valR_row _ _ rfl _ rfl _ _ c _ Try.underlying26 rfl (by first | kernel_rfl | (rw [stn_size]; kernel_rfl)) rfl | (have hc := c.cellIs (show _[0]? = some _ from rfl); go_simp; exact ⟨rfl, rfl⟩)
    refine stepD 2 rfl (fun p => rfl) (fun _ _ _ h => h) more ?_ ?_
    · rintro p L w1 ⟨hsz, hB, o, a1, a2, a3, t, n, a4, a5, c, h_a6⟩ hk
      go_simp
      refine (ST.out _).mono ?_
      rintro e w2 ⟨rfl, h2⟩
      first | exact ⟨rfl, h2⟩ | (subst h2; exact ⟨rfl, Below.refl _ _⟩)
    refine stepV 3 rfl rfl (fun _ _ _ h => h) ?_ ?_
    · intros; go_simp; exact ⟨rfl, rfl⟩
    refine stepV 4 rfl rfl (fun _ _ _ h => h) ?_ ?_
    · intros; go_simp; exact ⟨rfl, rfl⟩
    refine stepV 5 rfl rfl (fun _ _ _ h => h) ?_ ?_
    · intros; go_simp; exact ⟨rfl, rfl⟩
    refine AllI.cons ?_ ?_
    · refine stepI_alloc 6 rfl (fun p => rfl) rfl (vfn fun _ => 0) 39 (fun p => rfl) ?_ ?_
      · intro p w1
        go_simp
        first | rfl | rw [zero_vec]
      rintro p L w1 ⟨hsz, hB, o, a1, a2, a3, t, n, a4, a5, c, h_a6⟩ hk
      have L7 : L 7 = false := hk.2.2 7 rfl
      refine ⟨Nat.le_trans hsz (by simp), hB.alloc (Nat.le_trans (by first | exact hW0 | (have := hB.size; simp at this ⊢; omega)) hsz) _, o.alloc _, a1.alloc _, a2.alloc _, a3.alloc _, t.alloc _, n.alloc _, a4.alloc _, a5.alloc _, c.alloc _, fun _ => ⟨hsz, ?_⟩⟩
      rw [show upL L 6 7 = false from L7]
      exact blk.new _ _ _
    refine AllI.cons ?_ ?_
    · refine stepI_store 7 rfl (fun p => rfl) (fun p => rfl) _ _ _ rfl (fun p => p 6) 0 (fun p => rfl) (fun p => (vfn (of3 0 1073741824 0))) (fun p => rfl) (fun p => (vfn fun _ => 0)) (fun p => (vfn (of3 0 1073741824 0))) 39 (fun p => over_v' _ _) (fun p => by first | (rw [vfn_size, vfn_size]; decide) | simp [vfn_size, vfn_size]) (fun p => by rw [vfn_size]; kernel_rfl) (fun p => vfn_one _) ?_ ?_
      · rintro p L w1 ⟨hsz, hB, o, a1, a2, a3, t, n, a4, a5, c, h_a6⟩ hk
        have L7 : L 7 = false := hk.1
        have hh := (h_a6 (hk.2.1 6 rfl)).2
        rw [L7] at hh
        try simp only [cond_true, cond_false] at hh
        exact hh
      · rintro p L w1 ⟨hsz, hB, o, a1, a2, a3, t, n, a4, a5, c, h_a6⟩ hk
        have L7 : L 7 = false := hk.1
        skip
        have hp := h_a6 (hk.2.1 6 rfl)
        refine ⟨(by simpa using hsz), Below.setRow hB (by first | exact Nat.le_trans hW0 hp.1 | exact ge_a6 | omega | (have := hB.size; simp at this ⊢; omega)) _, o.rowOther (by first | exact Nat.ne_of_lt (Nat.lt_of_lt_of_le lt_o hp.1) | omega) _, a1.rowOther (by first | exact Nat.ne_of_lt (Nat.lt_of_lt_of_le lt_a1 hp.1) | omega) _, a2.rowOther (by first | exact Nat.ne_of_lt (Nat.lt_of_lt_of_le lt_a2 hp.1) | omega) _, a3.rowOther (by first | exact Nat.ne_of_lt (Nat.lt_of_lt_of_le lt_a3 hp.1) | omega) _, t.rowOther (by first | exact Nat.ne_of_lt (Nat.lt_of_lt_of_le lt_t hp.1) | omega) _, n.rowOther (by first | exact Nat.ne_of_lt (Nat.lt_of_lt_of_le lt_n hp.1) | omega) _, a4.rowOther (by first | exact Nat.ne_of_lt (Nat.lt_of_lt_of_le lt_a4 hp.1) | omega) _, a5.rowOther (by first | exact Nat.ne_of_lt (Nat.lt_of_lt_of_le lt_a5 hp.1) | omega) _, c.rowOther (by first | exact Nat.ne_of_lt (Nat.lt_of_lt_of_le lt_c hp.1) | omega) _, fun _ => ⟨hp.1, ?_⟩⟩
        rw [show upL L 7 7 = true from rfl]
        exact hp.2.row _
    refine stepV 8 rfl rfl (fun _ _ _ h => h) ?_ ?_
    · intros; go_simp; exact ⟨rfl, rfl⟩
    exact AllI.nil
  case hV0 =>
    intro p q
    refine AllI.cons ?_ ?_
    · skip
      iterate 9 (refine AllI.cons (by first | exact .inl rfl | (refine .inr ?_; simp only [List.getD_cons_zero, List.getD_cons_succ]; done) | exact .inr rfl) ?_)
      exact AllI.nil
    exact AllI.nil
  case he =>
  clear hB o a1 a2 a3 t n a4 a5 c
  rintro p wrrrrrrrrrrrr ⟨hsz, hB, o, a1, a2, a3, t, n, a4, a5, c, h_a6⟩
  obtain ⟨le_a6, a6⟩ := h_a6 rfl
  clear h_a6
  replace a6 : blk wrrrrrrrrrrrr (p 6) (vfn (of3 0 1073741824 0)) 39 := a6
  have ne_o_a6 : o_b ≠ p 6 := Nat.ne_of_lt (Nat.lt_of_lt_of_le lt_o le_a6)
  have ne_a1_a6 : a1_b ≠ p 6 := Nat.ne_of_lt (Nat.lt_of_lt_of_le lt_a1 le_a6)
  have ne_a2_a6 : a2_b ≠ p 6 := Nat.ne_of_lt (Nat.lt_of_lt_of_le lt_a2 le_a6)
  have ne_a3_a6 : a3_b ≠ p 6 := Nat.ne_of_lt (Nat.lt_of_lt_of_le lt_a3 le_a6)
  have ne_t_a6 : t_b ≠ p 6 := Nat.ne_of_lt (Nat.lt_of_lt_of_le lt_t le_a6)
  have ne_n_a6 : n_b ≠ p 6 := Nat.ne_of_lt (Nat.lt_of_lt_of_le lt_n le_a6)
  have ne_a4_a6 : a4_b ≠ p 6 := Nat.ne_of_lt (Nat.lt_of_lt_of_le lt_a4 le_a6)
  have ne_a5_a6 : a5_b ≠ p 6 := Nat.ne_of_lt (Nat.lt_of_lt_of_le lt_a5 le_a6)
  have ne_c_a6 : c_b ≠ p 6 := Nat.ne_of_lt (Nat.lt_of_lt_of_le lt_c le_a6)
  have ge_a6 : w.heap.size ≤ p 6 := Nat.le_trans hW0 le_a6
  generalize p 6 = a6_b at *
  clear lt_o
  clear lt_a1
  clear lt_a2
  clear lt_a3
  clear lt_t
  clear lt_n
  clear lt_a4
  clear lt_a5
  clear lt_c
  clear hsz hW0
  go_upto_region 13 with (fail)
  have lt_o := o.lt
  have lt_a1 := a1.lt
  have lt_a2 := a2.lt
  have lt_a3 := a3.lt
  have lt_t := t.lt
  have lt_n := n.lt
  have lt_a4 := a4.lt
  have lt_a5 := a5.lt
  have lt_c := c.lt
  have lt_a6 := a6.lt
  have hW0 : w.heap.size ≤ wrrrrrrrrrrrr.heap.size := by have := hB.size; first | exact this | simpa using this
  apply wp_region_Q 8 [0, 1, 3, 7, 15, 31, 63, 127] [] [_, _, _, _, _, _, _, _] (fun p L w' => wrrrrrrrrrrrr.heap.size ≤ w'.heap.size ∧ Below w.heap.size w w' ∧ blk w' o_b (ofn osm) 24 ∧ blk w' a1_b (vfn (of3 1073741824 0 0)) 39 ∧ blk w' a2_b (vfn (of3 0 1073741824 0)) 39 ∧ blk w' a3_b (vfn (of3 0 1073741824 0)) 39 ∧ blk w' t_b (ofn osmt) 24 ∧ blk w' n_b (ofn osmn) 24 ∧ blk w' a4_b (vfn (of3 0 0 1073741824)) 39 ∧ blk w' a5_b (vfn (of3 0 1073741824 0)) 39 ∧ blk w' c_b (stn ost0) 26 ∧ blk w' a6_b (vfn (of3 0 1073741824 0)) 39) _ [(0, 79), (1, 80), (2, 81), (3, 78), (4, 82), (5, 83), (6, 21), (7, 22)] [0, 1, 2, 3, 4, 5, 6, 7]
  case hn => rfl
  case hB => kernel_rfl
  case hds => kernel_rfl
  case hA => (intro p; simp only [putsD, Act.put, List.setIfInBounds_toArray, List.set_cons_zero, List.set_cons_succ, List.getD_cons_zero, List.getD_cons_succ]; exact rfl)
  case h0 => exact fun p => ⟨Nat.le_refl _, hB, o, a1, a2, a3, t, n, a4, a5, c, a6⟩
  case hmore => exact fun p L w1 w2 ⟨hsz, hB, o, a1, a2, a3, t, n, a4, a5, c, a6⟩ hm => ⟨Nat.le_trans hsz hm.size, hB.trans (hm.mono (Nat.le_trans hW0 hsz)), o.below hm o.lt, a1.below hm a1.lt, a2.below hm a2.lt, a3.below hm a3.lt, t.below hm t.lt, n.below hm n.lt, a4.below hm a4.lt, a5.below hm a5.lt, c.below hm c.lt, a6.below hm a6.lt⟩
  case hs =>
    intro more
    refine stepV 0 rfl rfl (fun _ _ _ h => h) ?_ ?_
    · rintro p L w1 ⟨hsz, hB, o, a1, a2, a3, t, n, a4, a5, c, a6⟩ hk
      first | exact valR_row _ _ rfl _ rfl _ _ o _ Try.underlying24 rfl (by first | kernel_rfl | (rw [ofn_size]; kernel_rfl)) rfl | (have hc := o.cellIs (show _[0]? = some _ from rfl); go_simp; exact ⟨rfl, rfl⟩)
    refine stepV 1 rfl rfl (fun _ _ _ h => h) ?_ ?_
    · rintro p L w1 ⟨hsz, hB, o, a1, a2, a3, t, n, a4, a5, c, a6⟩ hk
      first | exact valR_row _ _ rfl _ rfl _ _ c _ Try.underlying26 rfl (by first | kernel_rfl | (rw [stn_size]; kernel_rfl)) rfl | (have hc := c.cellIs (show _[0]? = some _ from rfl); go_simp; exact ⟨rfl, rfl⟩)
    refine stepD 2 rfl (fun p => rfl) (fun _ _ _ h => h) more ?_ ?_
    · rintro p L w1 ⟨hsz, hB, o, a1, a2, a3, t, n, a4, a5, c, a6⟩ hk
      go_simp
      refine (V2.out _).mono ?_
      rintro e w2 ⟨rfl, h2⟩
      first | exact ⟨rfl, h2⟩ | (subst h2; exact ⟨rfl, Below.refl _ _⟩)
    refine stepV 3 rfl rfl (fun _ _ _ h => h) ?_ ?_
    · intros; go_simp; exact ⟨rfl, rfl⟩
    refine stepV 4 rfl rfl (fun _ _ _ h => h) ?_ ?_
    · intros; go_simp; exact ⟨rfl, rfl⟩
    refine stepV 5 rfl rfl (fun _ _ _ h => h) ?_ ?_
    · intros; go_simp; exact ⟨rfl, rfl⟩
    refine stepV 6 rfl rfl (fun _ _ _ h => h) ?_ ?_
    · intros; go_simp; exact ⟨rfl, rfl⟩
    refine stepV 7 rfl rfl (fun _ _ _ h => h) ?_ ?_
    · intros; go_simp; exact ⟨rfl, rfl⟩
    exact AllI.nil
  case hV0 => exact fun p q => AllI.nil
  case he =>
  clear hB o a1 a2 a3 t n a4 a5 c a6
  rintro p wrrrrrrrrrrrrr ⟨hsz, hB, o, a1, a2, a3, t, n, a4, a5, c, a6⟩
  clear lt_o
  clear lt_a1
  clear lt_a2
  clear lt_a3
  clear lt_t
  clear lt_n
  clear lt_a4
  clear lt_a5
  clear lt_c
  clear lt_a6
  clear hsz hW0
  go_upto_region 14 with (fail)
  have lt_o := o.lt
  have lt_a1 := a1.lt
  have lt_a2 := a2.lt
  have lt_a3 := a3.lt
  have lt_t := t.lt
  have lt_n := n.lt
  have lt_a4 := a4.lt
  have lt_a5 := a5.lt
  have lt_c := c.lt
  have lt_a6 := a6.lt
  have hW0 : w.heap.size ≤ wrrrrrrrrrrrrr.heap.size := by have := hB.size; first | exact this | simpa using this
  apply wp_region_Q 8 [0, 1, 3, 7, 15, 31, 63, 127] [] [_, _, _, _, _, _, _, _] (fun p L w' => wrrrrrrrrrrrrr.heap.size ≤ w'.heap.size ∧ Below w.heap.size w w' ∧ blk w' o_b (ofn osm) 24 ∧ blk w' a1_b (vfn (of3 1073741824 0 0)) 39 ∧ blk w' a2_b (vfn (of3 0 1073741824 0)) 39 ∧ blk w' a3_b (vfn (of3 0 1073741824 0)) 39 ∧ blk w' t_b (ofn osmt) 24 ∧ blk w' n_b (ofn osmn) 24 ∧ blk w' a4_b (vfn (of3 0 0 1073741824)) 39 ∧ blk w' a5_b (vfn (of3 0 1073741824 0)) 39 ∧ blk w' c_b (stn ost0) 26 ∧ blk w' a6_b (vfn (of3 0 1073741824 0)) 39) _ [(0, 85), (1, 86), (2, 87), (3, 84), (4, 88), (5, 89), (6, 23), (7, 24)] [0, 1, 2, 3, 4, 5, 6, 7]
  case hn => rfl
  case hB => kernel_rfl
  case hds => kernel_rfl
  case hA => (intro p; simp only [putsD, Act.put, List.setIfInBounds_toArray, List.set_cons_zero, List.set_cons_succ, List.getD_cons_zero, List.getD_cons_succ]; exact rfl)
  case h0 => exact fun p => ⟨Nat.le_refl _, hB, o, a1, a2, a3, t, n, a4, a5, c, a6⟩
  case hmore => exact fun p L w1 w2 ⟨hsz, hB, o, a1, a2, a3, t, n, a4, a5, c, a6⟩ hm => ⟨Nat.le_trans hsz hm.size, hB.trans (hm.mono (Nat.le_trans hW0 hsz)), o.below hm o.lt, a1.below hm a1.lt, a2.below hm a2.lt, a3.below hm a3.lt, t.below hm t.lt, n.below hm n.lt, a4.below hm a4.lt, a5.below hm a5.lt, c.below hm c.lt, a6.below hm a6.lt⟩
  case hs =>
    intro more
    refine stepV 0 rfl rfl (fun _ _ _ h => h) ?_ ?_
    · rintro p L w1 ⟨hsz, hB, o, a1, a2, a3, t, n, a4, a5, c, a6⟩ hk
      first | exact valR_row _ _ rfl _ rfl _ _ o _ Try.underlying24 rfl (by first | kernel_rfl | (rw [ofn_size]; kernel_rfl)) rfl | (have hc := o.cellIs (show _[0]? = some _ from rfl); go_simp; exact ⟨rfl, rfl⟩)
    refine stepV 1 rfl rfl (fun _ _ _ h => h) ?_ ?_
    · rintro p L w1 ⟨hsz, hB, o, a1, a2, a3, t, n, a4, a5, c, a6⟩ hk
      first | exact valR_row _ _ rfl _ rfl _ _ c _ Try.underlying26 rfl (by first | kernel_rfl | (rw [stn_size]; kernel_rfl)) rfl | (have hc := c.cellIs (show _[0]? = some _ from rfl); go_simp; exact ⟨rfl, rfl⟩)
    refine stepD 2 rfl (fun p => rfl) (fun _ _ _ h => h) more ?_ ?_
    · rintro p L w1 ⟨hsz, hB, o, a1, a2, a3, t, n, a4, a5, c, a6⟩ hk
      go_simp
      refine (V3.out _).mono ?_
      rintro e w2 ⟨rfl, h2⟩
      first | exact ⟨rfl, h2⟩ | (subst h2; exact ⟨rfl, Below.refl _ _⟩)
    refine stepV 3 rfl rfl (fun _ _ _ h => h) ?_ ?_
    · intros; go_simp; exact ⟨rfl, rfl⟩
    refine stepV 4 rfl rfl (fun _ _ _ h => h) ?_ ?_
    · intros; go_simp; exact ⟨rfl, rfl⟩
    refine stepV 5 rfl rfl (fun _ _ _ h => h) ?_ ?_
    · intros; go_simp; exact ⟨rfl, rfl⟩
    refine stepV 6 rfl rfl (fun _ _ _ h => h) ?_ ?_
    · intros; go_simp; exact ⟨rfl, rfl⟩
    refine stepV 7 rfl rfl (fun _ _ _ h => h) ?_ ?_
    · intros; go_simp; exact ⟨rfl, rfl⟩
    exact AllI.nil
  case hV0 => exact fun p q => AllI.nil
  case he =>
  clear hB o a1 a2 a3 t n a4 a5 c a6
  rintro p wrrrrrrrrrrrrrr ⟨hsz, hB, o, a1, a2, a3, t, n, a4, a5, c, a6⟩
  clear lt_o
  clear lt_a1
  clear lt_a2
  clear lt_a3
  clear lt_t
  clear lt_n
  clear lt_a4
  clear lt_a5
  clear lt_c
  clear lt_a6
  clear hsz hW0
  go_upto_region 16 with (first
    | (refine wpList_load_rowG ?hw _ _ rfl _ rfl _ _ _ _ o Try.underlying24 rfl ?hi ?_; (case hw => (first | rfl | (simp [Region.wanted, yielded]; done))); (case hi => (first | kernel_rfl | (rw [ofn_size]; kernel_rfl))))
    | (refine wpList_load_rowG ?hw _ _ rfl _ rfl _ _ _ _ c Try.underlying26 rfl ?hi ?_; (case hw => (first | rfl | (simp [Region.wanted, yielded]; done))); (case hi => (first | kernel_rfl | (rw [stn_size]; kernel_rfl))))
    | (go_at_call 16; with_reducible refine (W1.out _).mono ?_; rintro e w71 ⟨w71_v, rfl, w71_s, hb⟩; replace hB := hB.trans (hb.mono hB.size); replace o := o.below hb o.lt; replace a1 := a1.below hb a1.lt; replace a2 := a2.below hb a2.lt; replace a3 := a3.below hb a3.lt; replace t := t.below hb t.lt; replace n := n.below hb n.lt; replace a4 := a4.below hb a4.lt; replace a5 := a5.below hb a5.lt; replace c := c.below hb c.lt; replace a6 := a6.below hb a6.lt; clear hb))
  go_upto_region 17 with (first
    | (refine wpList_load_rowG ?hw _ _ rfl _ rfl _ _ _ _ o Try.underlying24 rfl ?hi ?_; (case hw => (first | rfl | (simp [Region.wanted, yielded]; done))); (case hi => (first | kernel_rfl | (rw [ofn_size]; kernel_rfl))))
    | (refine wpList_load_rowG ?hw _ _ rfl _ rfl _ _ _ _ c Try.underlying26 rfl ?hi ?_; (case hw => (first | rfl | (simp [Region.wanted, yielded]; done))); (case hi => (first | kernel_rfl | (rw [stn_size]; kernel_rfl))))
    | (go_at_call 16; with_reducible refine (W2.out _).mono ?_; rintro e w72 ⟨w72_v, rfl, w72_s, hb⟩; replace hB := hB.trans (hb.mono hB.size); replace o := o.below hb o.lt; replace a1 := a1.below hb a1.lt; replace a2 := a2.below hb a2.lt; replace a3 := a3.below hb a3.lt; replace t := t.below hb t.lt; replace n := n.below hb n.lt; replace a4 := a4.below hb a4.lt; replace a5 := a5.below hb a5.lt; replace c := c.below hb c.lt; replace a6 := a6.below hb a6.lt; clear hb))
  have hl1 : ∃ a c, w71_v = .slice a 0 c := spans_nil w71_s
  obtain ⟨sa, sc, rfl⟩ := hl1
  have hl2 : ∃ a c, w72_v = .slice a 0 c := spans_nil w72_s
  obtain ⟨sa2, sc2, rfl⟩ := hl2
  clear w71_s w72_s W1 W2
  have lt_o := o.lt
  have lt_a1 := a1.lt
  have lt_a2 := a2.lt
  have lt_a3 := a3.lt
  have lt_t := t.lt
  have lt_n := n.lt
  have lt_a4 := a4.lt
  have lt_a5 := a5.lt
  have lt_c := c.lt
  have lt_a6 := a6.lt
  have hW0 : w.heap.size ≤ w72.heap.size := by have := hB.size; first | exact this | simpa using this
  apply wp_region_Q 9 [0, 1, 3, 7, 15, 31, 63, 127, 255] [6] [_, _, _, _, _, _, (fun p => .pointer (some ⟨p 6, 0, none⟩)), (fun _ => undef), _] (fun p L w' => w72.heap.size ≤ w'.heap.size ∧ Below w.heap.size w w' ∧ blk w' o_b (ofn osm) 24 ∧ blk w' a1_b (vfn (of3 1073741824 0 0)) 39 ∧ blk w' a2_b (vfn (of3 0 1073741824 0)) 39 ∧ blk w' a3_b (vfn (of3 0 1073741824 0)) 39 ∧ blk w' t_b (ofn osmt) 24 ∧ blk w' n_b (ofn osmn) 24 ∧ blk w' a4_b (vfn (of3 0 0 1073741824)) 39 ∧ blk w' a5_b (vfn (of3 0 1073741824 0)) 39 ∧ blk w' c_b (stn ost0) 26 ∧ blk w' a6_b (vfn (of3 0 1073741824 0)) 39 ∧ (L 6 = true → w72.heap.size ≤ p 6 ∧ blk w' (p 6) (bif L 7 then (vfn (fun _ => 0)) else (vfn fun _ => 0)) 39)) _ [(0, 103), (1, 104), (2, 105), (3, 102), (4, 106), (5, 107), (6, 29), (8, 30)] [0, 1, 2, 3, 4, 5, 6, 7, 8]
  case hn => rfl
  case hB => kernel_rfl
  case hds => kernel_rfl
  case hA => (intro p; simp only [putsD, Act.put, List.setIfInBounds_toArray, List.set_cons_zero, List.set_cons_succ, List.getD_cons_zero, List.getD_cons_succ]; exact rfl)
  case h0 => exact fun p => ⟨Nat.le_refl _, hB, o, a1, a2, a3, t, n, a4, a5, c, a6, fun h => absurd h (by decide)⟩
  case hmore => exact fun p L w1 w2 ⟨hsz, hB, o, a1, a2, a3, t, n, a4, a5, c, a6, h_a7⟩ hm => ⟨Nat.le_trans hsz hm.size, hB.trans (hm.mono (Nat.le_trans hW0 hsz)), o.below hm o.lt, a1.below hm a1.lt, a2.below hm a2.lt, a3.below hm a3.lt, t.below hm t.lt, n.below hm n.lt, a4.below hm a4.lt, a5.below hm a5.lt, c.below hm c.lt, a6.below hm a6.lt, fun hl => ⟨(h_a7 hl).1, (h_a7 hl).2.below hm (h_a7 hl).2.lt⟩⟩
  case hs =>
    intro more
    refine stepV 0 rfl rfl (fun _ _ _ h => h) ?_ ?_
    · rintro p L w1 ⟨hsz, hB, o, a1, a2, a3, t, n, a4, a5, c, a6, h_a7⟩ hk
      have L7 : L 7 = false := hk.2.2 7 rfl
      first | exact valR_row _ _ rfl _ rfl _ _ o _ Try.underlying24 rfl (by first | kernel_rfl | (rw [ofn_size]; kernel_rfl)) rfl | (have hc := o.cellIs (show _[0]? = some _ from rfl); go_simp; exact ⟨rfl, rfl⟩)
    refine AllI.cons ?_ ?_
    · refine stepI_val 1 rfl (fun p => rfl) ?_ (fun _ _ _ h => h)
      intro p L w1 _ _
      go_simp
      exact ⟨congrArg Value.agg ostb_cells, rfl⟩
    refine stepD 2 rfl (fun p => rfl) (fun _ _ _ h => h) more ?_ ?_
    · rintro p L w1 ⟨hsz, hB, o, a1, a2, a3, t, n, a4, a5, c, a6, h_a7⟩ hk
      go_simp
      refine (SB.out _).mono ?_
      rintro e w2 ⟨rfl, h2⟩
      first | exact ⟨rfl, h2⟩ | (subst h2; exact ⟨rfl, Below.refl _ _⟩)
    refine stepV 3 rfl rfl (fun _ _ _ h => h) ?_ ?_
    · intros; go_simp; exact ⟨rfl, rfl⟩
    refine stepV 4 rfl rfl (fun _ _ _ h => h) ?_ ?_
    · intros; go_simp; exact ⟨rfl, rfl⟩
    refine stepV 5 rfl rfl (fun _ _ _ h => h) ?_ ?_
    · intros; go_simp; exact ⟨rfl, rfl⟩
    refine AllI.cons ?_ ?_
    · refine stepI_alloc 6 rfl (fun p => rfl) rfl (vfn fun _ => 0) 39 (fun p => rfl) ?_ ?_
      · intro p w1
        go_simp
        first | rfl | rw [zero_vec]
      rintro p L w1 ⟨hsz, hB, o, a1, a2, a3, t, n, a4, a5, c, a6, h_a7⟩ hk
      have L7 : L 7 = false := hk.2.2 7 rfl
      refine ⟨Nat.le_trans hsz (by simp), hB.alloc (Nat.le_trans (by first | exact hW0 | (have := hB.size; simp at this ⊢; omega)) hsz) _, o.alloc _, a1.alloc _, a2.alloc _, a3.alloc _, t.alloc _, n.alloc _, a4.alloc _, a5.alloc _, c.alloc _, a6.alloc _, fun _ => ⟨hsz, ?_⟩⟩
      rw [show upL L 6 7 = false from L7]
      exact blk.new _ _ _
    refine AllI.cons ?_ ?_
    · refine stepI_store 7 rfl (fun p => rfl) (fun p => rfl) _ _ _ rfl (fun p => p 6) 0 (fun p => rfl) (fun p => (vfn (fun _ => 0))) (fun p => rfl) (fun p => (vfn fun _ => 0)) (fun p => (vfn (fun _ => 0))) 39 (fun p => over_v' _ _) (fun p => by first | (rw [vfn_size, vfn_size]; decide) | simp [vfn_size, vfn_size]) (fun p => by rw [vfn_size]; kernel_rfl) (fun p => vfn_one _) ?_ ?_
      · rintro p L w1 ⟨hsz, hB, o, a1, a2, a3, t, n, a4, a5, c, a6, h_a7⟩ hk
        have L7 : L 7 = false := hk.1
        have hh := (h_a7 (hk.2.1 6 rfl)).2
        rw [L7] at hh
        try simp only [cond_true, cond_false] at hh
        exact hh
      · rintro p L w1 ⟨hsz, hB, o, a1, a2, a3, t, n, a4, a5, c, a6, h_a7⟩ hk
        have L7 : L 7 = false := hk.1
        skip
        have hp := h_a7 (hk.2.1 6 rfl)
        refine ⟨(by simpa using hsz), Below.setRow hB (by first | exact Nat.le_trans hW0 hp.1 | exact ge_a7 | omega | (have := hB.size; simp at this ⊢; omega)) _, o.rowOther (by first | exact Nat.ne_of_lt (Nat.lt_of_lt_of_le lt_o hp.1) | omega) _, a1.rowOther (by first | exact Nat.ne_of_lt (Nat.lt_of_lt_of_le lt_a1 hp.1) | omega) _, a2.rowOther (by first | exact Nat.ne_of_lt (Nat.lt_of_lt_of_le lt_a2 hp.1) | omega) _, a3.rowOther (by first | exact Nat.ne_of_lt (Nat.lt_of_lt_of_le lt_a3 hp.1) | omega) _, t.rowOther (by first | exact Nat.ne_of_lt (Nat.lt_of_lt_of_le lt_t hp.1) | omega) _, n.rowOther (by first | exact Nat.ne_of_lt (Nat.lt_of_lt_of_le lt_n hp.1) | omega) _, a4.rowOther (by first | exact Nat.ne_of_lt (Nat.lt_of_lt_of_le lt_a4 hp.1) | omega) _, a5.rowOther (by first | exact Nat.ne_of_lt (Nat.lt_of_lt_of_le lt_a5 hp.1) | omega) _, c.rowOther (by first | exact Nat.ne_of_lt (Nat.lt_of_lt_of_le lt_c hp.1) | omega) _, a6.rowOther (by first | exact Nat.ne_of_lt (Nat.lt_of_lt_of_le lt_a6 hp.1) | omega) _, fun _ => ⟨hp.1, ?_⟩⟩
        rw [show upL L 7 7 = true from rfl]
        exact hp.2.row _
    refine stepV 8 rfl rfl (fun _ _ _ h => h) ?_ ?_
    · intros; go_simp; exact ⟨rfl, rfl⟩
    exact AllI.nil
  case hV0 =>
    intro p q
    refine AllI.cons ?_ ?_
    · skip
      iterate 9 (refine AllI.cons (by first | exact .inl rfl | (refine .inr ?_; simp only [List.getD_cons_zero, List.getD_cons_succ]; done) | exact .inr rfl) ?_)
      exact AllI.nil
    exact AllI.nil
  case he =>
  clear hB o a1 a2 a3 t n a4 a5 c a6
  rintro p w72r ⟨hsz, hB, o, a1, a2, a3, t, n, a4, a5, c, a6, h_a7⟩
  obtain ⟨le_a7, a7⟩ := h_a7 rfl
  clear h_a7
  replace a7 : blk w72r (p 6) (vfn (fun _ => 0)) 39 := a7
  have ne_o_a7 : o_b ≠ p 6 := Nat.ne_of_lt (Nat.lt_of_lt_of_le lt_o le_a7)
  have ne_a1_a7 : a1_b ≠ p 6 := Nat.ne_of_lt (Nat.lt_of_lt_of_le lt_a1 le_a7)
  have ne_a2_a7 : a2_b ≠ p 6 := Nat.ne_of_lt (Nat.lt_of_lt_of_le lt_a2 le_a7)
  have ne_a3_a7 : a3_b ≠ p 6 := Nat.ne_of_lt (Nat.lt_of_lt_of_le lt_a3 le_a7)
  have ne_t_a7 : t_b ≠ p 6 := Nat.ne_of_lt (Nat.lt_of_lt_of_le lt_t le_a7)
  have ne_n_a7 : n_b ≠ p 6 := Nat.ne_of_lt (Nat.lt_of_lt_of_le lt_n le_a7)
  have ne_a4_a7 : a4_b ≠ p 6 := Nat.ne_of_lt (Nat.lt_of_lt_of_le lt_a4 le_a7)
  have ne_a5_a7 : a5_b ≠ p 6 := Nat.ne_of_lt (Nat.lt_of_lt_of_le lt_a5 le_a7)
  have ne_c_a7 : c_b ≠ p 6 := Nat.ne_of_lt (Nat.lt_of_lt_of_le lt_c le_a7)
  have ne_a6_a7 : a6_b ≠ p 6 := Nat.ne_of_lt (Nat.lt_of_lt_of_le lt_a6 le_a7)
  have ge_a7 : w.heap.size ≤ p 6 := Nat.le_trans hW0 le_a7
  generalize p 6 = a7_b at *
  clear lt_o
  clear lt_a1
  clear lt_a2
  clear lt_a3
  clear lt_t
  clear lt_n
  clear lt_a4
  clear lt_a5
  clear lt_c
  clear lt_a6
  clear hsz hW0
  go_upto_region 18 with (fail)
  have E1 : ∀ w, (Op.equalIn 10000 39 (.agg (vfn (of3 1073741824 0 0))) (.agg #[.int .i64 (1073741824), .int .i64 (0), .int .i64 (0)])).run Try.prog w = .ok true w := fun w => by rw [of3_cells]; exact vec_eq_self _ w
  have E2 : ∀ w, (Op.equalIn 10000 39 (.agg (vfn (of3 0 1073741824 0))) (.agg #[.int .i64 (0), .int .i64 (1073741824), .int .i64 (0)])).run Try.prog w = .ok true w := fun w => by rw [of3_cells]; exact vec_eq_self _ w
  have E3 : ∀ w, (Op.equalIn 10000 39 (.agg (vfn (of3 0 0 1073741824))) (.agg #[.int .i64 (0), .int .i64 (0), .int .i64 (1073741824)])).run Try.prog w = .ok true w := fun w => by rw [of3_cells]; exact vec_eq_self _ w
  have lt_o := o.lt
  have lt_a1 := a1.lt
  have lt_a2 := a2.lt
  have lt_a3 := a3.lt
  have lt_t := t.lt
  have lt_n := n.lt
  have lt_a4 := a4.lt
  have lt_a5 := a5.lt
  have lt_c := c.lt
  have lt_a6 := a6.lt
  have lt_a7 := a7.lt
  have hW0 : w.heap.size ≤ w72r.heap.size := by have := hB.size; first | exact this | simpa using this
  apply wp_region_Q 69 [0, 1, 3, 7, 15, 31, 63, 127, 255, 511, 1023, 2047, 4095, 8191, 16383, 32767, 65535, 131071, 262143, 524287, 1048575, 2097151, 4194303, 8388607, 16777215, 33554431, 67108863, 134217727, 268435455, 536870911, 1073741823, 2147483647, 4294967295, 8589934591, 17179869183, 34359738367, 68719476735, 137438953471, 274877906943, 549755813887, 1099511627775, 2199023255551, 4398046511103, 8796093022207, 17592186044415, 35184372088831, 70368744177663, 140737488355327, 281474976710655, 562949953421311, 1125899906842623, 2251799813685247, 4503599627370495, 9007199254740991, 18014398509481983, 36028797018963967, 72057594037927935, 144115188075855871, 288230376151711743, 576460752303423487, 1152921504606846975, 2305843009213693951, 4611686018427387903, 9223372036854775807, 18446744073709551615, 36893488147419103231, 73786976294838206463, 147573952589676412927, 295147905179352825855] [] [_, _, _, _, _, _, _, _, _, _, _, _, _, _, _, _, _, _, _, _, _, _, _, _, _, _, _, _, _, _, _, _, _, _, _, _, _, _, _, _, _, _, _, _, _, _, _, _, _, _, _, _, _, _, _, _, _, _, _, _, _, _, _, _, _, _, _, _, _] (fun p L w' => w72r.heap.size ≤ w'.heap.size ∧ Below w.heap.size w w' ∧ blk w' o_b (ofn osm) 24 ∧ blk w' a1_b (vfn (of3 1073741824 0 0)) 39 ∧ blk w' a2_b (vfn (of3 0 1073741824 0)) 39 ∧ blk w' a3_b (vfn (of3 0 1073741824 0)) 39 ∧ blk w' t_b (ofn osmt) 24 ∧ blk w' n_b (ofn osmn) 24 ∧ blk w' a4_b (vfn (of3 0 0 1073741824)) 39 ∧ blk w' a5_b (vfn (of3 0 1073741824 0)) 39 ∧ blk w' c_b (stn ost0) 26 ∧ blk w' a6_b (vfn (of3 0 1073741824 0)) 39 ∧ blk w' a7_b (vfn (fun _ => 0)) 39) _ [(0, 108), (1, 109), (2, 110), (3, 111), (4, 112), (5, 113), (6, 114), (7, 115), (8, 116), (9, 117), (10, 118), (11, 119), (12, 120), (13, 121), (14, 122), (15, 123), (16, 124), (17, 125), (18, 126), (19, 127), (20, 128), (21, 129), (22, 130), (23, 131), (24, 132), (25, 133), (26, 134), (27, 135), (28, 136), (29, 137), (30, 138), (31, 139), (32, 140), (33, 141), (34, 142), (35, 143), (36, 144), (37, 145), (38, 146), (39, 147), (40, 148), (41, 149), (42, 150), (43, 151), (44, 152), (45, 153), (46, 154), (47, 155), (48, 156), (49, 157), (50, 158), (51, 159), (52, 160), (53, 161), (54, 162), (55, 163), (56, 164), (57, 165), (58, 166), (59, 167), (60, 168), (61, 169), (62, 170), (63, 171), (64, 172), (65, 173), (66, 174), (67, 175), (68, 0)] [0, 1, 2, 3, 4, 5, 6, 7, 8, 9, 10, 11, 12, 13, 14, 15, 16, 17, 18, 19, 20, 21, 22, 23, 24, 25, 26, 27, 28, 29, 30, 31, 32, 33, 34, 35, 36, 37, 38, 39, 40, 41, 42, 43, 44, 45, 46, 47, 48, 49, 50, 51, 52, 53, 54, 55, 56, 57, 58, 59, 60, 61, 62, 63, 64, 65, 66, 67, 68]
  case hn => rfl
  case hB => kernel_rfl
  case hds => kernel_rfl
  case hA => (intro p; simp only [putsD, Act.put, List.setIfInBounds_toArray, List.set_cons_zero, List.set_cons_succ, List.getD_cons_zero, List.getD_cons_succ]; exact rfl)
  case h0 => exact fun p => ⟨Nat.le_refl _, hB, o, a1, a2, a3, t, n, a4, a5, c, a6, a7⟩
  case hmore => exact fun p L w1 w2 ⟨hsz, hB, o, a1, a2, a3, t, n, a4, a5, c, a6, a7⟩ hm => ⟨Nat.le_trans hsz hm.size, hB.trans (hm.mono (Nat.le_trans hW0 hsz)), o.below hm o.lt, a1.below hm a1.lt, a2.below hm a2.lt, a3.below hm a3.lt, t.below hm t.lt, n.below hm n.lt, a4.below hm a4.lt, a5.below hm a5.lt, c.below hm c.lt, a6.below hm a6.lt, a7.below hm a7.lt⟩
  case hs =>
    intro more
    refine stepV 0 rfl rfl (fun _ _ _ h => h) ?_ ?_
    · rintro p L w1 ⟨hsz, hB, o, a1, a2, a3, t, n, a4, a5, c, a6, a7⟩ hk
      first | exact valR_row _ _ rfl _ rfl _ _ a1 _ Try.underlying39 rfl (by first | kernel_rfl | (rw [vfn_size]; kernel_rfl)) rfl | (have hc := a1.cellIs (vfn_get _ (show 0 < 3 by omega)); go_simp; exact ⟨rfl, rfl⟩)
    refine stepV 1 rfl rfl (fun _ _ _ h => h) ?_ ?_
    · intros; try simp only [vfn, qfn]; go_simp; exact ⟨rfl, rfl⟩
    refine stepV 2 rfl rfl (fun _ _ _ h => h) ?_ ?_
    · intros; go_simp; exact ⟨rfl, rfl⟩
    refine stepV 3 rfl rfl (fun _ _ _ h => h) ?_ ?_
    · intros; go_simp; exact ⟨rfl, rfl⟩
    refine stepVg 4 rfl (fun p => (by first | rfl | (simp [Region.wanted, yielded]; done))) (fun _ _ _ h => h) ?_ ?_
    · rintro p L w1 ⟨hsz, hB, o, a1, a2, a3, t, n, a4, a5, c, a6, a7⟩ hk
      first | exact valR_row _ _ rfl _ rfl _ _ a2 _ Try.underlying39 rfl (by first | kernel_rfl | (rw [vfn_size]; kernel_rfl)) rfl | (have hc := a2.cellIs (vfn_get _ (show 0 < 3 by omega)); go_simp; exact ⟨rfl, rfl⟩)
    refine stepVg 5 rfl (fun p => (by first | rfl | (simp [Region.wanted, yielded]; done))) (fun _ _ _ h => h) ?_ ?_
    · intros; try simp only [vfn, qfn]; go_simp; exact ⟨rfl, rfl⟩
    refine stepVg 6 rfl (fun p => (by first | rfl | (simp [Region.wanted, yielded]; done))) (fun _ _ _ h => h) ?_ ?_
    · intros; go_simp; exact ⟨rfl, rfl⟩
    refine stepV 7 rfl rfl (fun _ _ _ h => h) ?_ ?_
    · intros; go_simp; exact ⟨rfl, rfl⟩
    refine stepV 8 rfl rfl (fun _ _ _ h => h) ?_ ?_
    · intros; go_simp; exact ⟨rfl, rfl⟩
    refine stepVg 9 rfl (fun p => (by first | rfl | (simp [Region.wanted, yielded]; done))) (fun _ _ _ h => h) ?_ ?_
    · rintro p L w1 ⟨hsz, hB, o, a1, a2, a3, t, n, a4, a5, c, a6, a7⟩ hk
      first | exact valR_row _ _ rfl _ rfl _ _ a3 _ Try.underlying39 rfl (by first | kernel_rfl | (rw [vfn_size]; kernel_rfl)) rfl | (have hc := a3.cellIs (vfn_get _ (show 0 < 3 by omega)); go_simp; exact ⟨rfl, rfl⟩)
    refine stepVg 10 rfl (fun p => (by first | rfl | (simp [Region.wanted, yielded]; done))) (fun _ _ _ h => h) ?_ ?_
    · intros; try simp only [vfn, qfn]; go_simp; exact ⟨rfl, rfl⟩
    refine stepVg 11 rfl (fun p => (by first | rfl | (simp [Region.wanted, yielded]; done))) (fun _ _ _ h => h) ?_ ?_
    · intros; go_simp; exact ⟨rfl, rfl⟩
    refine stepV 12 rfl rfl (fun _ _ _ h => h) ?_ ?_
    · intros; go_simp; exact ⟨rfl, rfl⟩
    refine stepV 13 rfl rfl (fun _ _ _ h => h) ?_ ?_
    · intros; go_simp; exact ⟨rfl, rfl⟩
    refine stepVg 14 rfl (fun p => (by first | rfl | (simp [Region.wanted, yielded]; done))) (fun _ _ _ h => h) ?_ ?_
    · rintro p L w1 ⟨hsz, hB, o, a1, a2, a3, t, n, a4, a5, c, a6, a7⟩ hk
      first | exact valR_row _ _ rfl _ rfl _ _ a4 _ Try.underlying39 rfl (by first | kernel_rfl | (rw [vfn_size]; kernel_rfl)) rfl | (have hc := a4.cellIs (vfn_get _ (show 0 < 3 by omega)); go_simp; exact ⟨rfl, rfl⟩)
    refine stepVg 15 rfl (fun p => (by first | rfl | (simp [Region.wanted, yielded]; done))) (fun _ _ _ h => h) ?_ ?_
    · intros; try simp only [vfn, qfn]; go_simp; exact ⟨rfl, rfl⟩
    refine stepVg 16 rfl (fun p => (by first | rfl | (simp [Region.wanted, yielded]; done))) (fun _ _ _ h => h) ?_ ?_
    · intros; go_simp; exact ⟨rfl, rfl⟩
    refine stepV 17 rfl rfl (fun _ _ _ h => h) ?_ ?_
    · intros; go_simp; exact ⟨rfl, rfl⟩
    refine stepV 18 rfl rfl (fun _ _ _ h => h) ?_ ?_
    · intros; go_simp; exact ⟨rfl, rfl⟩
    refine stepVg 19 rfl (fun p => (by first | rfl | (simp [Region.wanted, yielded]; done))) (fun _ _ _ h => h) ?_ ?_
    · rintro p L w1 ⟨hsz, hB, o, a1, a2, a3, t, n, a4, a5, c, a6, a7⟩ hk
      first | exact valR_row _ _ rfl _ rfl _ _ a5 _ Try.underlying39 rfl (by first | kernel_rfl | (rw [vfn_size]; kernel_rfl)) rfl | (have hc := a5.cellIs (vfn_get _ (show 0 < 3 by omega)); go_simp; exact ⟨rfl, rfl⟩)
    refine stepVg 20 rfl (fun p => (by first | rfl | (simp [Region.wanted, yielded]; done))) (fun _ _ _ h => h) ?_ ?_
    · intros; try simp only [vfn, qfn]; go_simp; exact ⟨rfl, rfl⟩
    refine stepVg 21 rfl (fun p => (by first | rfl | (simp [Region.wanted, yielded]; done))) (fun _ _ _ h => h) ?_ ?_
    · intros; go_simp; exact ⟨rfl, rfl⟩
    refine stepV 22 rfl rfl (fun _ _ _ h => h) ?_ ?_
    · intros; go_simp; exact ⟨rfl, rfl⟩
    refine stepV 23 rfl rfl (fun _ _ _ h => h) ?_ ?_
    · intros; go_simp; exact ⟨rfl, rfl⟩
    refine stepVg 24 rfl (fun p => (by first | rfl | (simp [Region.wanted, yielded]; done))) (fun _ _ _ h => h) ?_ ?_
    · intros; go_simp; exact ⟨rfl, rfl⟩
    refine stepVg 25 rfl (fun p => (by first | rfl | (simp [Region.wanted, yielded]; done))) (fun _ _ _ h => h) ?_ ?_
    · intros; go_simp; exact ⟨rfl, rfl⟩
    refine stepV 26 rfl rfl (fun _ _ _ h => h) ?_ ?_
    · intros; go_simp; exact ⟨rfl, rfl⟩
    refine stepV 27 rfl rfl (fun _ _ _ h => h) ?_ ?_
    · intros; go_simp; exact ⟨rfl, rfl⟩
    refine stepVg 28 rfl (fun p => (by first | rfl | (simp [Region.wanted, yielded]; done))) (fun _ _ _ h => h) ?_ ?_
    · intros; go_simp; exact ⟨rfl, rfl⟩
    refine stepVg 29 rfl (fun p => (by first | rfl | (simp [Region.wanted, yielded]; done))) (fun _ _ _ h => h) ?_ ?_
    · intros; go_simp; exact ⟨rfl, rfl⟩
    refine stepV 30 rfl rfl (fun _ _ _ h => h) ?_ ?_
    · intros; go_simp; exact ⟨rfl, rfl⟩
    refine stepV 31 rfl rfl (fun _ _ _ h => h) ?_ ?_
    · intros; go_simp; exact ⟨rfl, rfl⟩
    refine stepVg 32 rfl (fun p => (by first | rfl | (simp [Region.wanted, yielded]; done))) (fun _ _ _ h => h) ?_ ?_
    · rintro p L w1 ⟨hsz, hB, o, a1, a2, a3, t, n, a4, a5, c, a6, a7⟩ hk
      first | exact valR_row _ _ rfl _ rfl _ _ a6 _ Try.underlying39 rfl (by first | kernel_rfl | (rw [vfn_size]; kernel_rfl)) rfl | (have hc := a6.cellIs (vfn_get _ (show 0 < 3 by omega)); go_simp; exact ⟨rfl, rfl⟩)
    refine stepVg 33 rfl (fun p => (by first | rfl | (simp [Region.wanted, yielded]; done))) (fun _ _ _ h => h) ?_ ?_
    · intros; try simp only [vfn, qfn]; go_simp; exact ⟨rfl, rfl⟩
    refine stepVg 34 rfl (fun p => (by first | rfl | (simp [Region.wanted, yielded]; done))) (fun _ _ _ h => h) ?_ ?_
    · intros; go_simp; exact ⟨rfl, rfl⟩
    refine stepV 35 rfl rfl (fun _ _ _ h => h) ?_ ?_
    · intros; go_simp; exact ⟨rfl, rfl⟩
    refine stepV 36 rfl rfl (fun _ _ _ h => h) ?_ ?_
    · intros; go_simp; exact ⟨rfl, rfl⟩
    refine stepVg 37 rfl (fun p => (by first | rfl | (simp [Region.wanted, yielded]; done))) (fun _ _ _ h => h) ?_ ?_
    · intros; go_simp; exact ⟨rfl, rfl⟩
    refine stepV 38 rfl rfl (fun _ _ _ h => h) ?_ ?_
    · intros; go_simp; exact ⟨rfl, rfl⟩
    refine stepV 39 rfl rfl (fun _ _ _ h => h) ?_ ?_
    · intros; go_simp; exact ⟨rfl, rfl⟩
    refine stepVg 40 rfl (fun p => (by first | rfl | (simp [Region.wanted, yielded]; done))) (fun _ _ _ h => h) ?_ ?_
    · intros; go_simp; exact ⟨rfl, rfl⟩
    refine stepVg 41 rfl (fun p => (by first | rfl | (simp [Region.wanted, yielded]; done))) (fun _ _ _ h => h) ?_ ?_
    · intros; go_simp; exact ⟨rfl, rfl⟩
    refine stepV 42 rfl rfl (fun _ _ _ h => h) ?_ ?_
    · intros; go_simp; exact ⟨rfl, rfl⟩
    refine stepV 43 rfl rfl (fun _ _ _ h => h) ?_ ?_
    · intros; go_simp; exact ⟨rfl, rfl⟩
    refine stepVg 44 rfl (fun p => (by first | rfl | (simp [Region.wanted, yielded]; done))) (fun _ _ _ h => h) ?_ ?_
    · intros; go_simp; exact ⟨rfl, rfl⟩
    refine stepVg 45 rfl (fun p => (by first | rfl | (simp [Region.wanted, yielded]; done))) (fun _ _ _ h => h) ?_ ?_
    · intros; go_simp; exact ⟨rfl, rfl⟩
    refine stepVg 46 rfl (fun p => (by first | rfl | (simp [Region.wanted, yielded]; done))) (fun _ _ _ h => h) ?_ ?_
    · intros; go_simp; exact ⟨rfl, rfl⟩
    refine stepV 47 rfl rfl (fun _ _ _ h => h) ?_ ?_
    · intros; go_simp; exact ⟨rfl, rfl⟩
    refine stepV 48 rfl rfl (fun _ _ _ h => h) ?_ ?_
    · intros; go_simp; exact ⟨rfl, rfl⟩
    refine stepVg 49 rfl (fun p => (by first | rfl | (simp [Region.wanted, yielded]; done))) (fun _ _ _ h => h) ?_ ?_
    · intros; go_simp; exact ⟨rfl, rfl⟩
    refine stepVg 50 rfl (fun p => (by first | rfl | (simp [Region.wanted, yielded]; done))) (fun _ _ _ h => h) ?_ ?_
    · intros; go_simp; exact ⟨rfl, rfl⟩
    refine stepV 51 rfl rfl (fun _ _ _ h => h) ?_ ?_
    · intros; go_simp; exact ⟨rfl, rfl⟩
    refine stepV 52 rfl rfl (fun _ _ _ h => h) ?_ ?_
    · intros; go_simp; exact ⟨rfl, rfl⟩
    refine stepVg 53 rfl (fun p => (by first | rfl | (simp [Region.wanted, yielded]; done))) (fun _ _ _ h => h) ?_ ?_
    · intros; go_simp; exact ⟨rfl, rfl⟩
    refine stepVg 54 rfl (fun p => (by first | rfl | (simp [Region.wanted, yielded]; done))) (fun _ _ _ h => h) ?_ ?_
    · intros; go_simp; exact ⟨rfl, rfl⟩
    refine stepV 55 rfl rfl (fun _ _ _ h => h) ?_ ?_
    · intros; go_simp; exact ⟨rfl, rfl⟩
    refine stepV 56 rfl rfl (fun _ _ _ h => h) ?_ ?_
    · intros; go_simp; exact ⟨rfl, rfl⟩
    refine stepVg 57 rfl (fun p => (by first | rfl | (simp [Region.wanted, yielded]; done))) (fun _ _ _ h => h) ?_ ?_
    · intros; go_simp; exact ⟨rfl, rfl⟩
    refine stepVg 58 rfl (fun p => (by first | rfl | (simp [Region.wanted, yielded]; done))) (fun _ _ _ h => h) ?_ ?_
    · intros; go_simp; exact ⟨rfl, rfl⟩
    refine stepV 59 rfl rfl (fun _ _ _ h => h) ?_ ?_
    · intros; go_simp; exact ⟨rfl, rfl⟩
    refine stepV 60 rfl rfl (fun _ _ _ h => h) ?_ ?_
    · intros; go_simp; exact ⟨rfl, rfl⟩
    refine AllI.cons ?_ ?_
    · refine stepI_val 61 rfl (fun p => (by first | rfl | (simp [Region.wanted, yielded]; done))) ?_ (fun _ _ _ h => h)
      intro p L w1 _ _
      go_simp
      exact ⟨congrArg Value.agg zero_orb, rfl⟩
    refine stepD 62 rfl (fun p => (by first | rfl | (simp [Region.wanted, yielded]; done))) (fun _ _ _ h => h) more ?_ ?_
    · rintro p L w1 ⟨hsz, hB, o, a1, a2, a3, t, n, a4, a5, c, a6, a7⟩ hk
      go_simp
      refine (CK.out _).mono ?_
      rintro e w2 ⟨rfl, h2⟩
      first | exact ⟨rfl, h2⟩ | (subst h2; exact ⟨rfl, Below.refl _ _⟩)
    refine stepVg 63 rfl (fun p => (by first | rfl | (simp [Region.wanted, yielded]; done))) (fun _ _ _ h => h) ?_ ?_
    · intros; go_simp; exact ⟨rfl, rfl⟩
    refine stepV 64 rfl rfl (fun _ _ _ h => h) ?_ ?_
    · intros; go_simp; exact ⟨rfl, rfl⟩
    refine stepV 65 rfl rfl (fun _ _ _ h => h) ?_ ?_
    · intros; go_simp; exact ⟨rfl, rfl⟩
    refine stepD 66 rfl (fun p => (by first | rfl | (simp [Region.wanted, yielded]; done))) (fun _ _ _ h => h) more ?_ ?_
    · rintro p L w1 ⟨hsz, hB, o, a1, a2, a3, t, n, a4, a5, c, a6, a7⟩ hk
      go_simp
      refine (AW.out _).mono ?_
      rintro e w2 ⟨rfl, h2⟩
      first | exact ⟨rfl, h2⟩ | (subst h2; exact ⟨rfl, Below.refl _ _⟩)
    refine stepV 67 rfl rfl (fun _ _ _ h => h) ?_ ?_
    · intros; go_simp; exact ⟨rfl, rfl⟩
    refine stepV 68 rfl rfl (fun _ _ _ h => h) ?_ ?_
    · intros; go_simp; exact ⟨rfl, rfl⟩
    exact AllI.nil
  case hV0 => exact fun p q => AllI.nil
  case he =>
  clear hB o a1 a2 a3 t n a4 a5 c a6 a7
  rintro p w72rr ⟨hsz, hB, o, a1, a2, a3, t, n, a4, a5, c, a6, a7⟩
  clear lt_o
  clear lt_a1
  clear lt_a2
  clear lt_a3
  clear lt_t
  clear lt_n
  clear lt_a4
  clear lt_a5
  clear lt_c
  clear lt_a6
  clear lt_a7
  clear hsz hW0
  go_wp2_with (fail)
  go_ret
  exact ⟨rfl, hB⟩
end Go.Proofs.Ytnkjbdfhdenbcaa
