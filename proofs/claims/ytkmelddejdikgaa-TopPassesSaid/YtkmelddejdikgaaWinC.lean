/-
  The spans in view: Windows of the package, the walk.
-/
import Derived.Test.YtkmelddejdikgaaWinB
set_option linter.unusedSimpArgs false
set_option linter.unusedVariables false
namespace Go.Proofs.Ytkmelddejdikgaa
open Go.RowKit PM Dt Go.Shelf
attribute [local go_sem] Oper.semAt_some
theorem Try.infoSpan : (Try.prog.info? 53).map (fun i => (i.zero, i.size, i.bytes)) = some (some (.agg #[.int .i64 0, .int .i64 0]), 2, 16) := by kernel_rfl
set_option maxRecDepth 100000 in
set_option maxHeartbeats 4000000 in
theorem win_ok (f g : Nat → Int) (hf : OO f) (hg : SS g) (a b : Int) (w : World) (ha : statE f g a = 0) (hb : okT b = true) (haT : okT a = true) (hab : a ≤ b) (hn : b - a ≤ 20000) :
    Calls Try.prog 69 #[.agg (ofn f), .agg (stn g), .int .i64 a, .int .i64 b] w fun e w' => ∃ v, e = .returned (.tuple #[v, .int .i64 0]) ∧ w'.ownsRow w.heap.size 53 2 v (win (tick f g a (b - a).toNat)).length (flat (win (tick f g a (b - a).toNat))) ∧ Below w.heap.size w w' := by
  refine (callsIn_wide (n := 5)).1 ?_
  have SA := Lib.hid (fun w => station_any f g a w hf hg)
  rw [ha] at SA
  generalize statF f g a = X at *
  unfold ofn stn vfn at SA
  have TM := Lib.hid (fun w => time_any b w)
  rw [hb] at TM
  have hbT := (okT_iff b).1 hb
  have haT' := (okT_iff a).1 haT
  have d1 : decide (b < a) = false := decide_eq_false (by omega)
  have d2 : decide (20000 < b - a) = false := decide_eq_false (by omega)
  have w1 : IntKind.i64.wrap (b - a) = b - a := by rw [IntKind.wrap_i64]; omega
  obtain ⟨i0, hi, hz0, hz1, hz2⟩ := info_parts Try.infoSpan
  refine callsIn_of_wp_marks Try.func69 rfl trivial ?_ rfl
  simp only [Try.ntmps69, List.size_toArray, List.length_cons, List.length_nil, Nat.reduceAdd, Nat.reduceSub, Array.replicate_succ, Array.replicate_zero, List.push_toArray, List.append_toArray, List.nil_append, List.cons_append]
  gi_upto_region 1 with (fail)
  have O0 : blk ((w.alloc (.cells (ofn f) 50)).alloc (.cells (stn g) 63)) w.heap.size (ofn f) 50 := (blk.new _ _ _).alloc _
  have S0 : blk ((w.alloc (.cells (ofn f) 50)).alloc (.cells (stn g) 63)) (w.heap.size + 1) (stn g) 63 := blk.new' (by simp)
  have hB : Below w.heap.size w ((w.alloc (.cells (ofn f) 50)).alloc (.cells (stn g) 63)) := by go_grown
  have hz : ((w.alloc (.cells (ofn f) 50)).alloc (.cells (stn g) 63)).heap.size = w.heap.size + 2 := by simp
  generalize ((w.alloc (.cells (ofn f) 50)).alloc (.cells (stn g) 63)) = w0 at *
  have o0 : w0.cell? ⟨w.heap.size, 0, none⟩ = some (.int .i64 (f 0)) := O0.cellIs rfl
  have o1 : w0.cell? ⟨w.heap.size, 1, none⟩ = some (.int .i64 (f 1)) := O0.cellIs rfl
  have o2 : w0.cell? ⟨w.heap.size, 2, none⟩ = some (.int .i64 (f 2)) := O0.cellIs rfl
  have o3 : w0.cell? ⟨w.heap.size, 3, none⟩ = some (.int .u32 (f 3)) := O0.cellIs rfl
  have o4 : w0.cell? ⟨w.heap.size, 4, none⟩ = some (.int .u32 (f 4)) := O0.cellIs rfl
  have o5 : w0.cell? ⟨w.heap.size, 5, none⟩ = some (.int .u32 (f 5)) := O0.cellIs rfl
  have o6 : w0.cell? ⟨w.heap.size, 6, none⟩ = some (.int .u32 (f 6)) := O0.cellIs rfl
  have o7 : w0.cell? ⟨w.heap.size, 7, none⟩ = some (.int .i64 (f 7)) := O0.cellIs rfl
  have s0 : w0.cell? ⟨w.heap.size + 1, 0, none⟩ = some (.int .u32 (g 0)) := S0.cellIs rfl
  have s1 : w0.cell? ⟨w.heap.size + 1, 1, none⟩ = some (.int .u32 (g 1)) := S0.cellIs rfl
  have s2 : w0.cell? ⟨w.heap.size + 1, 2, none⟩ = some (.int .i64 (g 2)) := S0.cellIs rfl
  gi_upto_region 2 with (fail)
  refine ⟨trivial, ?_⟩
  refine (callsIn_wide.2 (SA.out w0)).mono ?_
  rintro e w2 ⟨rfl, hb2⟩
  replace hB := hB.trans (hb2.mono hB.size)
  replace O0 := O0.below hb2 O0.lt
  replace S0 := S0.below hb2 S0.lt
  have hz2 : w.heap.size + 2 ≤ w2.heap.size := by rw [← hz]; exact hb2.size
  clear o0 o1 o2 o3 o4 o5 o6 o7 s0 s1 s2
  clear hb2 hz
  gi_upto_region 2 with (fail)
  have hz3 : w.heap.size + 2 ≤ (w2.alloc (.cells #[.int .i64 (X 0), .int .i64 (X 1), .int .i64 (X 2)] 31)).heap.size := by simp; omega
  replace O0 := O0.alloc (.cells #[.int .i64 (X 0), .int .i64 (X 1), .int .i64 (X 2)] 31)
  replace S0 := S0.alloc (.cells #[.int .i64 (X 0), .int .i64 (X 1), .int .i64 (X 2)] 31)
  replace hB := hB.alloc hB.size (.cells #[.int .i64 (X 0), .int .i64 (X 1), .int .i64 (X 2)] 31)
  generalize (w2.alloc (.cells #[.int .i64 (X 0), .int .i64 (X 1), .int .i64 (X 2)] 31)) = w3 at *
  generalize w2.heap.size = bx at *
  clear hz2
  gi_upto_region 4 with (fail)
  refine ⟨trivial, ?_⟩
  refine (callsIn_wide.2 (TM.out w3)).mono ?_
  rintro e wt ⟨rfl, rfl⟩
  gi_upto_region 4 with (fail)
  gi_upto_region 5 with (fail)
  have bO := Boxed.new w3 120 (.slice none 0 0)
  have hz4 : w3.heap.size < (w3.alloc (.cells #[.slice none 0 0] 120)).heap.size := by simp
  have hb0 : w.heap.size ≤ w3.heap.size := hB.size
  replace O0 := O0.alloc (.cells #[.slice none 0 0] 120)
  replace S0 := S0.alloc (.cells #[.slice none 0 0] 120)
  replace hB := hB.alloc hB.size (.cells #[.slice none 0 0] 120)
  generalize (w3.alloc (.cells #[.slice none 0 0] 120)) = w4 at *
  generalize w3.heap.size = BL at *
  have o0 : w4.cell? ⟨w.heap.size, 0, none⟩ = some (.int .i64 (f 0)) := O0.cellIs rfl
  have o1 : w4.cell? ⟨w.heap.size, 1, none⟩ = some (.int .i64 (f 1)) := O0.cellIs rfl
  have o2 : w4.cell? ⟨w.heap.size, 2, none⟩ = some (.int .i64 (f 2)) := O0.cellIs rfl
  have o3 : w4.cell? ⟨w.heap.size, 3, none⟩ = some (.int .u32 (f 3)) := O0.cellIs rfl
  have o4 : w4.cell? ⟨w.heap.size, 4, none⟩ = some (.int .u32 (f 4)) := O0.cellIs rfl
  have o5 : w4.cell? ⟨w.heap.size, 5, none⟩ = some (.int .u32 (f 5)) := O0.cellIs rfl
  have o6 : w4.cell? ⟨w.heap.size, 6, none⟩ = some (.int .u32 (f 6)) := O0.cellIs rfl
  have o7 : w4.cell? ⟨w.heap.size, 7, none⟩ = some (.int .i64 (f 7)) := O0.cellIs rfl
  have s0 : w4.cell? ⟨w.heap.size + 1, 0, none⟩ = some (.int .u32 (g 0)) := S0.cellIs rfl
  have s1 : w4.cell? ⟨w.heap.size + 1, 1, none⟩ = some (.int .u32 (g 1)) := S0.cellIs rfl
  have s2 : w4.cell? ⟨w.heap.size + 1, 2, none⟩ = some (.int .i64 (g 2)) := S0.cellIs rfl
  gi_upto_region 6 with (fail)
  have SE := seen_in 4 f g a b w4
  have O5 : blk ((((w4.alloc (.cells (ofn f) 50)).alloc (.cells (stn g) 63)).alloc (.cells #[.int .i64 a] 2)).alloc (.cells #[.int .i64 b] 2)) w4.heap.size (ofn f) 50 := (((blk.new _ _ _).alloc _).alloc _).alloc _
  have S5 : blk ((((w4.alloc (.cells (ofn f) 50)).alloc (.cells (stn g) 63)).alloc (.cells #[.int .i64 a] 2)).alloc (.cells #[.int .i64 b] 2)) (w4.heap.size + 1) (stn g) 63 := ((blk.new' (by simp)).alloc _).alloc _
  have A5 : blk ((((w4.alloc (.cells (ofn f) 50)).alloc (.cells (stn g) 63)).alloc (.cells #[.int .i64 a] 2)).alloc (.cells #[.int .i64 b] 2)) (w4.heap.size + 2) #[.int .i64 a] 2 := (blk.new' (by simp)).alloc _
  have E5 : blk ((((w4.alloc (.cells (ofn f) 50)).alloc (.cells (stn g) 63)).alloc (.cells #[.int .i64 a] 2)).alloc (.cells #[.int .i64 b] 2)) (w4.heap.size + 3) #[.int .i64 b] 2 := blk.new' (by simp)
  have hz5 : w4.heap.size + 4 ≤ ((((w4.alloc (.cells (ofn f) 50)).alloc (.cells (stn g) 63)).alloc (.cells #[.int .i64 a] 2)).alloc (.cells #[.int .i64 b] 2)).heap.size := by simp
  have b5 : Boxed ((((w4.alloc (.cells (ofn f) 50)).alloc (.cells (stn g) 63)).alloc (.cells #[.int .i64 a] 2)).alloc (.cells #[.int .i64 b] 2)) BL 120 (.slice none 0 0) := (((bO.alloc _).alloc _).alloc _).alloc _
  have hB5 : Below w4.heap.size w4 ((((w4.alloc (.cells (ofn f) 50)).alloc (.cells (stn g) 63)).alloc (.cells #[.int .i64 a] 2)).alloc (.cells #[.int .i64 b] 2)) := by go_grown
  generalize ((((w4.alloc (.cells (ofn f) 50)).alloc (.cells (stn g) 63)).alloc (.cells #[.int .i64 a] 2)).alloc (.cells #[.int .i64 b] 2)) = w5 at *
  unfold ofn stn at SE
  refine ⟨trivial, ?_⟩
  refine SE.mono ?_
  rintro e wq ⟨rfl, rfl⟩
  clear o0 o1 o2 o3 o4 o5 o6 o7 s0 s1 s2
  clear SE
  gi_upto_region 6 with (fail)
  have hBq : Below w.heap.size w wq := hB.trans (hB5.mono hB.size)
  have hE : a + ((b - a).toNat : Int) = b := by omega
  apply wpIn_rangeFunc_ownG (F := Fence.wide) (n := 5) rfl (by omega) (gf := 174) (lb := #[.pointer (some ⟨w4.heap.size + 2, 0, none⟩), .pointer (some ⟨w4.heap.size + 3, 0, none⟩), .pointer (some ⟨w4.heap.size, 0, none⟩), .pointer (some ⟨w4.heap.size + 1, 0, none⟩)]) rfl trivial (enters_of Try.func174 (by kernel_rfl) rfl)
    (seen_stops 4 (by omega) w4.heap.size (w4.heap.size + 4) w4.heap.size (w4.heap.size + 1) (w4.heap.size + 2) (w4.heap.size + 3) f g hf hg a (b - a).toNat (by omega) wq O5 S5 A5 (by rw [hE]; exact E5) ⟨by omega, by omega⟩ ⟨by omega, by omega⟩ ⟨by omega, by omega⟩) KeepsIn.trans (fun W l o o' _ hl ho _ => KeepsIn.put W l o o' hl ho) (Below.refl _ _) (fun _ => rfl)
    (fun pre W => (∃ v, Boxed W BL 120 v ∧ W.ownsRow wq.heap.size 53 2 v (win pre).length (flat (win pre)) ∧ (v = .slice none 0 0 ↔ win pre = [])) ∧ (Below w.heap.size w W ∧ wq.heap.size ≤ W.heap.size))
    (fun _ _ _ => False)
    (OwnFrom.and (Own.from (holdsRow_own wq.heap.size BL 120 53 2 (fun pre => (win pre).length) (fun pre => flat (win pre)) (fun pre v => v = .slice none 0 0 ↔ win pre = [])) _) (OwnFrom.and (ownFrom_below (Nat.le_refl _) (by omega)) (fun _ _ _ _ hs hg _ => Nat.le_trans hs hg.size)))
    (fun _ _ _ _ _ hs _ _ => hs)
    ⟨⟨_, b5, World.ownsRow_nil _ _ _ _, by simp [win]⟩, hBq, Nat.le_refl _⟩
  case hassign =>
    intro l x W K hK
    gi_wp2
    exact hK
  case hbody =>
    rintro l pre x W ⟨⟨v, hv, hrow, hnil⟩, hBW, hsz⟩ hlt
    have hpl : (win pre).length ≤ pre.length := win_len pre
    clear SA TM O0 S0 hB O5 S5 A5 E5 b5 hB5 bO hE
    rcases List.eq_nil_or_concat (win pre) with hW | ⟨L, ⟨c, d⟩, hW⟩
    · obtain rfl := hnil.2 hW
      rw [hW] at hrow
      have hrow0 : W.ownsRow wq.heap.size 53 2 (.slice none 0 0) 0 [] := hrow
      have hc := hv.cell
      clear hrow hnil
      gi_wp2_with (gi_at_builtin; refine wpListIn_append_own _ rfl _ _ 120 rfl wq.heap.size 53 i0 (.agg #[.int .i64 0, .int .i64 0]) 2 16 Try.underlying120 hi hz0 hz1 hz2 rfl (by decide) _ _ _ rfl (hrow0.alloc _) ⟨W.heap.size, 0, none⟩ 1 1 [.int .i64 x, .int .i64 (wrap64 (x + 1))] rfl rfl (cell_two_new _ _ _ _) (by simp [Value.oneCell']) (by decide) (by decide) (by simp; omega) ?_; intro v' w1 hown' hgrow _; obtain ⟨g', cap', rfl⟩ := ownsRow_succ hown'; obtain ⟨hv1, hv2, hr2, hk2, hb2, hk6⟩ := appended2 (lo := w4.heap.size) (hi := w4.heap.size + 4) (m₀ := w.heap.size) hv (by decide) hrow0 hsz (by omega) (by omega) hz4 hz5 hown' hgrow; have hc1 := hv1.cell; have hf1 := hv1.frozen)
      exact ⟨hk2.from _, hk6, ⟨⟨_, hv2, by rw [win_snoc, hW, winS_nil]; exact hr2, by rw [win_snoc, hW, winS_nil]; simp⟩, hBW.trans hb2, Nat.le_trans hsz hb2.size⟩⟩
    · rw [List.concat_eq_append] at hW
      rw [hW] at hrow hpl
      have hlen : (L ++ [(c, d)]).length = L.length + 1 := by simp
      rw [hlen] at hrow hpl
      obtain ⟨g1, cap1, rfl⟩ := ownsRow_succ hrow
      clear hnil
      obtain ⟨q1, q2⟩ := row_cell hrow (flat_last L c d)
      have hc := hv.cell
      have hl1 : L.length + 1 + 1 ≤ maxLen := Nat.le_trans (show L.length + 1 + 1 ≤ 20001 by omega) (by decide)
      have hl2 : (L.length + 1 + 1) * 16 ≤ 140737488355328 := by omega
      have hov : IntKind.i64.wrap (d + 1) = wrap64 (d + 1) := by rw [IntKind.wrap_i64]; unfold wrap64; omega
      have p1 : decide ((0 : Int) < ((L.length + 1 : Nat) : Int)) = true := decide_eq_true (by omega)
      have p2 : IntKind.i64.wrap (((L.length + 1 : Nat) : Int) - 1) = (L.length : Int) := by rw [IntKind.wrap_i64]; omega
      by_cases hd : d = x
      · subst hd
        have hd1 : decide (d = d) = true := decide_eq_true rfl
        have r2 := grew2 (lo := w4.heap.size) (hi := w4.heap.size + 4) (m₀ := w.heap.size) (i := L.length * 2 + 1) (.int .i64 (wrap64 (d + 1))) hv (by decide) hrow (by omega) hz5
        rw [flat_set] at r2
        gi_wp2
        exact ⟨r2.2.2.1.from _, r2.2.2.2.2, ⟨⟨_, r2.1, by rw [win_snoc, hW, winS_eq _ _ _ _ rfl, List.length_append]; exact r2.2.1, by rw [win_snoc, hW, winS_eq _ _ _ _ rfl]; simp⟩, hBW.trans r2.2.2.2.1, Nat.le_trans hsz r2.2.2.2.1.size⟩⟩
      · have hd1 : decide (d = x) = false := decide_eq_false hd
        gi_wp2_with (gi_at_builtin; refine wpListIn_append_own _ rfl _ _ 120 rfl wq.heap.size 53 i0 (.agg #[.int .i64 0, .int .i64 0]) 2 16 Try.underlying120 hi hz0 hz1 hz2 rfl (by decide) _ _ _ rfl (hrow.alloc _) ⟨W.heap.size, 0, none⟩ 1 1 [.int .i64 x, .int .i64 (wrap64 (x + 1))] rfl rfl (cell_two_new _ _ _ _) (by simp [Value.oneCell']) hl1 hl2 (by simp; omega) ?_; intro v' w1 hown' hgrow _; obtain ⟨g', cap', rfl⟩ := ownsRow_succ hown'; obtain ⟨hv1, hv2, hr2, hk2, hb2, hk6⟩ := appended2 (lo := w4.heap.size) (hi := w4.heap.size + 4) (m₀ := w.heap.size) hv (by decide) hrow hsz (by omega) (by omega) hz4 hz5 hown' hgrow; have hc1 := hv1.cell; have hf1 := hv1.frozen)
        rw [← flat_snoc] at hr2
        exact ⟨hk2.from _, hk6, ⟨⟨_, hv2, by rw [win_snoc, hW, winS_ne _ _ _ _ hd, List.length_append, hlen]; exact hr2, by rw [win_snoc, hW, winS_ne _ _ _ _ hd]; simp⟩, hBW.trans hb2, Nat.le_trans hsz hb2.size⟩⟩
  case hdone =>
    rintro D ys W hD rfl ⟨⟨v, hv, hrow, hnil⟩, hBW, hsz⟩ hK
    have hc := hv.cell
    gi_wp2
    refine ⟨by simp, .inl ⟨_, _, rfl, run_takeDeferred hK, ?_⟩⟩
    exact ⟨_, results_tmp2 rfl _ _ _, v, rfl, row_base (ownsRow_putObj hrow _ hK rfl) hBq.size, hBW.trans (belowK_b (w := w) (Nat.le_refl _) W D _ _ (Nat.le_trans hBq.size hD) hK rfl rfl)⟩
  case hstop =>
    rintro D c pre W _ _ h _
    exact h.elim
end Go.Proofs.Ytkmelddejdikgaa
