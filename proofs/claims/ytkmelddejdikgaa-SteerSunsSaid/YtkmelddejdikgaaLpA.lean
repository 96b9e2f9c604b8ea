/-
  A loop of a body and a control: its memory. No function of the program is walked here. The loop: its senses.
-/
import Derived.Test.YtkmelddejdikgaaStL
import Derived.Test.YtkmelddejdikgaaBdC
import Derived.Test.YtkmelddejdikgaaBdR
set_option linter.unusedSimpArgs false
set_option linter.unusedVariables false
namespace Go.Proofs.Ytkmelddejdikgaa
open Go.RowKit PM Dt
def lpc (x : Nat × Nat × (Nat → Int)) : Array Value := #[.pointer (some ⟨x.1, 0, none⟩), .pointer (some ⟨x.2.1, 0, none⟩), .int .i64 (x.2.2 0), .int .i64 (x.2.2 1), .int .i64 (x.2.2 2)]
theorem lp_s (a b : Nat) (f : Nat → Int) (j : Nat) (hj : j < (vfn f).size) : (lpc (a, b, f))[2 + j]? = (vfn f)[j]? := by
  rw [vfn_size] at hj
  rw [vfn_get _ hj]
  exact c3 (P := fun j => (lpc (a, b, f))[2 + j]? = some (.int .i64 (f j))) hj rfl rfl rfl
def lop (lo hi p : Nat) (w : World) (x : BSt × SSt × (Nat → Int)) : Prop := ∃ ob sb, ob < sb ∧ ob < p ∧ sb ≠ p ∧ sb ≤ hi ∧ p ≤ hi ∧ hi < w.heap.size ∧ bod lo ob w x.1 ∧ blk w sb (ssc x.2.1) 205 ∧ blk w p (lpc (ob, sb, x.2.2)) 93
variable {lo hi p : Nat} {w w' : World} {x : BSt × SSt × (Nat → Int)}
theorem lop.lt (h : lop lo hi p w x) : hi < w.heap.size := let ⟨_, _, _, _, _, _, _, k, _⟩ := h; k
theorem lop.le (h : lop lo hi p w x) : p ≤ hi := let ⟨_, _, _, _, _, _, k, _⟩ := h; k
theorem lop.lolt (h : lop lo hi p w x) : lo < p := let ⟨_, _, _, b, _, _, _, _, o, _, _⟩ := h; by have := o.lolt; omega
theorem lop.below {B : Nat} (h : lop lo hi p w x) (hm : Below B w w') (hl : hi < B) : lop lo hi p w' x := let ⟨a, b, l, u, n, c, d, e, o, k, m⟩ := h; ⟨a, b, l, u, n, c, d, by have := hm.size; omega, o.below hm (by omega), k.below hm (by omega), m.below hm (by omega)⟩
theorem lop.alloc (h : lop lo hi p w x) (c : Obj) : lop lo hi p (w.alloc c) x := let ⟨a, b, l, u, n, c', d, e, o, k, m⟩ := h; ⟨a, b, l, u, n, c', d, by simpa using Nat.lt_succ_of_lt e, o.alloc c, k.alloc c, m.alloc c⟩
theorem lop.drew (h : lop lo hi p w x) : lop lo hi p w.drew x := h
theorem lop.rowOther (h : lop lo hi p w x) {g : Nat} (hg : g < lo ∨ hi < g) (c : Array Value) : lop lo hi p (w.setRow g c) x := let ⟨a, b, l, u, n, c', d, e, o, k, m⟩ := h
  ⟨a, b, l, u, n, c', d, by simpa using e, o.rowOther (by have := o.lolt; omega) c, k.rowOther (by have := o.lolt; omega) c, m.rowOther (by have := o.lolt; omega) c⟩
theorem bod.save {lo hi lo' b : Nat} {w w' : World} {X : BSt} (h : bod lo' b w X) (hs : Save lo hi w w') (ho : b < lo ∨ hi < lo') : bod lo' b w' X := by
  obtain ⟨s, l, u, k, j⟩ := h
  exact ⟨s, l, u, k.save hs (by omega), j.save hs (by omega)⟩
def senseV (X : BSt) (sun : Nat → Int) : SeT := ⟨mulF 4 (momF X), X.h, X.f, qbackF X.Q sun, X.Q⟩
end Go.Proofs.Ytkmelddejdikgaa
namespace Go.Proofs.Ytkmelddejdikgaa
open Go.RowKit PM Dt
theorem sec_of (v : SeT) : #[Value.int .i64 (v.rate 0), .int .i64 (v.rate 1), .int .i64 (v.rate 2), .int .i64 (v.sp 0), .int .i64 (v.sp 1), .int .i64 (v.sp 2), .int .i64 (v.sp 3), .int .i64 v.f, .int .i64 (v.sun 0), .int .i64 (v.sun 1), .int .i64 (v.sun 2), .int .i64 (v.att 0), .int .i64 (v.att 1), .int .i64 (v.att 2), .int .i64 (v.att 3)] = sec v := rfl
set_option maxRecDepth 100000 in
set_option maxHeartbeats 6000000 in
theorem sense_any (X : BSt) (S : SSt) (sun : Nat → Int) (lo hi lb : Nat) (w : World) (ho : lop lo hi lb w (X, S, sun)) (k : BI X) : Calls Try.prog 32 #[.pointer (some ⟨lb, 0, none⟩)] w fun e w' => e = .returned (.agg (sec (senseV X sun))) ∧ Below w.heap.size w w' := by
  obtain ⟨ob, sb, l1, l2, l3, l4, l5, l6, o, gs, hl⟩ := ho
  have SE := Lib.hid (fun w (h : bod lo ob w X) => bsee_any X lo ob sun w h k.q)
  have RA := Lib.hid (fun w (h : bod lo ob w X) => brate_any X lo ob w h k.q k.s)
  have SP := Lib.hid (fun w (h : bod lo ob w X) => bspeeds_any X lo ob w h)
  have FA := Lib.hid (fun w (h : bod lo ob w X) => bfailed_any X lo ob w h)
  have AT := Lib.hid (fun w (h : bod lo ob w X) => battitude_any X lo ob w h)
  clear k gs
  go_enter Try.func32, Try.ntmps32
  go_upto_region 1 with (fail)
  simp only [sec_zero]
  have r : blk (w.alloc (.cells (sec SeT.zero) 85)) w.heap.size (sec SeT.zero) 85 := blk.new _ _ _
  have hB : Below w.heap.size w (w.alloc (.cells (sec SeT.zero) 85)) := by go_grown
  generalize (w.alloc (.cells (sec SeT.zero) 85)) = w0 at *
  have g : blk w0 lb (lpc (ob, sb, sun)) 93 := hl.below hB hl.lt
  have gl := hl.lt
  replace o := o.below hB o.lt
  clear hl
  have ne_r_g : w.heap.size ≠ lb := by omega
  have out_r : ob < w.heap.size := by omega
  have lt_r := r.lt
  have lt_g := g.lt
  have lt_o := o.lt
  have hW0 : w.heap.size ≤ w0.heap.size := by simpa using hB.size
  apply wp_region_I 15 [0, 1, 3, 7, 0, 16, 48, 112, 255, 511, 1023, 1023, 0, 6143, 16383] [12] [_, _, _, _, _, _, _, _, _, _, _, _, (fun p => .pointer (some ⟨p 12, 0, none⟩)), (fun _ => undef), _] (fun p L w' => w0.heap.size ≤ w'.heap.size ∧ Below w.heap.size w w' ∧ blk w' w.heap.size (sec SeT.zero) 85 ∧ blk w' lb (lpc (ob, sb, sun)) 93 ∧ bod lo ob w' (X) ∧ (L 12 = true → w0.heap.size ≤ p 12 ∧ blk w' (p 12) (bif L 13 then (vfn (qbackF X.Q sun)) else (vfn fun _ => 0)) 31)) _ [(0, 6), (1, 7), (2, 8), (3, 9), (4, 10), (5, 11), (6, 12), (7, 13), (8, 14), (9, 5), (10, 15), (11, 16), (12, 3), (14, 4)] [0, 1, 2, 3, 4, 5, 6, 7, 8, 9, 10, 11, 12, 13, 14]
  case hn => rfl
  case hm => kernel_rfl
  case hB => kernel_rfl
  case hds => kernel_rfl
  case hA => (intro p; simp only [putsD, Act.put, sIT, sCZ, sCS, gCZ, gCS]; exact rfl)
  case h0 => exact fun p => ⟨Nat.le_refl _, hB.drew, r.drew, g.drew, o.drew, fun h => absurd h (by decide)⟩
  case hmore => exact fun p L w1 w2 ⟨hsz, hB, r, g, o, h_x⟩ hm => ⟨Nat.le_trans hsz hm.size, hB.trans (hm.mono (Nat.le_trans hW0 hsz)), r.below hm r.lt, g.below hm g.lt, o.below hm o.lt, fun hl => ⟨(h_x hl).1, (h_x hl).2.below hm (h_x hl).2.lt⟩⟩
  case hs =>
    intro more
    iterate 3 (refine stepV _ rfl rfl (fun _ _ _ h => h) (by intros; go_simp; exact ⟨rfl, rfl⟩) ?_)
    refine stepV 3 rfl rfl (fun _ _ _ h => h) ?_ ?_
    · rintro p L w1 ⟨hsz, hB, r, g, o, h_x⟩ hk
      have L13 : L 13 = false := hk.2.2 13 rfl
      have hc : w1.cell? ⟨lb, 0, none⟩ = some (.pointer (some ⟨ob, 0, none⟩)) := g.cellIs rfl
      go_simp
      exact ⟨rfl, rfl⟩
    iterate 3 (refine stepV _ rfl rfl (fun _ _ _ h => h) (by intros; go_simp; exact ⟨rfl, rfl⟩) ?_)
    refine stepV 7 rfl rfl (fun _ _ _ h => h) ?_ ?_
    · rintro p L w1 ⟨hsz, hB, r, g, o, h_x⟩ hk
      have L13 : L 13 = false := hk.2.2 13 rfl
      exact valR_part _ _ rfl _ 2 rfl _ _ g (vfn sun) (lp_s ob sb sun) _ Try.underlying31 rfl (by rw [vfn_size]; kernel_rfl) rfl
    refine stepD 8 rfl (fun p => rfl) (fun _ _ _ h => h) more ?_ ?_
    · rintro p L w1 ⟨hsz, hB, r, g, o, h_x⟩ hk
      have L13 : L 13 = false := hk.2.2 13 rfl
      go_simp
      refine (SE.out _ o).mono ?_
      rintro e w2 ⟨rfl, h2⟩
      first | exact ⟨rfl, h2⟩ | (subst h2; exact ⟨rfl, Below.refl _ _⟩)
    iterate 3 (refine stepV _ rfl rfl (fun _ _ _ h => h) (by intros; go_simp; exact ⟨rfl, rfl⟩) ?_)
    refine AllI.cons ?_ ?_
    · refine stepI_alloc 12 rfl (fun p => rfl) rfl (vfn fun _ => 0) 31 (fun p => rfl) ?_ ?_
      · intro p w1
        go_simp
        first | rfl | rw [zero_vec]
      rintro p L w1 ⟨hsz, hB, r, g, o, h_x⟩ hk
      have L13 : L 13 = false := hk.2.2 13 rfl
      refine ⟨Nat.le_trans hsz (by simp), hB.alloc (Nat.le_trans (by first | exact hW0 | (have := hB.size; simp at this ⊢; omega)) hsz) _, r.alloc _, g.alloc _, o.alloc _, fun _ => ⟨hsz, ?_⟩⟩
      rw [show upL L 12 13 = false from L13]
      exact blk.new _ _ _
    refine AllI.cons ?_ ?_
    · refine stepI_store 13 rfl (fun p => rfl) (fun p => rfl) _ _ _ rfl (fun p => p 12) 0 (fun p => rfl) (fun p => (vfn (qbackF X.Q sun))) (fun p => rfl) (fun p => (vfn fun _ => 0)) (fun p => (vfn (qbackF X.Q sun))) 31 (fun p => over_v _ _) (fun p => by first | (rw [vfn_size, vfn_size]; decide) | simp [vfn_size, vfn_size]) (fun p => by rw [vfn_size]; kernel_rfl) (fun p => vfn_one _) ?_ ?_
      · rintro p L w1 ⟨hsz, hB, r, g, o, h_x⟩ hk
        have L13 : L 13 = false := hk.1
        have hh := (h_x (hk.2.1 12 rfl)).2
        rw [L13] at hh
        try simp only [cond_true, cond_false] at hh
        exact hh
      · rintro p L w1 ⟨hsz, hB, r, g, o, h_x⟩ hk
        have L13 : L 13 = false := hk.1
        skip
        have hp := h_x (hk.2.1 12 rfl)
        refine ⟨(by simpa using hsz), Below.setRow hB (by first | exact Nat.le_trans hW0 hp.1 | exact ge_x | omega | (have := hB.size; simp at this ⊢; omega)) _, r.rowOther (by first | exact Nat.ne_of_lt (Nat.lt_of_lt_of_le lt_r hp.1) | omega) _, g.rowOther (by first | exact Nat.ne_of_lt (Nat.lt_of_lt_of_le lt_g hp.1) | omega) _, o.rowOther (.inr (Nat.lt_of_lt_of_le lt_o hp.1)) _, fun _ => ⟨hp.1, ?_⟩⟩
        rw [show upL L 13 13 = true from rfl]
        exact hp.2.row _
    refine stepV _ rfl rfl (fun _ _ _ h => h) (by intros; go_simp; exact ⟨rfl, rfl⟩) ?_
    exact AllI.nil
  case hV0 =>
    intro p q
    refine AllI.cons ?_ ?_
    · skip
      iterate 15 (refine AllI.cons (by first | exact .inl rfl | (refine .inr ?_; simp only [gCZ, gCS]; done) | exact .inr rfl) ?_)
      exact AllI.nil
    exact AllI.nil
  case he =>
  clear hB r g o
  rintro p w0r ⟨hsz, hB, r, g, o, h_x⟩
  obtain ⟨le_x, x⟩ := h_x rfl
  clear h_x
  replace x : blk w0r (p 12) (vfn (qbackF X.Q sun)) 31 := x
  have ne_r_x : w.heap.size ≠ p 12 := Nat.ne_of_lt (Nat.lt_of_lt_of_le lt_r le_x)
  have ne_g_x : lb ≠ p 12 := Nat.ne_of_lt (Nat.lt_of_lt_of_le lt_g le_x)
  have ne_o_x : ob ≠ p 12 := Nat.ne_of_lt (Nat.lt_of_lt_of_le lt_o le_x)
  have ge_x : w.heap.size ≤ p 12 := Nat.le_trans hW0 le_x
  have out_x : ob < p 12 := Nat.lt_of_lt_of_le lt_o le_x
  generalize p 12 = x_b at *
  clear lt_r lt_g lt_o hsz hW0
  go_upto_region 2 with (fail)
  clear SE
  have lt_r := r.lt
  have lt_g := g.lt
  have lt_o := o.lt
  have lt_x := x.lt
  have hW0 : w.heap.size ≤ w0r.heap.size := by simpa using hB.size
  apply wp_region_I 23 [0, 1, 3, 7, 15, 0, 32, 96, 224, 511, 0, 1024, 3072, 7168, 16383, 0, 0, 65536, 196608, 458752, 1015807, 2097151, 4194303] [] [_, _, _, _, _, _, _, _, _, _, _, _, _, _, _, _, _, _, _, _, _, _, (fun _ => undef)] (fun p L w' => w0r.heap.size ≤ w'.heap.size ∧ Below w.heap.size w w' ∧ blk w' w.heap.size (bif L 22 then (sec (senseV X sun)) else (sec SeT.zero)) 85 ∧ blk w' lb (lpc (ob, sb, sun)) 93 ∧ bod lo ob w' (X) ∧ blk w' x_b (vfn (qbackF X.Q sun)) 31) _ [(0, 17), (1, 18), (2, 19), (3, 20), (4, 21), (5, 22), (6, 23), (7, 24), (8, 25), (9, 26), (10, 27), (11, 28), (12, 29), (13, 30), (14, 31), (15, 32), (16, 33), (17, 34), (18, 35), (19, 36), (20, 37), (21, 38)] [0, 1, 2, 3, 4, 5, 6, 7, 8, 9, 10, 11, 12, 13, 14, 15, 16, 17, 18, 19, 20, 21, 22]
  case hn => rfl
  case hm => kernel_rfl
  case hB => kernel_rfl
  case hds => kernel_rfl
  case hA => (intro p; simp only [putsD, Act.put, sIT, sCZ, sCS, gCZ, gCS]; exact rfl)
  case h0 => exact fun p => ⟨Nat.le_refl _, hB.drew, r.drew, g.drew, o.drew, x.drew⟩
  case hmore => exact fun p L w1 w2 ⟨hsz, hB, r, g, o, x⟩ hm => ⟨Nat.le_trans hsz hm.size, hB.trans (hm.mono (Nat.le_trans hW0 hsz)), r.below hm r.lt, g.below hm g.lt, o.below hm o.lt, x.below hm x.lt⟩
  case hs =>
    intro more
    iterate 3 (refine stepV _ rfl rfl (fun _ _ _ h => h) (by intros; go_simp; exact ⟨rfl, rfl⟩) ?_)
    refine stepV 3 rfl rfl (fun _ _ _ h => h) ?_ ?_
    · rintro p L w1 ⟨hsz, hB, r, g, o, x⟩ hk
      have L22 : L 22 = false := hk.2.2 22 rfl
      have hc : w1.cell? ⟨lb, 0, none⟩ = some (.pointer (some ⟨ob, 0, none⟩)) := g.cellIs rfl
      go_simp
      exact ⟨rfl, rfl⟩
    refine stepD 4 rfl (fun p => rfl) (fun _ _ _ h => h) more ?_ ?_
    · rintro p L w1 ⟨hsz, hB, r, g, o, x⟩ hk
      have L22 : L 22 = false := hk.2.2 22 rfl
      go_simp
      refine (RA.out _ o).mono ?_
      rintro e w2 ⟨rfl, h2⟩
      first | exact ⟨rfl, h2⟩ | (subst h2; exact ⟨rfl, Below.refl _ _⟩)
    iterate 3 (refine stepV _ rfl rfl (fun _ _ _ h => h) (by intros; go_simp; exact ⟨rfl, rfl⟩) ?_)
    refine stepV 8 rfl rfl (fun _ _ _ h => h) ?_ ?_
    · rintro p L w1 ⟨hsz, hB, r, g, o, x⟩ hk
      have L22 : L 22 = false := hk.2.2 22 rfl
      have hc : w1.cell? ⟨lb, 0, none⟩ = some (.pointer (some ⟨ob, 0, none⟩)) := g.cellIs rfl
      go_simp
      exact ⟨rfl, rfl⟩
    refine stepD 9 rfl (fun p => rfl) (fun _ _ _ h => h) more ?_ ?_
    · rintro p L w1 ⟨hsz, hB, r, g, o, x⟩ hk
      have L22 : L 22 = false := hk.2.2 22 rfl
      go_simp
      refine (SP.out _ o).mono ?_
      rintro e w2 ⟨rfl, h2⟩
      first | exact ⟨rfl, h2⟩ | (subst h2; exact ⟨rfl, Below.refl _ _⟩)
    iterate 3 (refine stepV _ rfl rfl (fun _ _ _ h => h) (by intros; go_simp; exact ⟨rfl, rfl⟩) ?_)
    refine stepV 13 rfl rfl (fun _ _ _ h => h) ?_ ?_
    · rintro p L w1 ⟨hsz, hB, r, g, o, x⟩ hk
      have L22 : L 22 = false := hk.2.2 22 rfl
      have hc : w1.cell? ⟨lb, 0, none⟩ = some (.pointer (some ⟨ob, 0, none⟩)) := g.cellIs rfl
      go_simp
      exact ⟨rfl, rfl⟩
    refine stepD 14 rfl (fun p => rfl) (fun _ _ _ h => h) more ?_ ?_
    · rintro p L w1 ⟨hsz, hB, r, g, o, x⟩ hk
      have L22 : L 22 = false := hk.2.2 22 rfl
      go_simp
      refine (FA.out _ o).mono ?_
      rintro e w2 ⟨rfl, h2⟩
      first | exact ⟨rfl, h2⟩ | (subst h2; exact ⟨rfl, Below.refl _ _⟩)
    refine stepV 15 rfl rfl (fun _ _ _ h => h) ?_ ?_
    · rintro p L w1 ⟨hsz, hB, r, g, o, x⟩ hk
      have L22 : L 22 = false := hk.2.2 22 rfl
      first | exact valR_row _ _ rfl _ rfl _ _ x _ Try.underlying31 rfl (by first | kernel_rfl | (rw [vfn_size]; kernel_rfl)) rfl | (have hc := x.cellIs (vfn_get _ (show 0 < 3 by omega)); go_simp; exact ⟨rfl, rfl⟩)
    iterate 3 (refine stepV _ rfl rfl (fun _ _ _ h => h) (by intros; go_simp; exact ⟨rfl, rfl⟩) ?_)
    refine stepV 19 rfl rfl (fun _ _ _ h => h) ?_ ?_
    · rintro p L w1 ⟨hsz, hB, r, g, o, x⟩ hk
      have L22 : L 22 = false := hk.2.2 22 rfl
      have hc : w1.cell? ⟨lb, 0, none⟩ = some (.pointer (some ⟨ob, 0, none⟩)) := g.cellIs rfl
      go_simp
      exact ⟨rfl, rfl⟩
    refine stepD 20 rfl (fun p => rfl) (fun _ _ _ h => h) more ?_ ?_
    · rintro p L w1 ⟨hsz, hB, r, g, o, x⟩ hk
      have L22 : L 22 = false := hk.2.2 22 rfl
      go_simp
      refine (AT.out _ o).mono ?_
      rintro e w2 ⟨rfl, h2⟩
      first | exact ⟨rfl, h2⟩ | (subst h2; exact ⟨rfl, Below.refl _ _⟩)
    refine AllI.cons ?_ ?_
    · refine stepI_val 21 rfl (fun p => rfl) ?_ (fun _ _ _ h => h)
      intros; simp only [qfn, vfn]; go_simp; exact ⟨rfl, rfl⟩
    refine AllI.cons ?_ ?_
    · refine stepI_store 22 rfl (fun p => rfl) (fun p => rfl) _ _ _ rfl (fun _ => w.heap.size) 0 (fun p => rfl) (fun p => (sec (senseV X sun))) (fun p => (congrArg Value.agg (sec_of (senseV X sun)))) (fun p => (sec SeT.zero)) (fun p => (sec (senseV X sun))) 85 (fun p => over_full rfl) (fun p => by first | (rw [sec_size, sec_size]; decide) | simp [sec_size, sec_size]) (fun p => by rw [sec_size]; kernel_rfl) (fun p => sec_one _) ?_ ?_
      · rintro p L w1 ⟨hsz, hB, r, g, o, x⟩ hk
        have L22 : L 22 = false := hk.1
        rw [L22] at r
        try simp only [cond_true, cond_false] at r
        exact r
      · rintro p L w1 ⟨hsz, hB, r, g, o, x⟩ hk
        have L22 : L 22 = false := hk.1
        skip
        refine ⟨(by simpa using hsz), Below.setRow hB (by first | exact Nat.le_trans hW0 hp.1 | exact ge_r | omega | (have := hB.size; simp at this ⊢; omega)) _, ?_, g.rowOther (Ne.symm ne_r_g) _, o.rowOther (by first | exact .inr out_r | exact .inl out_r | omega) _, x.rowOther (Ne.symm ne_r_x) _⟩
        rw [show upL L 22 22 = true from rfl]
        exact r.row _
    exact AllI.nil
  case hV0 => exact fun p q => AllI.nil
  case he =>
  clear hB r g o x
  rintro p w0rr ⟨hsz, hB, r, g, o, x⟩
  replace r : blk w0rr w.heap.size (sec (senseV X sun)) 85 := r
  clear lt_r lt_g lt_o lt_x hsz hW0
  go_wp2_with (fail)
  refine bodyPost_ret (results_cell_row rfl _ _ _ _ _ _ _ rfl r Try.underlying85 rfl (by first | kernel_rfl | (rw [sec_size]; kernel_rfl))) rfl ?_
  exact ⟨rfl, hB⟩
end Go.Proofs.Ytkmelddejdikgaa
