/-
  OrbitSpans returns true.
-/
import Derived.Test.YtnkjbdfhdenbcaaOrbW
import Derived.Test.YtnkjbdfhdenbcaaOrbT
import Derived.BigQuiet
set_option linter.unusedSimpArgs false
set_option linter.unusedVariables false
namespace Go.Proofs.Ytnkjbdfhdenbcaa
open Go.RowKit PM Dt
/-- The cells of a list of spans. -/
def Holds (w : World) (A : Option Addr) (L : List (Int × Int)) : Prop := ∀ i, i < L.length → ∃ g1, A = some ⟨g1, 0, none⟩ ∧ g1 < w.heap.size ∧ w.cell? ⟨g1, i * 2, none⟩ = some (.int .i64 (spa L i)) ∧ w.cell? ⟨g1, i * 2 + 1, none⟩ = some (.int .i64 (spb L i))
theorem Holds.below {w w' : World} {A : Option Addr} {L : List (Int × Int)} (h : Holds w A L) (hb : Below w.heap.size w w') : Holds w' A L := fun i hi => by
  obtain ⟨g1, h1, h2, h3, h4⟩ := h i hi
  exact ⟨g1, h1, Nat.lt_of_lt_of_le h2 hb.size, (hb.cell (p := ⟨g1, i * 2, none⟩) h2).trans h3, (hb.cell (p := ⟨g1, i * 2 + 1, none⟩) h2).trans h4⟩
theorem Holds.drewN {w : World} {A : Option Addr} {L : List (Int × Int)} (h : Holds w A L) (n : Nat) : Holds (w.drewN n) A L := h
theorem flat_a (L : List (Int × Int)) : ∀ i, i < L.length → (flat L)[i * 2]? = some (.int .i64 (spa L i)) ∧ (flat L)[i * 2 + 1]? = some (.int .i64 (spb L i)) := by
  induction L with
  | nil => intro i hi; simp at hi
  | cons p L ih =>
    intro i hi
    have e : flat (p :: L) = Value.int .i64 p.1 :: Value.int .i64 p.2 :: flat L := rfl
    cases i with
    | zero => rw [e]; exact ⟨rfl, rfl⟩
    | succ i =>
      have := ih i (by simpa using hi)
      have s1 : spa (p :: L) (i + 1) = spa L i := rfl
      have s2 : spb (p :: L) (i + 1) = spb L i := rfl
      rw [e, s1, s2, show (i + 1) * 2 = i * 2 + 1 + 1 by omega, List.getElem?_cons_succ, List.getElem?_cons_succ, List.getElem?_cons_succ, List.getElem?_cons_succ]
      exact this
theorem spans_form {B : Nat} {w : World} {v : Value} {L : List (Int × Int)} (h : Spans B w v L) : ∃ A cap, v = .slice A L.length cap ∧ Holds w A L := by
  rcases h.2 with ⟨rfl, h0⟩ | ⟨g1, cap, cur, rfl, hb, hg, hr⟩
  · exact ⟨none, 0, by rw [h0], fun i hi => by omega⟩
  · refine ⟨some ⟨g1, 0, none⟩, cap, rfl, fun i hi => ?_⟩
    have h' : w.ownsRow B 28 2 (.slice (some ⟨g1, 0, none⟩) L.length cap) L.length (flat L) := h
    have hb' : blk w g1 cur 28 := hg
    obtain ⟨x, y⟩ := flat_a L i hi
    exact ⟨g1, rfl, hb'.lt, (row_cell h' x).1, (row_cell h' y).1⟩
set_option maxRecDepth 100000 in
set_option maxHeartbeats 2000000 in
theorem ospan_out0 (f g h : Nat → Int) (w : World) (d1 : decide (h 0 < 0) = true) : Calls Try.prog 3 #[.agg (ofn f), .agg (stn g), .agg (spn h)] w fun e w' => e = .returned (.bool true) ∧ Below w.heap.size w w' := by
  have AW := Lib.hid awake25_any
  go_enter Try.func3, Try.ntmps3
  go_upto_region 1 with (fail)
  have p : blk (((w.alloc (.cells (ofn f) 24)).alloc (.cells (stn g) 26)).alloc (.cells (spn h) 28)) w.heap.size (ofn f) 24 := ((blk.new _ _ _).alloc _).alloc _
  have q : blk (((w.alloc (.cells (ofn f) 24)).alloc (.cells (stn g) 26)).alloc (.cells (spn h) 28)) (w.heap.size + 1) (stn g) 26 := (blk.new' (by simp)).alloc _
  have r : blk (((w.alloc (.cells (ofn f) 24)).alloc (.cells (stn g) 26)).alloc (.cells (spn h) 28)) (w.heap.size + 2) (spn h) 28 := blk.new' (by simp)
  have hB : Below w.heap.size w (((w.alloc (.cells (ofn f) 24)).alloc (.cells (stn g) 26)).alloc (.cells (spn h) 28)) := by go_grown
  generalize (((w.alloc (.cells (ofn f) 24)).alloc (.cells (stn g) 26)).alloc (.cells (spn h) 28)) = w0 at *
  have c0 : w0.cell? ⟨(w.heap.size + 2), 0, none⟩ = some (.int .i64 (h 0)) := r.cellIs (rfl)
  have c1 : w0.cell? ⟨(w.heap.size + 2), 1, none⟩ = some (.int .i64 (h 1)) := r.cellIs (rfl)
  go_wp2_with (first
    | (go_at_call 15; refine (AW.out _).mono ?_; rintro e wx ⟨rfl, hb⟩; replace hB := hB.trans (hb.mono hB.size); clear hb))
  go_ret
  exact ⟨rfl, hB⟩
set_option maxRecDepth 100000 in
set_option maxHeartbeats 2000000 in
theorem ospan_out1 (f g h : Nat → Int) (w : World) (d1 : decide (h 0 < 0) = false) (d2 : decide (1099511626776 < h 0) = true) : Calls Try.prog 3 #[.agg (ofn f), .agg (stn g), .agg (spn h)] w fun e w' => e = .returned (.bool true) ∧ Below w.heap.size w w' := by
  have AW := Lib.hid awake25_any
  go_enter Try.func3, Try.ntmps3
  go_upto_region 1 with (fail)
  have p : blk (((w.alloc (.cells (ofn f) 24)).alloc (.cells (stn g) 26)).alloc (.cells (spn h) 28)) w.heap.size (ofn f) 24 := ((blk.new _ _ _).alloc _).alloc _
  have q : blk (((w.alloc (.cells (ofn f) 24)).alloc (.cells (stn g) 26)).alloc (.cells (spn h) 28)) (w.heap.size + 1) (stn g) 26 := (blk.new' (by simp)).alloc _
  have r : blk (((w.alloc (.cells (ofn f) 24)).alloc (.cells (stn g) 26)).alloc (.cells (spn h) 28)) (w.heap.size + 2) (spn h) 28 := blk.new' (by simp)
  have hB : Below w.heap.size w (((w.alloc (.cells (ofn f) 24)).alloc (.cells (stn g) 26)).alloc (.cells (spn h) 28)) := by go_grown
  generalize (((w.alloc (.cells (ofn f) 24)).alloc (.cells (stn g) 26)).alloc (.cells (spn h) 28)) = w0 at *
  have c0 : w0.cell? ⟨(w.heap.size + 2), 0, none⟩ = some (.int .i64 (h 0)) := r.cellIs (rfl)
  have c1 : w0.cell? ⟨(w.heap.size + 2), 1, none⟩ = some (.int .i64 (h 1)) := r.cellIs (rfl)
  go_wp2_with (first
    | (go_at_call 15; refine (AW.out _).mono ?_; rintro e wx ⟨rfl, hb⟩; replace hB := hB.trans (hb.mono hB.size); clear hb))
  go_ret
  exact ⟨rfl, hB⟩
set_option maxRecDepth 100000 in
set_option maxHeartbeats 2000000 in
theorem ospan_out2 (f g h : Nat → Int) (w : World) (d1 : decide (h 0 < 0) = false) (d2 : decide (1099511626776 < h 0) = false) (d3 : decide (h 1 < 0) = true) : Calls Try.prog 3 #[.agg (ofn f), .agg (stn g), .agg (spn h)] w fun e w' => e = .returned (.bool true) ∧ Below w.heap.size w w' := by
  have AW := Lib.hid awake25_any
  go_enter Try.func3, Try.ntmps3
  go_upto_region 1 with (fail)
  have p : blk (((w.alloc (.cells (ofn f) 24)).alloc (.cells (stn g) 26)).alloc (.cells (spn h) 28)) w.heap.size (ofn f) 24 := ((blk.new _ _ _).alloc _).alloc _
  have q : blk (((w.alloc (.cells (ofn f) 24)).alloc (.cells (stn g) 26)).alloc (.cells (spn h) 28)) (w.heap.size + 1) (stn g) 26 := (blk.new' (by simp)).alloc _
  have r : blk (((w.alloc (.cells (ofn f) 24)).alloc (.cells (stn g) 26)).alloc (.cells (spn h) 28)) (w.heap.size + 2) (spn h) 28 := blk.new' (by simp)
  have hB : Below w.heap.size w (((w.alloc (.cells (ofn f) 24)).alloc (.cells (stn g) 26)).alloc (.cells (spn h) 28)) := by go_grown
  generalize (((w.alloc (.cells (ofn f) 24)).alloc (.cells (stn g) 26)).alloc (.cells (spn h) 28)) = w0 at *
  have c0 : w0.cell? ⟨(w.heap.size + 2), 0, none⟩ = some (.int .i64 (h 0)) := r.cellIs (rfl)
  have c1 : w0.cell? ⟨(w.heap.size + 2), 1, none⟩ = some (.int .i64 (h 1)) := r.cellIs (rfl)
  go_wp2_with (first
    | (go_at_call 15; refine (AW.out _).mono ?_; rintro e wx ⟨rfl, hb⟩; replace hB := hB.trans (hb.mono hB.size); clear hb))
  go_ret
  exact ⟨rfl, hB⟩
set_option maxRecDepth 100000 in
set_option maxHeartbeats 4000000 in
theorem ospan_err (f g h : Nat → Int) (w : World) (d1 : decide (h 0 < 0) = false) (d2 : decide (1099511626776 < h 0) = false) (d3 : decide (h 1 < 0) = false) (M : Nat) (z1 : (h 1).tmod 1001 = (M : Int)) (z2 : IntKind.i64.wrap (h 0 + (M : Int)) = h 0 + (M : Int)) (L : List (Int × Int)) (hL : L = []) (WI : Hid (∀ w, Calls Try.prog 16 #[.agg (ofn f), .agg (stn g), .int .i64 (h 0), .int .i64 (h 0 + M)] w fun e w' => ∃ v, e = .returned (.tuple #[v, .int .i64 2]) ∧ Spans w.heap.size w' v L ∧ Below w.heap.size w w')) : Calls Try.prog 3 #[.agg (ofn f), .agg (stn g), .agg (spn h)] w fun e w' => e = .returned (.bool true) ∧ Below w.heap.size w w' := by
  have AW := Lib.hid awake25_any
  subst hL
  go_enter Try.func3, Try.ntmps3
  go_upto_region 1 with (fail)
  have p : blk (((w.alloc (.cells (ofn f) 24)).alloc (.cells (stn g) 26)).alloc (.cells (spn h) 28)) w.heap.size (ofn f) 24 := ((blk.new _ _ _).alloc _).alloc _
  have q : blk (((w.alloc (.cells (ofn f) 24)).alloc (.cells (stn g) 26)).alloc (.cells (spn h) 28)) (w.heap.size + 1) (stn g) 26 := (blk.new' (by simp)).alloc _
  have r : blk (((w.alloc (.cells (ofn f) 24)).alloc (.cells (stn g) 26)).alloc (.cells (spn h) 28)) (w.heap.size + 2) (spn h) 28 := blk.new' (by simp)
  have hB : Below w.heap.size w (((w.alloc (.cells (ofn f) 24)).alloc (.cells (stn g) 26)).alloc (.cells (spn h) 28)) := by go_grown
  generalize (((w.alloc (.cells (ofn f) 24)).alloc (.cells (stn g) 26)).alloc (.cells (spn h) 28)) = w0 at *
  have c0 : w0.cell? ⟨(w.heap.size + 2), 0, none⟩ = some (.int .i64 (h 0)) := r.cellIs (rfl)
  have c1 : w0.cell? ⟨(w.heap.size + 2), 1, none⟩ = some (.int .i64 (h 1)) := r.cellIs (rfl)
  go_upto_region 3 with (fail)
  go_quiet (fail)
  clear c0 c1
  replace p := p.drewN nq
  replace q := q.drewN nq
  replace hB := below_drewN hB nq
  clear r
  generalize w0.drewN nq = w1 at *
  go_wp2_with (first
    | (refine wpList_load_rowG ?hw _ _ rfl _ rfl _ _ _ _ p Try.underlying24 rfl ?hi ?_; (case hw => (first | rfl | (simp [Region.wanted, yielded]; done))); (case hi => (first | kernel_rfl | (rw [ofn_size]; kernel_rfl))))
    | (refine wpList_load_rowG ?hw _ _ rfl _ rfl _ _ _ _ q Try.underlying26 rfl ?hi ?_; (case hw => (first | rfl | (simp [Region.wanted, yielded]; done))); (case hi => (first | kernel_rfl | (rw [stn_size]; kernel_rfl))))
    | (go_at_call 16; with_reducible refine (WI.out _).mono ?_; rintro e w2 ⟨v, rfl, hS, hb⟩; obtain ⟨A, cap, rfl, hC⟩ := spans_form hS; replace hB := hB.trans (hb.mono hB.size); replace p := p.below hb p.lt; replace q := q.below hb q.lt; clear hb hS)
    | (go_at_call 15; refine (AW.out _).mono ?_; rintro e wx ⟨rfl, hb⟩; replace hB := hB.trans (hb.mono hB.size); clear hb))
  go_ret
  exact ⟨rfl, hB⟩
theorem WInv.low {v : Int → Bool} {a : Int} {k : Nat} {L : List (Int × Int)} (h : WInv v a k L) : ∀ i, i < L.length → a + i < spb L i := by
  intro i
  induction i with
  | zero => intro hi; have := h.one 0 hi; omega
  | succ i ih =>
    intro hi
    have h1 := ih (by omega)
    have h2 := h.two i hi
    have h3 := h.one (i + 1) hi
    omega
theorem WInv.len {v : Int → Bool} {a : Int} {k : Nat} {L : List (Int × Int)} (h : WInv v a k L) : L.length ≤ k := by
  rcases Nat.eq_zero_or_pos L.length with h0 | h0
  · omega
  · have h1 := h.low (L.length - 1) (by omega)
    have h2 := h.one (L.length - 1) (by omega)
    omega
set_option maxRecDepth 100000 in
set_option maxHeartbeats 8000000 in
theorem ospan_in (f g h : Nat → Int) (w : World) (d1 : decide (h 0 < 0) = false) (d2 : decide (1099511626776 < h 0) = false) (d3 : decide (h 1 < 0) = false) (M : Nat) (z1 : (h 1).tmod 1001 = (M : Int)) (z2 : IntKind.i64.wrap (h 0 + (M : Int)) = h 0 + (M : Int)) (L : List (Int × Int)) (WI : Hid (∀ w, Calls Try.prog 16 #[.agg (ofn f), .agg (stn g), .int .i64 (h 0), .int .i64 (h 0 + M)] w fun e w' => ∃ v, e = .returned (.tuple #[v, .int .i64 0]) ∧ Spans w.heap.size w' v L ∧ Below w.heap.size w w')) (IV : Hid (∀ t, h 0 ≤ t → t < h 0 + M → ∀ w, Calls Try.prog 17 #[.agg (ofn f), .agg (stn g), .int .i64 t] w fun e w' => e = .returned (.tuple #[.bool (viewB f g t), .int .i64 0]) ∧ Below w.heap.size w w')) (hW : WInv (viewB f g) (h 0) M L) (hM : M ≤ 1001) (hz : 0 ≤ h 0 ∧ h 0 ≤ 1099511626776) : Calls Try.prog 3 #[.agg (ofn f), .agg (stn g), .agg (spn h)] w fun e w' => e = .returned (.bool true) ∧ Below w.heap.size w w' := by
  have AW := Lib.hid awake25_any
  replace hW := Lib.hid hW
  have hlen := hW.out.len
  go_enter Try.func3, Try.ntmps3
  go_upto_region 1 with (fail)
  have p : blk (((w.alloc (.cells (ofn f) 24)).alloc (.cells (stn g) 26)).alloc (.cells (spn h) 28)) w.heap.size (ofn f) 24 := ((blk.new _ _ _).alloc _).alloc _
  have q : blk (((w.alloc (.cells (ofn f) 24)).alloc (.cells (stn g) 26)).alloc (.cells (spn h) 28)) (w.heap.size + 1) (stn g) 26 := (blk.new' (by simp)).alloc _
  have r : blk (((w.alloc (.cells (ofn f) 24)).alloc (.cells (stn g) 26)).alloc (.cells (spn h) 28)) (w.heap.size + 2) (spn h) 28 := blk.new' (by simp)
  have hB : Below w.heap.size w (((w.alloc (.cells (ofn f) 24)).alloc (.cells (stn g) 26)).alloc (.cells (spn h) 28)) := by go_grown
  generalize (((w.alloc (.cells (ofn f) 24)).alloc (.cells (stn g) 26)).alloc (.cells (spn h) 28)) = w0 at *
  have c0 : w0.cell? ⟨(w.heap.size + 2), 0, none⟩ = some (.int .i64 (h 0)) := r.cellIs (rfl)
  have c1 : w0.cell? ⟨(w.heap.size + 2), 1, none⟩ = some (.int .i64 (h 1)) := r.cellIs (rfl)
  go_upto_region 3 with (fail)
  go_quiet (fail)
  clear c0 c1
  replace p := p.drewN nq
  replace q := q.drewN nq
  replace hB := below_drewN hB nq
  clear r
  generalize w0.drewN nq = w1 at *
  go_wp2_with (first
    | (refine wpList_load_rowG ?hw _ _ rfl _ rfl _ _ _ _ p Try.underlying24 rfl ?hi ?_; (case hw => (first | rfl | (simp [Region.wanted, yielded]; done))); (case hi => (first | kernel_rfl | (rw [ofn_size]; kernel_rfl))))
    | (refine wpList_load_rowG ?hw _ _ rfl _ rfl _ _ _ _ q Try.underlying26 rfl ?hi ?_; (case hw => (first | rfl | (simp [Region.wanted, yielded]; done))); (case hi => (first | kernel_rfl | (rw [stn_size]; kernel_rfl))))
    | (go_at_call 16; with_reducible refine (WI.out _).mono ?_; rintro e w2 ⟨v, rfl, hS, hb⟩; obtain ⟨A, cap, rfl, hC⟩ := spans_form hS; replace hB := hB.trans (hb.mono hB.size); replace p := p.below hb p.lt; replace q := q.below hb q.lt; clear hb hS))
  go_loopg [11, 12] M (fun g_ kv tv wr => ∃ k x : Nat, g_ + k = M ∧ kv = .int .i64 x ∧ tv = .int .i64 (h 0 + k) ∧ x ≤ L.length ∧ Hid (Stands L x (h 0 + k - 1)) ∧ Holds wr A L ∧ blk wr w.heap.size (ofn f) 24 ∧ blk wr (w.heap.size + 1) (stn g) 26 ∧ Below w.heap.size w wr)
  case atStart => exact ⟨0, 0, by omega, rfl, by simp, by omega, ⟨by omega, fun j hj => by omega, fun j _ hl => by have := hW.out.one j hl; omega⟩, hC, p, q, hB⟩
  case round =>
    clear hC p q hB
    obtain ⟨k, x, hk, rfl, rfl, hxl, hst, hC, p, q, hB⟩ := hrel
    have hstep := Stands.step hW.out hst.out
    by_cases hkM : k < M
    · have hdk : decide ((k : Int) < M) = true := decide_eq_true (by omega)
      have hdk' : decide (k < M) = true := decide_eq_true (by omega)
      have hdk2 : decide (h 0 + (k : Int) < h 0 + M) = true := decide_eq_true (by omega)
      by_cases hx : x < L.length
      · have hy1 : decide (((x : Nat) : Int) < L.length) = true := decide_eq_true (by omega)
        have hy1' : decide (x < L.length) = true := decide_eq_true (by omega)
        have hy3 : ((x : Nat) : Int) < L.length := by omega
        obtain ⟨g1, hA, hg1, ca, cb⟩ := hC x hx
        subst hA
        by_cases hs : spb L x ≤ h 0 + k
        · have dS : decide (spb L x ≤ h 0 + k) = true := decide_eq_true (by omega)
          have hwx : IntKind.i64.wrap ((x : Int) + 1) = ((x + 1 : Nat) : Int) := by rw [IntKind.wrap_i64]; omega
          have hst' := hstep.1 ⟨hx, hs⟩
          clear hstep
          go_upto_region 13 with (fail)
          clear ca cb dS hy1 hy1' hy3 hg1
          generalize hA : (some ⟨g1, 0, none⟩ : Option Addr) = A at *
          obtain ⟨y, hy⟩ : ∃ y : Nat, y = x + 1 := ⟨_, rfl⟩
          rw [show ((x : Int) + 1) = ((y : Nat) : Int) by omega]
          rw [← hy] at hst'
          have hyl : y ≤ L.length := by omega
          clear hy hwx hx hs hst hxl hA
          have HV := hst'.view hW.out (t := h 0 + k) (by omega) (by omega)
          have HIV := Lib.hid (IV.out (h 0 + k) (by omega) (by omega))
          have ht1 : IntKind.i64.wrap (h 0 + (k : Int) + 1) = h 0 + ((k + 1 : Nat) : Int) := by rw [IntKind.wrap_i64]; omega
          by_cases hX : y < L.length
          · have hx1 : decide (((y : Nat) : Int) < L.length) = true := decide_eq_true (by omega)
            have hx1' : decide (y < L.length) = true := decide_eq_true (by omega)
            have hx3 : ((y : Nat) : Int) < L.length := by omega
            by_cases ha : spa L (y) ≤ h 0 + k
            · have da : decide (spa L (y) ≤ h 0 + k) = true := decide_eq_true (by omega)
              by_cases hb : h 0 + k < spb L (y)
              · have db : decide (h 0 + k < spb L (y)) = true := decide_eq_true (by omega)
                rw [hx1', da, db] at HV
                replace HV : viewB f g (h 0 + k) = true := by rw [HV]; rfl
                rw [HV] at HIV
                clear hW IV WI HV
                go_upto_region 14 with (first
                  | (refine wpList_load_rowG ?hw _ _ rfl _ rfl _ _ _ _ p Try.underlying24 rfl ?hi ?_; (case hw => (first | rfl | (simp [Region.wanted, yielded]; done))); (case hi => (first | kernel_rfl | (rw [ofn_size]; kernel_rfl))))
                  | (refine wpList_load_rowG ?hw _ _ rfl _ rfl _ _ _ _ q Try.underlying26 rfl ?hi ?_; (case hw => (first | rfl | (simp [Region.wanted, yielded]; done))); (case hi => (first | kernel_rfl | (rw [stn_size]; kernel_rfl))))
                  | (go_at_call 17; with_reducible refine (HIV.out _).mono ?_; rintro e w3 ⟨rfl, hb⟩; replace hB := hB.trans (hb.mono hB.size); replace p := p.below hb p.lt; replace q := q.below hb q.lt; replace hC := hC.below hb; clear hb))
                obtain ⟨g1, hA, hg1, ca, cb⟩ := hC (y) hX
                subst hA
                go_wp2_with (fail)
                go_roundg (M - (k + 1))
                case rel =>
                  exact ⟨k + 1, y, by omega, rfl, by rw [show h 0 + ((k + 1 : Nat) : Int) = h 0 + ((k : Int) + 1) by omega], by omega, by rw [show h 0 + ((k + 1 : Nat) : Int) - 1 = h 0 + k by omega]; exact hst', hC, p, q, hB⟩
                case measure => omega
              · have db : decide (h 0 + k < spb L (y)) = false := decide_eq_false (by omega)
                rw [hx1', da, db] at HV
                replace HV : viewB f g (h 0 + k) = false := by rw [HV]; rfl
                rw [HV] at HIV
                clear hW IV WI HV
                go_upto_region 14 with (first
                  | (refine wpList_load_rowG ?hw _ _ rfl _ rfl _ _ _ _ p Try.underlying24 rfl ?hi ?_; (case hw => (first | rfl | (simp [Region.wanted, yielded]; done))); (case hi => (first | kernel_rfl | (rw [ofn_size]; kernel_rfl))))
                  | (refine wpList_load_rowG ?hw _ _ rfl _ rfl _ _ _ _ q Try.underlying26 rfl ?hi ?_; (case hw => (first | rfl | (simp [Region.wanted, yielded]; done))); (case hi => (first | kernel_rfl | (rw [stn_size]; kernel_rfl))))
                  | (go_at_call 17; with_reducible refine (HIV.out _).mono ?_; rintro e w3 ⟨rfl, hb⟩; replace hB := hB.trans (hb.mono hB.size); replace p := p.below hb p.lt; replace q := q.below hb q.lt; replace hC := hC.below hb; clear hb))
                obtain ⟨g1, hA, hg1, ca, cb⟩ := hC (y) hX
                subst hA
                go_wp2_with (fail)
                go_roundg (M - (k + 1))
                case rel =>
                  exact ⟨k + 1, y, by omega, rfl, by rw [show h 0 + ((k + 1 : Nat) : Int) = h 0 + ((k : Int) + 1) by omega], by omega, by rw [show h 0 + ((k + 1 : Nat) : Int) - 1 = h 0 + k by omega]; exact hst', hC, p, q, hB⟩
                case measure => omega
            · have da : decide (spa L (y) ≤ h 0 + k) = false := decide_eq_false (by omega)
              rw [hx1', da] at HV
              replace HV : viewB f g (h 0 + k) = false := by rw [HV]; rfl
              rw [HV] at HIV
              clear hW IV WI HV
              go_upto_region 14 with (first
                | (refine wpList_load_rowG ?hw _ _ rfl _ rfl _ _ _ _ p Try.underlying24 rfl ?hi ?_; (case hw => (first | rfl | (simp [Region.wanted, yielded]; done))); (case hi => (first | kernel_rfl | (rw [ofn_size]; kernel_rfl))))
                | (refine wpList_load_rowG ?hw _ _ rfl _ rfl _ _ _ _ q Try.underlying26 rfl ?hi ?_; (case hw => (first | rfl | (simp [Region.wanted, yielded]; done))); (case hi => (first | kernel_rfl | (rw [stn_size]; kernel_rfl))))
                | (go_at_call 17; with_reducible refine (HIV.out _).mono ?_; rintro e w3 ⟨rfl, hb⟩; replace hB := hB.trans (hb.mono hB.size); replace p := p.below hb p.lt; replace q := q.below hb q.lt; replace hC := hC.below hb; clear hb))
              obtain ⟨g1, hA, hg1, ca, cb⟩ := hC (y) hX
              subst hA
              go_wp2_with (fail)
              go_roundg (M - (k + 1))
              case rel =>
                exact ⟨k + 1, y, by omega, rfl, by rw [show h 0 + ((k + 1 : Nat) : Int) = h 0 + ((k : Int) + 1) by omega], by omega, by rw [show h 0 + ((k + 1 : Nat) : Int) - 1 = h 0 + k by omega]; exact hst', hC, p, q, hB⟩
              case measure => omega
          · have hx1 : decide (((y : Nat) : Int) < L.length) = false := decide_eq_false (by omega)
            have hx1' : decide (y < L.length) = false := decide_eq_false (by omega)
            rw [hx1'] at HV
            replace HV : viewB f g (h 0 + k) = false := by rw [HV]; rfl
            rw [HV] at HIV
            clear hW IV WI HV
            go_wp2_with (first
              | (refine wpList_load_rowG ?hw _ _ rfl _ rfl _ _ _ _ p Try.underlying24 rfl ?hi ?_; (case hw => (first | rfl | (simp [Region.wanted, yielded]; done))); (case hi => (first | kernel_rfl | (rw [ofn_size]; kernel_rfl))))
              | (refine wpList_load_rowG ?hw _ _ rfl _ rfl _ _ _ _ q Try.underlying26 rfl ?hi ?_; (case hw => (first | rfl | (simp [Region.wanted, yielded]; done))); (case hi => (first | kernel_rfl | (rw [stn_size]; kernel_rfl))))
              | (go_at_call 17; with_reducible refine (HIV.out _).mono ?_; rintro e w3 ⟨rfl, hb⟩; replace hB := hB.trans (hb.mono hB.size); replace p := p.below hb p.lt; replace q := q.below hb q.lt; replace hC := hC.below hb; clear hb))
            go_roundg (M - (k + 1))
            case rel =>
              exact ⟨k + 1, y, by omega, rfl, by rw [show h 0 + ((k + 1 : Nat) : Int) = h 0 + ((k : Int) + 1) by omega], by omega, by rw [show h 0 + ((k + 1 : Nat) : Int) - 1 = h 0 + k by omega]; exact hst', hC, p, q, hB⟩
            case measure => omega
        · have dS : decide (spb L x ≤ h 0 + k) = false := decide_eq_false (by omega)
          have hst' := hstep.2 (fun hh => hs hh.2)
          clear hstep
          go_upto_region 13 with (fail)
          clear ca cb dS hy1 hy1' hy3 hg1
          generalize hA : (some ⟨g1, 0, none⟩ : Option Addr) = A at *
          clear hA hst hx hs
          have HV := hst'.view hW.out (t := h 0 + k) (by omega) (by omega)
          have HIV := Lib.hid (IV.out (h 0 + k) (by omega) (by omega))
          have ht1 : IntKind.i64.wrap (h 0 + (k : Int) + 1) = h 0 + ((k + 1 : Nat) : Int) := by rw [IntKind.wrap_i64]; omega
          by_cases hX : x < L.length
          · have hx1 : decide (((x : Nat) : Int) < L.length) = true := decide_eq_true (by omega)
            have hx1' : decide (x < L.length) = true := decide_eq_true (by omega)
            have hx3 : ((x : Nat) : Int) < L.length := by omega
            by_cases ha : spa L (x) ≤ h 0 + k
            · have da : decide (spa L (x) ≤ h 0 + k) = true := decide_eq_true (by omega)
              by_cases hb : h 0 + k < spb L (x)
              · have db : decide (h 0 + k < spb L (x)) = true := decide_eq_true (by omega)
                rw [hx1', da, db] at HV
                replace HV : viewB f g (h 0 + k) = true := by rw [HV]; rfl
                rw [HV] at HIV
                clear hW IV WI HV
                go_upto_region 14 with (first
                  | (refine wpList_load_rowG ?hw _ _ rfl _ rfl _ _ _ _ p Try.underlying24 rfl ?hi ?_; (case hw => (first | rfl | (simp [Region.wanted, yielded]; done))); (case hi => (first | kernel_rfl | (rw [ofn_size]; kernel_rfl))))
                  | (refine wpList_load_rowG ?hw _ _ rfl _ rfl _ _ _ _ q Try.underlying26 rfl ?hi ?_; (case hw => (first | rfl | (simp [Region.wanted, yielded]; done))); (case hi => (first | kernel_rfl | (rw [stn_size]; kernel_rfl))))
                  | (go_at_call 17; with_reducible refine (HIV.out _).mono ?_; rintro e w3 ⟨rfl, hb⟩; replace hB := hB.trans (hb.mono hB.size); replace p := p.below hb p.lt; replace q := q.below hb q.lt; replace hC := hC.below hb; clear hb))
                obtain ⟨g1, hA, hg1, ca, cb⟩ := hC (x) hX
                subst hA
                go_wp2_with (fail)
                go_roundg (M - (k + 1))
                case rel =>
                  exact ⟨k + 1, x, by omega, rfl, by rw [show h 0 + ((k + 1 : Nat) : Int) = h 0 + ((k : Int) + 1) by omega], by omega, by rw [show h 0 + ((k + 1 : Nat) : Int) - 1 = h 0 + k by omega]; exact hst', hC, p, q, hB⟩
                case measure => omega
              · have db : decide (h 0 + k < spb L (x)) = false := decide_eq_false (by omega)
                rw [hx1', da, db] at HV
                replace HV : viewB f g (h 0 + k) = false := by rw [HV]; rfl
                rw [HV] at HIV
                clear hW IV WI HV
                go_upto_region 14 with (first
                  | (refine wpList_load_rowG ?hw _ _ rfl _ rfl _ _ _ _ p Try.underlying24 rfl ?hi ?_; (case hw => (first | rfl | (simp [Region.wanted, yielded]; done))); (case hi => (first | kernel_rfl | (rw [ofn_size]; kernel_rfl))))
                  | (refine wpList_load_rowG ?hw _ _ rfl _ rfl _ _ _ _ q Try.underlying26 rfl ?hi ?_; (case hw => (first | rfl | (simp [Region.wanted, yielded]; done))); (case hi => (first | kernel_rfl | (rw [stn_size]; kernel_rfl))))
                  | (go_at_call 17; with_reducible refine (HIV.out _).mono ?_; rintro e w3 ⟨rfl, hb⟩; replace hB := hB.trans (hb.mono hB.size); replace p := p.below hb p.lt; replace q := q.below hb q.lt; replace hC := hC.below hb; clear hb))
                obtain ⟨g1, hA, hg1, ca, cb⟩ := hC (x) hX
                subst hA
                go_wp2_with (fail)
                go_roundg (M - (k + 1))
                case rel =>
                  exact ⟨k + 1, x, by omega, rfl, by rw [show h 0 + ((k + 1 : Nat) : Int) = h 0 + ((k : Int) + 1) by omega], by omega, by rw [show h 0 + ((k + 1 : Nat) : Int) - 1 = h 0 + k by omega]; exact hst', hC, p, q, hB⟩
                case measure => omega
            · have da : decide (spa L (x) ≤ h 0 + k) = false := decide_eq_false (by omega)
              rw [hx1', da] at HV
              replace HV : viewB f g (h 0 + k) = false := by rw [HV]; rfl
              rw [HV] at HIV
              clear hW IV WI HV
              go_upto_region 14 with (first
                | (refine wpList_load_rowG ?hw _ _ rfl _ rfl _ _ _ _ p Try.underlying24 rfl ?hi ?_; (case hw => (first | rfl | (simp [Region.wanted, yielded]; done))); (case hi => (first | kernel_rfl | (rw [ofn_size]; kernel_rfl))))
                | (refine wpList_load_rowG ?hw _ _ rfl _ rfl _ _ _ _ q Try.underlying26 rfl ?hi ?_; (case hw => (first | rfl | (simp [Region.wanted, yielded]; done))); (case hi => (first | kernel_rfl | (rw [stn_size]; kernel_rfl))))
                | (go_at_call 17; with_reducible refine (HIV.out _).mono ?_; rintro e w3 ⟨rfl, hb⟩; replace hB := hB.trans (hb.mono hB.size); replace p := p.below hb p.lt; replace q := q.below hb q.lt; replace hC := hC.below hb; clear hb))
              obtain ⟨g1, hA, hg1, ca, cb⟩ := hC (x) hX
              subst hA
              go_wp2_with (fail)
              go_roundg (M - (k + 1))
              case rel =>
                exact ⟨k + 1, x, by omega, rfl, by rw [show h 0 + ((k + 1 : Nat) : Int) = h 0 + ((k : Int) + 1) by omega], by omega, by rw [show h 0 + ((k + 1 : Nat) : Int) - 1 = h 0 + k by omega]; exact hst', hC, p, q, hB⟩
              case measure => omega
          · have hx1 : decide (((x : Nat) : Int) < L.length) = false := decide_eq_false (by omega)
            have hx1' : decide (x < L.length) = false := decide_eq_false (by omega)
            rw [hx1'] at HV
            replace HV : viewB f g (h 0 + k) = false := by rw [HV]; rfl
            rw [HV] at HIV
            clear hW IV WI HV
            go_wp2_with (first
              | (refine wpList_load_rowG ?hw _ _ rfl _ rfl _ _ _ _ p Try.underlying24 rfl ?hi ?_; (case hw => (first | rfl | (simp [Region.wanted, yielded]; done))); (case hi => (first | kernel_rfl | (rw [ofn_size]; kernel_rfl))))
              | (refine wpList_load_rowG ?hw _ _ rfl _ rfl _ _ _ _ q Try.underlying26 rfl ?hi ?_; (case hw => (first | rfl | (simp [Region.wanted, yielded]; done))); (case hi => (first | kernel_rfl | (rw [stn_size]; kernel_rfl))))
              | (go_at_call 17; with_reducible refine (HIV.out _).mono ?_; rintro e w3 ⟨rfl, hb⟩; replace hB := hB.trans (hb.mono hB.size); replace p := p.below hb p.lt; replace q := q.below hb q.lt; replace hC := hC.below hb; clear hb))
            go_roundg (M - (k + 1))
            case rel =>
              exact ⟨k + 1, x, by omega, rfl, by rw [show h 0 + ((k + 1 : Nat) : Int) = h 0 + ((k : Int) + 1) by omega], by omega, by rw [show h 0 + ((k + 1 : Nat) : Int) - 1 = h 0 + k by omega]; exact hst', hC, p, q, hB⟩
            case measure => omega
      · have hy1 : decide (((x : Nat) : Int) < L.length) = false := decide_eq_false (by omega)
        have hy1' : decide (x < L.length) = false := decide_eq_false (by omega)
        have hst' := hstep.2 (fun hh => hx hh.1)
        clear hstep
        go_upto_region 13 with (fail)
        clear hy1 hy1' hst hx
        have HV := hst'.view hW.out (t := h 0 + k) (by omega) (by omega)
        have HIV := Lib.hid (IV.out (h 0 + k) (by omega) (by omega))
        have ht1 : IntKind.i64.wrap (h 0 + (k : Int) + 1) = h 0 + ((k + 1 : Nat) : Int) := by rw [IntKind.wrap_i64]; omega
        by_cases hX : x < L.length
        · have hx1 : decide (((x : Nat) : Int) < L.length) = true := decide_eq_true (by omega)
          have hx1' : decide (x < L.length) = true := decide_eq_true (by omega)
          have hx3 : ((x : Nat) : Int) < L.length := by omega
          by_cases ha : spa L (x) ≤ h 0 + k
          · have da : decide (spa L (x) ≤ h 0 + k) = true := decide_eq_true (by omega)
            by_cases hb : h 0 + k < spb L (x)
            · have db : decide (h 0 + k < spb L (x)) = true := decide_eq_true (by omega)
              rw [hx1', da, db] at HV
              replace HV : viewB f g (h 0 + k) = true := by rw [HV]; rfl
              rw [HV] at HIV
              clear hW IV WI HV
              go_upto_region 14 with (first
                | (refine wpList_load_rowG ?hw _ _ rfl _ rfl _ _ _ _ p Try.underlying24 rfl ?hi ?_; (case hw => (first | rfl | (simp [Region.wanted, yielded]; done))); (case hi => (first | kernel_rfl | (rw [ofn_size]; kernel_rfl))))
                | (refine wpList_load_rowG ?hw _ _ rfl _ rfl _ _ _ _ q Try.underlying26 rfl ?hi ?_; (case hw => (first | rfl | (simp [Region.wanted, yielded]; done))); (case hi => (first | kernel_rfl | (rw [stn_size]; kernel_rfl))))
                | (go_at_call 17; with_reducible refine (HIV.out _).mono ?_; rintro e w3 ⟨rfl, hb⟩; replace hB := hB.trans (hb.mono hB.size); replace p := p.below hb p.lt; replace q := q.below hb q.lt; replace hC := hC.below hb; clear hb))
              obtain ⟨g1, hA, hg1, ca, cb⟩ := hC (x) hX
              subst hA
              go_wp2_with (fail)
              go_roundg (M - (k + 1))
              case rel =>
                exact ⟨k + 1, x, by omega, rfl, by rw [show h 0 + ((k + 1 : Nat) : Int) = h 0 + ((k : Int) + 1) by omega], by omega, by rw [show h 0 + ((k + 1 : Nat) : Int) - 1 = h 0 + k by omega]; exact hst', hC, p, q, hB⟩
              case measure => omega
            · have db : decide (h 0 + k < spb L (x)) = false := decide_eq_false (by omega)
              rw [hx1', da, db] at HV
              replace HV : viewB f g (h 0 + k) = false := by rw [HV]; rfl
              rw [HV] at HIV
              clear hW IV WI HV
              go_upto_region 14 with (first
                | (refine wpList_load_rowG ?hw _ _ rfl _ rfl _ _ _ _ p Try.underlying24 rfl ?hi ?_; (case hw => (first | rfl | (simp [Region.wanted, yielded]; done))); (case hi => (first | kernel_rfl | (rw [ofn_size]; kernel_rfl))))
                | (refine wpList_load_rowG ?hw _ _ rfl _ rfl _ _ _ _ q Try.underlying26 rfl ?hi ?_; (case hw => (first | rfl | (simp [Region.wanted, yielded]; done))); (case hi => (first | kernel_rfl | (rw [stn_size]; kernel_rfl))))
                | (go_at_call 17; with_reducible refine (HIV.out _).mono ?_; rintro e w3 ⟨rfl, hb⟩; replace hB := hB.trans (hb.mono hB.size); replace p := p.below hb p.lt; replace q := q.below hb q.lt; replace hC := hC.below hb; clear hb))
              obtain ⟨g1, hA, hg1, ca, cb⟩ := hC (x) hX
              subst hA
              go_wp2_with (fail)
              go_roundg (M - (k + 1))
              case rel =>
                exact ⟨k + 1, x, by omega, rfl, by rw [show h 0 + ((k + 1 : Nat) : Int) = h 0 + ((k : Int) + 1) by omega], by omega, by rw [show h 0 + ((k + 1 : Nat) : Int) - 1 = h 0 + k by omega]; exact hst', hC, p, q, hB⟩
              case measure => omega
          · have da : decide (spa L (x) ≤ h 0 + k) = false := decide_eq_false (by omega)
            rw [hx1', da] at HV
            replace HV : viewB f g (h 0 + k) = false := by rw [HV]; rfl
            rw [HV] at HIV
            clear hW IV WI HV
            go_upto_region 14 with (first
              | (refine wpList_load_rowG ?hw _ _ rfl _ rfl _ _ _ _ p Try.underlying24 rfl ?hi ?_; (case hw => (first | rfl | (simp [Region.wanted, yielded]; done))); (case hi => (first | kernel_rfl | (rw [ofn_size]; kernel_rfl))))
              | (refine wpList_load_rowG ?hw _ _ rfl _ rfl _ _ _ _ q Try.underlying26 rfl ?hi ?_; (case hw => (first | rfl | (simp [Region.wanted, yielded]; done))); (case hi => (first | kernel_rfl | (rw [stn_size]; kernel_rfl))))
              | (go_at_call 17; with_reducible refine (HIV.out _).mono ?_; rintro e w3 ⟨rfl, hb⟩; replace hB := hB.trans (hb.mono hB.size); replace p := p.below hb p.lt; replace q := q.below hb q.lt; replace hC := hC.below hb; clear hb))
            obtain ⟨g1, hA, hg1, ca, cb⟩ := hC (x) hX
            subst hA
            go_wp2_with (fail)
            go_roundg (M - (k + 1))
            case rel =>
              exact ⟨k + 1, x, by omega, rfl, by rw [show h 0 + ((k + 1 : Nat) : Int) = h 0 + ((k : Int) + 1) by omega], by omega, by rw [show h 0 + ((k + 1 : Nat) : Int) - 1 = h 0 + k by omega]; exact hst', hC, p, q, hB⟩
            case measure => omega
        · have hx1 : decide (((x : Nat) : Int) < L.length) = false := decide_eq_false (by omega)
          have hx1' : decide (x < L.length) = false := decide_eq_false (by omega)
          rw [hx1'] at HV
          replace HV : viewB f g (h 0 + k) = false := by rw [HV]; rfl
          rw [HV] at HIV
          clear hW IV WI HV
          go_wp2_with (first
            | (refine wpList_load_rowG ?hw _ _ rfl _ rfl _ _ _ _ p Try.underlying24 rfl ?hi ?_; (case hw => (first | rfl | (simp [Region.wanted, yielded]; done))); (case hi => (first | kernel_rfl | (rw [ofn_size]; kernel_rfl))))
            | (refine wpList_load_rowG ?hw _ _ rfl _ rfl _ _ _ _ q Try.underlying26 rfl ?hi ?_; (case hw => (first | rfl | (simp [Region.wanted, yielded]; done))); (case hi => (first | kernel_rfl | (rw [stn_size]; kernel_rfl))))
            | (go_at_call 17; with_reducible refine (HIV.out _).mono ?_; rintro e w3 ⟨rfl, hb⟩; replace hB := hB.trans (hb.mono hB.size); replace p := p.below hb p.lt; replace q := q.below hb q.lt; replace hC := hC.below hb; clear hb))
          go_roundg (M - (k + 1))
          case rel =>
            exact ⟨k + 1, x, by omega, rfl, by rw [show h 0 + ((k + 1 : Nat) : Int) = h 0 + ((k : Int) + 1) by omega], by omega, by rw [show h 0 + ((k + 1 : Nat) : Int) - 1 = h 0 + k by omega]; exact hst', hC, p, q, hB⟩
          case measure => omega
    · have hdk : decide ((k : Int) < M) = false := decide_eq_false (by omega)
      have hdk' : decide (k < M) = false := decide_eq_false (by omega)
      have hdk2 : decide (h 0 + (k : Int) < h 0 + M) = false := decide_eq_false (by omega)
      clear hst hstep IV WI p q hxl
      go_wp2_with (fail)
      go_loopg [15] L.length (fun g_ iv wr => ∃ i : Nat, g_ + i = L.length ∧ iv = .int .i64 i ∧ Holds wr A L ∧ Below w.heap.size w wr)
      case atStart => exact ⟨0, by omega, rfl, hC, hB⟩
      case round =>
        clear hC hB
        obtain ⟨i, hi, rfl, hC, hB⟩ := hrel
        by_cases hil : i < L.length
        · have e1 : decide ((i : Int) < L.length) = true := decide_eq_true (by omega)
          have e1' : decide (i < L.length) = true := decide_eq_true (by omega)
          have hi3 : (i : Int) < L.length := by omega
          have hwi : IntKind.i64.wrap ((i : Int) + 1) = ((i + 1 : Nat) : Int) := by rw [IntKind.wrap_i64]; omega
          have h1 := hW.out.one i hil
          have t1 : decide (spb L i ≤ spa L i) = false := decide_eq_false (by omega)
          have t2 : decide (spa L i < h 0) = false := decide_eq_false (by omega)
          have t3 : decide (h 0 + (M : Int) < spb L i) = false := decide_eq_false (by omega)
          by_cases h0 : i = 0
          · have t4 : decide ((0 : Int) < i) = false := decide_eq_false (by omega)
            have t4' : decide (0 < i) = false := decide_eq_false (by omega)
            obtain ⟨g1, hA, hg1, ca, cb⟩ := hC i hil
            subst hA
            have hC0 := Lib.hid hC
            clear hW h1 hC h0
            go_upto_region 19 with (fail)
            go_quiet (fail)
            have hC : Holds (wr.drewN nq) _ _ := hC0.out
            replace hB := below_drewN hB nq
            generalize wr.drewN nq = wq at *
            clear hC0 ca cb
            go_wp2_with (fail)
            go_roundg (L.length - (i + 1))
            case rel =>
              exact ⟨i + 1, by omega, rfl, hC, hB⟩
            case measure => omega
          · have t4 : decide ((0 : Int) < i) = true := decide_eq_true (by omega)
            have t4' : decide (0 < i) = true := decide_eq_true (by omega)
            obtain ⟨z, hz1⟩ : ∃ z : Nat, z + 1 = i := ⟨i - 1, by omega⟩
            have h2 := hW.out.two z (by omega)
            rw [hz1] at h2
            have t5 : decide (spa L i ≤ spb L z) = false := decide_eq_false (by omega)
            have hwz : IntKind.i64.wrap ((i : Int) - 1) = (z : Int) := by rw [IntKind.wrap_i64]; omega
            have hz3 : (z : Int) < L.length := by omega
            have hz3' : z < L.length := by omega
            obtain ⟨g1, hA, hg1, ca, cb⟩ := hC i hil
            obtain ⟨g2, hA2, hg2, ca2, cb2⟩ := hC z (by omega)
            subst hA
            cases hA2
            have hC0 := Lib.hid hC
            clear hW h1 h2 hC h0 hz1 hg2
            go_upto_region 19 with (fail)
            go_quiet (fail)
            clear ca2 cb2
            have hC : Holds (wr.drewN nq) _ _ := hC0.out
            replace hB := below_drewN hB nq
            generalize wr.drewN nq = wq at *
            clear hC0 ca cb
            go_wp2_with (fail)
            go_roundg (L.length - (i + 1))
            case rel =>
              exact ⟨i + 1, by omega, rfl, hC, hB⟩
            case measure => omega
        · have e1 : decide ((i : Int) < L.length) = false := decide_eq_false (by omega)
          have e1' : decide (i < L.length) = false := decide_eq_false (by omega)
          go_wp2_with (first | (go_at_call 15; refine (AW.out _).mono ?_; rintro e wx ⟨rfl, hb⟩; replace hB := hB.trans (hb.mono hB.size); clear hb))
          go_ret
          exact ⟨rfl, hB⟩
theorem ospans_any (f g h : Nat → Int) (w : World) (hf : OO f) (hg : SS g) (h0 : I64 (h 0)) (h1 : I64 (h 1)) : Calls Try.prog 3 #[.agg (ofn f), .agg (stn g), .agg (spn h)] w fun e w' => e = .returned (.bool true) ∧ Below w.heap.size w w' := by
  by_cases d1 : h 0 < 0
  · exact ospan_out0 f g h w (decide_eq_true d1)
  have e1 : decide (h 0 < 0) = false := decide_eq_false d1
  by_cases d2 : 1099511626776 < h 0
  · exact ospan_out1 f g h w e1 (decide_eq_true d2)
  have e2 : decide (1099511626776 < h 0) = false := decide_eq_false d2
  by_cases d3 : h 1 < 0
  · exact ospan_out2 f g h w e1 e2 (decide_eq_true d3)
  have e3 : decide (h 1 < 0) = false := decide_eq_false d3
  obtain ⟨M, hM, hM1⟩ : ∃ M : Nat, (h 1).tmod 1001 = (M : Int) ∧ M ≤ 1000 := by
    refine ⟨((h 1).tmod 1001).toNat, ?_, ?_⟩
    · rw [Int.tmod_eq_emod_of_nonneg (by omega)]; omega
    · rw [Int.tmod_eq_emod_of_nonneg (by omega)]; omega
  have z2 : IntKind.i64.wrap (h 0 + (M : Int)) = h 0 + (M : Int) := by rw [IntKind.wrap_i64]; omega
  have hn : (h 0 + (M : Int) - h 0).toNat = M := by omega
  have WI := windows_any f g hf hg (h 0) (h 0 + M) h0 ⟨by omega, by omega⟩
  by_cases ho : winOk f g (h 0) (h 0 + M)
  · have x1 : winE f g (h 0) (h 0 + M) = 0 := if_pos ho
    have x2 : winL f g (h 0) (h 0 + M) = win (tick f g (h 0) M) := by rw [show winL f g (h 0) (h 0 + M) = win (tick f g (h 0) (h 0 + M - h 0).toNat) from if_pos ho, hn]
    rw [x1, x2] at WI
    refine ospan_in f g h w e1 e2 e3 M hM z2 _ WI (fun t ht1 ht2 w' => ?_) (win_inv f g (h 0) (by omega) M (by omega)) (by omega) (by omega)
    have hs : statE f g t = 0 := by
      have hs0 := ho.1
      have ht : okT t = true := (okT_iff t).2 (by omega)
      have h0' : okT (h 0) = true := (okT_iff (h 0)).2 (by omega)
      unfold statE at hs0 ⊢
      rw [h0'] at hs0
      rw [ht]; exact hs0
    have := inview_any f g t w' hf hg
    rw [hs] at this
    exact this
  · have x1 : winE f g (h 0) (h 0 + M) = 2 := if_neg ho
    have x2 : winL f g (h 0) (h 0 + M) = [] := if_neg ho
    rw [x1, x2] at WI
    exact ospan_err f g h w e1 e2 e3 M hM z2 [] rfl WI
end Go.Proofs.Ytnkjbdfhdenbcaa
