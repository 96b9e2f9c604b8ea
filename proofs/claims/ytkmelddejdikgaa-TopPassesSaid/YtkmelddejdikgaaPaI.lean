/-
  The windows of stations.
-/
import Derived.Test.YtkmelddejdikgaaPaN
import Derived.Test.YtkmelddejdikgaaWinE
import Derived.Maps.AppendAt
set_option linter.unusedSimpArgs false
set_option linter.unusedVariables false
namespace Go.Proofs.Ytkmelddejdikgaa
open Go.RowKit PM Dt Pa Go.Shelf
abbrev Wn3 := Int × Int × Int
/-- A window out of a span. -/
def wdc (x : Wn3) : List Value := [.int .i64 x.1, .int .i64 x.2.1, .int .i64 x.2.2, .int .i64 (x.2.1 - x.1), .int .i64 1]
def flatW (O : List Wn3) : List Value := O.flatMap wdc
theorem flatW_snoc (O : List Wn3) (x : Wn3) : flatW (O ++ [x]) = flatW O ++ wdc x := by simp [flatW]
def wL (O : List Wn3) (k : Nat) : Nat → Int
  | 0 => (O.getD k (0, 0, 0)).1
  | 1 => (O.getD k (0, 0, 0)).2.1
  | 2 => (O.getD k (0, 0, 0)).2.2
  | 3 => (O.getD k (0, 0, 0)).2.1 - (O.getD k (0, 0, 0)).1
  | _ => 1
theorem wnc_wL (O : List Wn3) (k : Nat) : (wnc (wL O k)).toList = wdc (O.getD k (0, 0, 0)) := rfl
theorem flatW_get : ∀ (O : List Wn3) (k : Nat), k < O.length → ∀ j u, (wdc (O.getD k (0, 0, 0)))[j]? = some u → (flatW O)[k * 5 + j]? = some u
  | [], k, h, _, _, _ => by simp at h
  | x :: O, 0, h, j, u, hj => by
    have : flatW (x :: O) = wdc x ++ flatW O := rfl
    rw [this, Nat.zero_mul, Nat.zero_add, List.getElem?_append_left]
    · simpa using hj
    · have := (List.getElem?_eq_some_iff.1 hj).1
      simpa using this
  | x :: O, k + 1, h, j, u, hj => by
    have e : flatW (x :: O) = wdc x ++ flatW O := rfl
    have := flatW_get O k (by simpa using h) j u (by simpa using hj)
    rw [e, List.getElem?_append_right (by show 5 ≤ _; omega)]
    have : (k + 1) * 5 + j - (wdc x).length = k * 5 + j := by show (k + 1) * 5 + j - 5 = _; omega
    rw [this]; assumption
theorem els_row {w : World} {base : Nat} {v : Value} {O : List Wn3} (h : w.ownsRow base 72 5 v O.length (flatW O)) : ∃ a c, v = .slice a O.length c ∧ Els w a O.length 5 (fun k => (wnc (wL O k)).toList) := by
  have hl := h.lt
  rcases h.2 with ⟨rfl, h0⟩ | ⟨g, cap, cur, rfl, hb, hg, h1, h2, h3, h4⟩
  · exact ⟨none, 0, by rw [h0], fun k hk => by omega⟩
  · refine ⟨some ⟨g, 0, none⟩, cap, rfl, fun k hk => ⟨g, 0, rfl, (hl g rfl).2, fun j u hj => ?_⟩⟩
    have h5 := flatW_get O k hk j u (by rw [← wnc_wL]; exact hj)
    have hb' : blk w g cur 72 := hg
    rw [← h4, List.getElem?_take] at h5
    split at h5
    · rw [Array.getElem?_toList] at h5
      have := hb'.cellIs h5
      simpa using this
    · cases h5
/-- The windows behind the spans of a station. -/
def wd (L : List (Int × Int)) (i : Nat) (O : List Wn3) : List Wn3 := O ++ (L.take (12 - O.length)).map fun p => (p.1, p.2, (i : Int))
def ws (LL : Nat → List (Int × Int)) : Nat → List Wn3
  | 0 => []
  | i + 1 => wd (LL i) i (ws LL i)
theorem ws_len (LL : Nat → List (Int × Int)) : ∀ i, (ws LL i).length ≤ 12
  | 0 => by simp [ws]
  | i + 1 => by have := ws_len LL i; simp [ws, wd]; omega
/-- The cells of a list of spans. -/
def Holds (w : World) (A : Option Addr) (L : List (Int × Int)) : Prop := ∀ i, i < L.length → ∃ g1, A = some ⟨g1, 0, none⟩ ∧ g1 < w.heap.size ∧ w.cell? ⟨g1, i * 2, none⟩ = some (.int .i64 (L.getD i (0, 0)).1) ∧ w.cell? ⟨g1, i * 2 + 1, none⟩ = some (.int .i64 (L.getD i (0, 0)).2)
theorem Holds.below {w w' : World} {A : Option Addr} {L : List (Int × Int)} (h : Holds w A L) (hb : Below w.heap.size w w') : Holds w' A L := fun i hi => by
  obtain ⟨g1, h1, h2, h3, h4⟩ := h i hi
  exact ⟨g1, h1, Nat.lt_of_lt_of_le h2 hb.size, (hb.cell (p := ⟨g1, i * 2, none⟩) h2).trans h3, (hb.cell (p := ⟨g1, i * 2 + 1, none⟩) h2).trans h4⟩
/-- The row is no block of the spans. -/
def Dis (v : Value) (A : Option Addr) : Prop := ∀ k, v.ownBlock = some k → ∀ g, A = some ⟨g, 0, none⟩ → k ≠ g
theorem Holds.grown {w w' : World} {A : Option Addr} {L : List (Int × Int)} {v : Value} (h : Holds w A L) (hg : w.grownBy w' v.ownBlock) (hd : Dis v A) : Holds w' A L := fun i hi => by
  obtain ⟨g1, h1, h2, h3, h4⟩ := h i hi
  have e := hg.block g1 h2 (fun e => hd g1 e.symm g1 h1 rfl)
  exact ⟨g1, h1, Nat.lt_of_lt_of_le h2 hg.size, (World.cell?_of_block e).trans h3, (World.cell?_of_block e).trans h4⟩
theorem flat_g (L : List (Int × Int)) : ∀ i, i < L.length → (flat L)[i * 2]? = some (.int .i64 (L.getD i (0, 0)).1) ∧ (flat L)[i * 2 + 1]? = some (.int .i64 (L.getD i (0, 0)).2) := by
  induction L with
  | nil => intro i hi; simp at hi
  | cons p L ih =>
    intro i hi
    have e : flat (p :: L) = Value.int .i64 p.1 :: Value.int .i64 p.2 :: flat L := rfl
    cases i with
    | zero => rw [e]; exact ⟨rfl, rfl⟩
    | succ i =>
      have := ih i (by simpa using hi)
      rw [e, show (i + 1) * 2 = i * 2 + 1 + 1 by omega, List.getElem?_cons_succ, List.getElem?_cons_succ, List.getElem?_cons_succ, List.getElem?_cons_succ]
      simpa using this
theorem spans_at {B : Nat} {w : World} {v : Value} {L : List (Int × Int)} (h : Spans B w v L) : ∃ A cap, v = .slice A L.length cap ∧ Holds w A L ∧ ∀ g, A = some ⟨g, 0, none⟩ → B ≤ g ∧ g < w.heap.size := by
  rcases h.2 with ⟨rfl, h0⟩ | ⟨g1, cap, cur, rfl, hb, hg, hr⟩
  · exact ⟨none, 0, by rw [h0], fun i hi => by omega, fun g hg => by cases hg⟩
  · have hb' : blk w g1 cur 53 := hg
    refine ⟨some ⟨g1, 0, none⟩, cap, rfl, fun i hi => ?_, fun g hgg => by cases hgg; exact ⟨hb, hb'.lt⟩⟩
    have h' : w.ownsRow B 53 2 (.slice (some ⟨g1, 0, none⟩) L.length cap) L.length (flat L) := h
    obtain ⟨x, y⟩ := flat_g L i hi
    exact ⟨g1, rfl, hb'.lt, (row_cell h' x).1, (row_cell h' y).1⟩
theorem len_snoc {α : Type} (A : List α) (x : α) : A.length + 1 = (A ++ [x]).length := by simp
theorem wnc5 (x : Wn3) : ∀ u ∈ wdc x, u.oneCell' = true := by simp [wdc, Value.oneCell']
theorem cells5 (w : World) (x : Wn3) : ∀ j u, (wdc x)[j]? = some u → (w.alloc (.cells (wdc x).toArray 72)).cell? ((⟨w.heap.size, 0, none⟩ : Addr).add j) = some u := fun j u hj => by
  have h := (blk.new w (wdc x).toArray 72).cellIs (i := j) (v := u) (by simpa using hj)
  have hadd : (⟨w.heap.size, 0, none⟩ : Addr).add j = ⟨w.heap.size, j, none⟩ := by unfold Addr.add; split <;> simp_all
  rw [hadd]; exact h
theorem Try.infoWin : (Try.prog.info? 72).map (fun i => (i.zero, i.size, i.bytes)) = some (some (.agg #[.int .i64 0, .int .i64 0, .int .i64 0, .int .i64 0, .int .i64 0]), 5, 40) := by kernel_rfl
/-- What windows42 hands back. -/
def WinP (EE : Nat → Int) (LL : Nat → List (Int × Int)) (sn : Nat) (w : World) (e : Ending) (w' : World) : Prop :=
  (e = .returned (.tuple #[.slice none 0 0, .bool false]) ∧ (∃ i, i < sn ∧ EE i ≠ 0) ∧ Below w.heap.size w w') ∨
  (∃ v, (∀ i, i < sn → EE i = 0) ∧ e = .returned (.tuple #[v, .bool true]) ∧ w'.ownsRow w.heap.size 72 5 v (ws LL sn).length (flatW (ws LL sn)) ∧ Below w.heap.size w w')
theorem ownsRow_drew {w : World} {base : Nat} {e : TypeId} {size n : Nat} {v : Value} {xs : List Value} (h : w.ownsRow base e size v n xs) : w.drew.ownsRow base e size v n xs := h
theorem Holds.drewH {w : World} {A : Option Addr} {L : List (Int × Int)} (h : Holds w A L) : Holds w.drew A L := h
set_option maxRecDepth 100000 in
set_option maxHeartbeats 16000000 in
theorem windows42_any (f : Nat → Int) (S : Nat → Nat → Int) (sa : Option Addr) (sn sc : Nat) (a b : Int) (EE : Nat → Int) (LL : Nat → List (Int × Int)) (w : World) (el : Els w sa sn 3 (fun k => (stn (S k)).toList)) (hn : sn ≤ 4) (hE : ∀ i, i < sn → EE i = 0 ∨ EE i = 2) (hL : ∀ i, i < sn → ∀ k, k < (LL i).length → I64 ((LL i).getD k (0, 0)).1 ∧ I64 ((LL i).getD k (0, 0)).2 ∧ 0 ≤ ((LL i).getD k (0, 0)).1 ∧ 0 ≤ ((LL i).getD k (0, 0)).2) (hLn : ∀ i, i < sn → (LL i).length ≤ 20000) (WI : ∀ i, i < sn → ∀ w, Calls Try.prog 69 #[.agg (ofn f), .agg (stn (S i)), .int .i64 a, .int .i64 b] w fun e w' => ∃ v, e = .returned (.tuple #[v, .int .i64 (EE i)]) ∧ Spans w.heap.size w' v (LL i) ∧ Below w.heap.size w w') : Calls Try.prog 21 #[.agg (ofn f), .slice sa sn sc, .int .i64 a, .int .i64 b] w fun e w' => WinP EE LL sn w e w' := by
  replace el := Lib.hid el
  replace hE := Lib.hid hE
  replace hL := Lib.hid hL
  replace hLn := Lib.hid hLn
  replace WI := Lib.hid WI
  go_enter Try.func21, Try.ntmps21
  go_upto_region 1 with (fail)
  have ob : blk (w.alloc (.cells (ofn f) 50)) w.heap.size (ofn f) 50 := blk.new _ _ _
  have hB : Below w.heap.size w (w.alloc (.cells (ofn f) 50)) := by go_grown
  generalize (w.alloc (.cells (ofn f) 50)) = w0 at *
  obtain ⟨i0, hi, hz0, hz1, hz2⟩ := info_parts Try.infoWin
  go_wp2_with (fail)
  go_loopg [10, 11] sn (fun g_ pv iv wr => ∃ (i : Nat) (v : Value), v = pv ∧ g_ + i = sn ∧ iv = .int .i64 i ∧ Hid (∀ j, j < i → EE j = 0) ∧ wr.ownsRow (w.heap.size + 1) 72 5 v (ws LL i).length (flatW (ws LL i)) ∧ blk wr w.heap.size (ofn f) 50 ∧ Below w.heap.size w wr)
  case atStart => exact ⟨0, _, rfl, by omega, rfl, fun j hj => absurd hj (by omega), World.ownsRow_nil _ _ _ _, ob, hB⟩
  case round =>
    clear ob hB
    obtain ⟨i, pvv, rfl, hig, rfl, hal, own, ob, hB⟩ := hrel
    by_cases hin : i < sn
    · have hdi : decide ((i : Int) < sn) = true := decide_eq_true (by omega)
      have hdi' : decide (i < sn) = true := decide_eq_true hin
      have hi3 : (i : Int) < sn := by omega
      have hi0 : (0 : Int) ≤ i := by omega
      have hwi : IntKind.i64.wrap ((i : Int) + 1) = ((i + 1 : Nat) : Int) := by rw [IntKind.wrap_i64]; omega
      obtain ⟨eb, eo, rfl, hEl, hR⟩ := el.out i hin
      replace hR : w.rangeAt eb (eo + i * 3) ((stn (S i)).toList) := hR
      have WJ := Lib.hid (WI.out i hin)
      have hLi := Lib.hid (hL.out i hin)
      have hLni := Lib.hid (hLn.out i hin)
      have hEi := hE.out i hin
      have hws : ws LL (i + 1) = wd (LL i) i (ws LL i) := rfl
      replace hws := Lib.hid hws
      have hwl := ws_len LL i
      generalize ws LL i = O at *
      generalize hLLi : LL i = L at *
      clear hLLi
      generalize hEEi : EE i = E at *
      replace hEEi := Lib.hid hEEi
      go_upto_region 5 with (fail)
      refine wp_region_E 13 99 (fun w' => blk w' w.heap.size (ofn f) 50 ∧ w'.rangeAt eb (eo + i * 3) ((stn (S i)).toList)) rfl (by kernel_rfl) ?_
      replace own := ownsRow_drew own
      replace ob := ob.drew
      replace hB : Below w.heap.size w wr.drew := hB.drew
      generalize wr.drew = w1 at *
      have q := range_below hR hB hEl
      apply wpE_take 0; (case ho' => exact rfl); (case hg => exact rfl); (case hB => kernel_rfl); (case hQ => exact fun _ _ _ h => h); (case hS => exact ⟨ob, q⟩); (case h => (rintro wx ⟨ob, q⟩; exact valR_row _ _ rfl _ rfl _ _ ob _ Try.underlying50 rfl (by first | kernel_rfl | (rw [ofn_size]; kernel_rfl)) rfl))
      simp only [Act.put, List.setIfInBounds_toArray, List.set_cons_zero, List.set_cons_succ]
      apply wpE_take 1; (case ho' => exact rfl); (case hg => exact rfl); (case hB => kernel_rfl); (case hQ => exact fun _ _ _ h => h); (case hS => exact ⟨ob, q⟩); (case h => (rintro wx ⟨ob, q⟩; go_simp; exact ⟨rfl, rfl⟩))
      simp only [Act.put, List.setIfInBounds_toArray, List.set_cons_zero, List.set_cons_succ]
      apply wpE_take 2; (case ho' => exact rfl); (case hg => exact rfl); (case hB => kernel_rfl); (case hQ => exact fun _ _ _ h => h); (case hS => exact ⟨ob, q⟩); (case h => (rintro wx ⟨ob, q⟩; go_simp; exact ⟨rfl, rfl⟩))
      simp only [Act.put, List.setIfInBounds_toArray, List.set_cons_zero, List.set_cons_succ]
      apply wpE_take 3; (case ho' => exact rfl); (case hg => exact rfl); (case hB => kernel_rfl); (case hQ => exact fun _ _ _ h => h); (case hS => exact ⟨ob, q⟩); (case h => (rintro wx ⟨ob, q⟩; go_simp; exact ⟨rfl, rfl⟩))
      simp only [Act.put, List.setIfInBounds_toArray, List.set_cons_zero, List.set_cons_succ]
      apply wpE_take 4; (case ho' => exact rfl); (case hg => exact rfl); (case hB => kernel_rfl); (case hQ => exact fun _ _ _ h => h); (case hS => exact ⟨ob, q⟩); (case h => (rintro wx ⟨ob, q⟩; exact valR_range _ _ rfl _ _ rfl _ (eo + i * 3) 0 q (by first | rfl | omega) (stn (S i)) (fun j _ => by rw [Nat.zero_add, Array.getElem?_toList]) _ Try.underlying63 rfl (by rw [stn_size]; kernel_rfl) rfl))
      simp only [Act.put, List.setIfInBounds_toArray, List.set_cons_zero, List.set_cons_succ]
      apply wpE_take 5; (case ho' => exact rfl); (case hg => exact rfl); (case hB => kernel_rfl); (case hQ => exact fun _ _ _ h => h); (case hS => exact ⟨ob, q⟩); (case h => (rintro wx ⟨ob, q⟩; go_simp; exact ⟨rfl, rfl⟩))
      simp only [Act.put, List.setIfInBounds_toArray, List.set_cons_zero, List.set_cons_succ]
      apply wpE_take 6; (case ho' => exact rfl); (case hg => exact rfl); (case hB => kernel_rfl); (case hQ => exact fun _ _ _ h => h); (case hS => exact ⟨ob, q⟩); (case h => (rintro wx ⟨ob, q⟩; go_simp; exact ⟨rfl, rfl⟩))
      simp only [Act.put, List.setIfInBounds_toArray, List.set_cons_zero, List.set_cons_succ]
      refine wpE_one 7 rfl (by kernel_rfl) ?_
      go_wp2_with (go_at_call 69; with_reducible refine (WJ.out _).mono ?_; rintro e w2 ⟨v2, rfl, hS, hb⟩)
      obtain ⟨A, cap, rfl, hC, hA⟩ := spans_at hS
      have hdis : Dis pvv A := fun k hk g hg e => by have h1 := (own.lt k hk).2; have h2 := (hA g hg).1; omega
      replace hdis := Lib.hid hdis
      replace hA := Lib.hid hA
      replace own : w2.ownsRow (w.heap.size + 1) 72 5 pvv (O).length (flatW (O)) := ownsRow_keep own (fun k hk => hb.block k (own.lt k hk).2)
      replace hB := hB.trans (hb.mono hB.size)
      replace ob := ob.below hb ob.lt
      replace q := range_below hR hB hEl
      replace hC := Lib.hid hC
      clear hb hS WJ
      refine Nh_ok ⟨fun _ => ⟨ob, q⟩, ?_⟩
      try simp only [Act.put, List.setIfInBounds_toArray, List.set_cons_zero, List.set_cons_succ]
      apply wpE_take 8; (case ho' => exact rfl); (case hg => exact rfl); (case hB => kernel_rfl); (case hQ => exact fun _ _ _ h => h); (case hS => exact ⟨ob, q⟩); (case h => (rintro wx ⟨ob, q⟩; go_simp; exact ⟨rfl, rfl⟩))
      simp only [Act.put, List.setIfInBounds_toArray, List.set_cons_zero, List.set_cons_succ]
      apply wpE_take 9; (case ho' => exact rfl); (case hg => exact rfl); (case hB => kernel_rfl); (case hQ => exact fun _ _ _ h => h); (case hS => exact ⟨ob, q⟩); (case h => (rintro wx ⟨ob, q⟩; go_simp; exact ⟨rfl, rfl⟩))
      simp only [Act.put, List.setIfInBounds_toArray, List.set_cons_zero, List.set_cons_succ]
      apply wpE_take 10; (case ho' => exact rfl); (case hg => exact rfl); (case hB => kernel_rfl); (case hQ => exact fun _ _ _ h => h); (case hS => exact ⟨ob, q⟩); (case h => (rintro wx ⟨ob, q⟩; go_simp; exact ⟨rfl, rfl⟩))
      simp only [Act.put, List.setIfInBounds_toArray, List.set_cons_zero, List.set_cons_succ]
      apply wpE_take 11; (case ho' => exact rfl); (case hg => exact rfl); (case hB => kernel_rfl); (case hQ => exact fun _ _ _ h => h); (case hS => exact ⟨ob, q⟩); (case h => (rintro wx ⟨ob, q⟩; go_simp; exact ⟨rfl, rfl⟩))
      simp only [Act.put, List.setIfInBounds_toArray, List.set_cons_zero, List.set_cons_succ]
      apply wpE_take 12; (case ho' => exact rfl); (case hg => exact rfl); (case hB => kernel_rfl); (case hQ => exact fun _ _ _ h => h); (case hS => exact ⟨ob, q⟩); (case h => (rintro wx ⟨ob, q⟩; go_simp; exact ⟨rfl, rfl⟩))
      simp only [Act.put, List.setIfInBounds_toArray, List.set_cons_zero, List.set_cons_succ]
      refine wpE_end (by kernel_rfl) ?_
      clear q hR hEl
      rcases hEi with rfl | rfl
      · have hal2 : Hid (∀ j, j < i + 1 → EE j = 0) := fun j hj => (by by_cases h : j = i; (· subst h; exact hEEi.out); exact hal.out j (by omega))
        go_wp2_with (fail)
        go_loopg [10, 14] 20000 (fun h_ pv iv wr => ∃ (k : Nat) (v : Value), v = pv ∧ h_ + k = 20000 ∧ k ≤ L.length ∧ O.length + k ≤ 12 ∧ iv = .int .i64 k ∧ Hid (Holds wr A L) ∧ Hid (Dis v A) ∧ wr.ownsRow (w.heap.size + 1) 72 5 v (O ++ (L.take k).map (fun p => (p.1, p.2, (i : Int)))).length (flatW (O ++ (L.take k).map (fun p => (p.1, p.2, (i : Int))))) ∧ blk wr w.heap.size (ofn f) 50 ∧ Below w.heap.size w wr)
        case atStart => exact ⟨0, _, rfl, rfl, Nat.zero_le _, by omega, rfl, hC, hdis, by simpa using own, ob, hB⟩
        case round =>
          clear ob hB own hC hdis
          obtain ⟨k, pv3, rfl, hkg, hkL, hk12, rfl, hC, hdis, own, ob, hB⟩ := hrel
          have hOl : (O ++ (L.take k).map (fun p => (p.1, p.2, (i : Int)))).length = O.length + k := by simp; omega
          have hwk : IntKind.i64.wrap ((k : Int) + 1) = ((k + 1 : Nat) : Int) := by rw [IntKind.wrap_i64]; omega
          obtain ⟨pa, pc, rfl, _⟩ := els_row own
          by_cases hc : k < L.length ∧ O.length + k < 12
          · obtain ⟨g1, rfl, hgl, cc0, cc1⟩ := hC.out k hc.1
            have hLk := hLi.out k hc.1
            have hsn : (O ++ (L.take k).map (fun p => (p.1, p.2, (i : Int)))) ++ [((L.getD k (0, 0)).1, (L.getD k (0, 0)).2, (i : Int))] = O ++ (L.take (k + 1)).map (fun p => (p.1, p.2, (i : Int))) := by
              have h1 : L.take (k + 1) = L.take k ++ [L[k]] := by rw [List.take_add_one, List.getElem?_eq_getElem hc.1]; rfl
              have h2 : L.getD k (0, 0) = L[k] := by simp [List.getD, List.getElem?_eq_getElem hc.1]
              rw [h1, h2, List.map_append, ← List.append_assoc]; rfl
            have hfl := flatW_snoc (O ++ (L.take k).map (fun p => (p.1, p.2, (i : Int)))) ((L.getD k (0, 0)).1, (L.getD k (0, 0)).2, (i : Int))
            have hll : (O ++ (L.take k).map (fun p => (p.1, p.2, (i : Int)))).length + 1 = (O ++ (L.take (k + 1)).map (fun p => (p.1, p.2, (i : Int)))).length := by rw [← hsn]; exact len_snoc _ _
            rw [hsn] at hfl
            replace hfl := Lib.hid hfl
            replace hll := Lib.hid hll
            replace hOl := Lib.hid hOl
            clear hsn
            have hdk : decide ((k : Int) < L.length) = true := decide_eq_true (by omega)
            have hdk' : decide (k < L.length) = true := decide_eq_true hc.1
            have hk3 : (k : Int) < L.length := by omega
            have hk0 : (0 : Int) ≤ k := by omega
            have hdq : decide (((O ++ (L.take k).map (fun p => (p.1, p.2, (i : Int)))).length : Int) < 12) = true := decide_eq_true (by rw [hOl.out]; omega)
            generalize hOk : O ++ (L.take k).map (fun p => (p.1, p.2, (i : Int))) = Ok at *
            replace hOk := Lib.hid hOk
            generalize (L.getD k (0, 0)).1 = xa at *
            generalize (L.getD k (0, 0)).2 = xb at *
            have hws2 : IntKind.i64.wrap (xb - xa) = xb - xa := by rw [IntKind.wrap_i64]; obtain ⟨h1, h2, h3, h4⟩ := hLk; unfold I64 at h1 h2; omega
            clear hLk
            go_upto_region 11 with (fail)
            refine wp_region_E 27 99 (fun w' => w'.cell? ⟨g1, k * 2, none⟩ = some (.int .i64 xa) ∧ w'.cell? ⟨g1, k * 2 + 1, none⟩ = some (.int .i64 xb)) rfl (by kernel_rfl) ?_
            replace own := ownsRow_drew own
            replace ob := ob.drew
            replace hC := Lib.hid (hC.out.drewH)
            replace hB : Below w.heap.size w wr.drew := hB.drew
            replace cc0 : wr.drew.cell? ⟨g1, k * 2, none⟩ = some (.int .i64 xa) := cc0
            replace cc1 : wr.drew.cell? ⟨g1, k * 2 + 1, none⟩ = some (.int .i64 xb) := cc1
            replace hgl : g1 < wr.drew.heap.size := hgl
            generalize wr.drew = w3 at *
            apply wpE_take 0; (case ho' => exact rfl); (case hg => exact rfl); (case hB => kernel_rfl); (case hQ => exact fun _ _ _ h => h); (case hS => exact ⟨cc0, cc1⟩); (case h => (rintro wx ⟨cc0, cc1⟩; go_simp; exact ⟨rfl, rfl⟩))
            simp only [Act.put, List.setIfInBounds_toArray, List.set_cons_zero, List.set_cons_succ]
            apply wpE_take 1; (case ho' => exact rfl); (case hg => exact rfl); (case hB => kernel_rfl); (case hQ => exact fun _ _ _ h => h); (case hS => exact ⟨cc0, cc1⟩); (case h => (rintro wx ⟨cc0, cc1⟩; go_simp; exact ⟨rfl, rfl⟩))
            simp only [Act.put, List.setIfInBounds_toArray, List.set_cons_zero, List.set_cons_succ]
            apply wpE_take 2; (case ho' => exact rfl); (case hg => exact rfl); (case hB => kernel_rfl); (case hQ => exact fun _ _ _ h => h); (case hS => exact ⟨cc0, cc1⟩); (case h => (rintro wx ⟨cc0, cc1⟩; go_simp; exact ⟨rfl, rfl⟩))
            simp only [Act.put, List.setIfInBounds_toArray, List.set_cons_zero, List.set_cons_succ]
            apply wpE_take 3; (case ho' => exact rfl); (case hg => exact rfl); (case hB => kernel_rfl); (case hQ => exact fun _ _ _ h => h); (case hS => exact ⟨cc0, cc1⟩); (case h => (rintro wx ⟨cc0, cc1⟩; go_simp; exact ⟨rfl, rfl⟩))
            simp only [Act.put, List.setIfInBounds_toArray, List.set_cons_zero, List.set_cons_succ]
            apply wpE_take 4; (case ho' => exact rfl); (case hg => exact rfl); (case hB => kernel_rfl); (case hQ => exact fun _ _ _ h => h); (case hS => exact ⟨cc0, cc1⟩); (case h => (rintro wx ⟨cc0, cc1⟩; go_simp; exact ⟨rfl, rfl⟩))
            simp only [Act.put, List.setIfInBounds_toArray, List.set_cons_zero, List.set_cons_succ]
            apply wpE_take 5; (case ho' => exact rfl); (case hg => exact rfl); (case hB => kernel_rfl); (case hQ => exact fun _ _ _ h => h); (case hS => exact ⟨cc0, cc1⟩); (case h => (rintro wx ⟨cc0, cc1⟩; go_simp; exact ⟨rfl, rfl⟩))
            simp only [Act.put, List.setIfInBounds_toArray, List.set_cons_zero, List.set_cons_succ]
            apply wpE_take 6; (case ho' => exact rfl); (case hg => exact rfl); (case hB => kernel_rfl); (case hQ => exact fun _ _ _ h => h); (case hS => exact ⟨cc0, cc1⟩); (case h => (rintro wx ⟨cc0, cc1⟩; go_simp; exact ⟨rfl, rfl⟩))
            simp only [Act.put, List.setIfInBounds_toArray, List.set_cons_zero, List.set_cons_succ]
            apply wpE_take 7; (case ho' => exact rfl); (case hg => exact rfl); (case hB => kernel_rfl); (case hQ => exact fun _ _ _ h => h); (case hS => exact ⟨cc0, cc1⟩); (case h => (rintro wx ⟨cc0, cc1⟩; go_simp; exact ⟨rfl, rfl⟩))
            simp only [Act.put, List.setIfInBounds_toArray, List.set_cons_zero, List.set_cons_succ]
            apply wpE_take 8; (case ho' => exact rfl); (case hg => exact rfl); (case hB => kernel_rfl); (case hQ => exact fun _ _ _ h => h); (case hS => exact ⟨cc0, cc1⟩); (case h => (rintro wx ⟨cc0, cc1⟩; go_simp; exact ⟨rfl, rfl⟩))
            simp only [Act.put, List.setIfInBounds_toArray, List.set_cons_zero, List.set_cons_succ]
            apply wpE_take 9; (case ho' => exact rfl); (case hg => exact rfl); (case hB => kernel_rfl); (case hQ => exact fun _ _ _ h => h); (case hS => exact ⟨cc0, cc1⟩); (case h => (rintro wx ⟨cc0, cc1⟩; go_simp; exact ⟨rfl, rfl⟩))
            simp only [Act.put, List.setIfInBounds_toArray, List.set_cons_zero, List.set_cons_succ]
            apply wpE_take 10; (case ho' => exact rfl); (case hg => exact rfl); (case hB => kernel_rfl); (case hQ => exact fun _ _ _ h => h); (case hS => exact ⟨cc0, cc1⟩); (case h => (rintro wx ⟨cc0, cc1⟩; go_simp; exact ⟨rfl, rfl⟩))
            simp only [Act.put, List.setIfInBounds_toArray, List.set_cons_zero, List.set_cons_succ]
            apply wpE_take 11; (case ho' => exact rfl); (case hg => exact rfl); (case hB => kernel_rfl); (case hQ => exact fun _ _ _ h => h); (case hS => exact ⟨cc0, cc1⟩); (case h => (rintro wx ⟨cc0, cc1⟩; go_simp; exact ⟨rfl, rfl⟩))
            simp only [Act.put, List.setIfInBounds_toArray, List.set_cons_zero, List.set_cons_succ]
            apply wpE_take 12; (case ho' => exact rfl); (case hg => exact rfl); (case hB => kernel_rfl); (case hQ => exact fun _ _ _ h => h); (case hS => exact ⟨cc0, cc1⟩); (case h => (rintro wx ⟨cc0, cc1⟩; go_simp; exact ⟨rfl, rfl⟩))
            simp only [Act.put, List.setIfInBounds_toArray, List.set_cons_zero, List.set_cons_succ]
            apply wpE_take 13; (case ho' => exact rfl); (case hg => exact rfl); (case hB => kernel_rfl); (case hQ => exact fun _ _ _ h => h); (case hS => exact ⟨cc0, cc1⟩); (case h => (rintro wx ⟨cc0, cc1⟩; go_simp; exact ⟨rfl, rfl⟩))
            simp only [Act.put, List.setIfInBounds_toArray, List.set_cons_zero, List.set_cons_succ]
            apply wpE_take 14; (case ho' => exact rfl); (case hg => exact rfl); (case hB => kernel_rfl); (case hQ => exact fun _ _ _ h => h); (case hS => exact ⟨cc0, cc1⟩); (case h => (rintro wx ⟨cc0, cc1⟩; go_simp; exact ⟨rfl, rfl⟩))
            simp only [Act.put, List.setIfInBounds_toArray, List.set_cons_zero, List.set_cons_succ]
            apply wpE_take 15; (case ho' => exact rfl); (case hg => exact rfl); (case hB => kernel_rfl); (case hQ => exact fun _ _ _ h => h); (case hS => exact ⟨cc0, cc1⟩); (case h => (rintro wx ⟨cc0, cc1⟩; go_simp; exact ⟨rfl, rfl⟩))
            simp only [Act.put, List.setIfInBounds_toArray, List.set_cons_zero, List.set_cons_succ]
            apply wpE_take 16; (case ho' => exact rfl); (case hg => exact rfl); (case hB => kernel_rfl); (case hQ => exact fun _ _ _ h => h); (case hS => exact ⟨cc0, cc1⟩); (case h => (rintro wx ⟨cc0, cc1⟩; go_simp; exact ⟨rfl, rfl⟩))
            simp only [Act.put, List.setIfInBounds_toArray, List.set_cons_zero, List.set_cons_succ]
            apply wpE_take 17; (case ho' => exact rfl); (case hg => exact rfl); (case hB => kernel_rfl); (case hQ => exact fun _ _ _ h => h); (case hS => exact ⟨cc0, cc1⟩); (case h => (rintro wx ⟨cc0, cc1⟩; go_simp; exact ⟨rfl, rfl⟩))
            simp only [Act.put, List.setIfInBounds_toArray, List.set_cons_zero, List.set_cons_succ]
            apply wpE_take 18; (case ho' => exact rfl); (case hg => exact rfl); (case hB => kernel_rfl); (case hQ => exact fun _ _ _ h => h); (case hS => exact ⟨cc0, cc1⟩); (case h => (rintro wx ⟨cc0, cc1⟩; go_simp; exact ⟨rfl, rfl⟩))
            simp only [Act.put, List.setIfInBounds_toArray, List.set_cons_zero, List.set_cons_succ]
            apply wpE_take 19; (case ho' => exact rfl); (case hg => exact rfl); (case hB => kernel_rfl); (case hQ => exact fun _ _ _ h => h); (case hS => exact ⟨cc0, cc1⟩); (case h => (rintro wx ⟨cc0, cc1⟩; go_simp; exact ⟨rfl, rfl⟩))
            simp only [Act.put, List.setIfInBounds_toArray, List.set_cons_zero, List.set_cons_succ]
            apply wpE_take 20; (case ho' => exact rfl); (case hg => exact rfl); (case hB => kernel_rfl); (case hQ => exact fun _ _ _ h => h); (case hS => exact ⟨cc0, cc1⟩); (case h => (rintro wx ⟨cc0, cc1⟩; go_simp; exact ⟨rfl, rfl⟩))
            simp only [Act.put, List.setIfInBounds_toArray, List.set_cons_zero, List.set_cons_succ]
            apply wpE_take 21; (case ho' => exact rfl); (case hg => exact rfl); (case hB => kernel_rfl); (case hQ => exact fun _ _ _ h => h); (case hS => exact ⟨cc0, cc1⟩); (case h => (rintro wx ⟨cc0, cc1⟩; go_simp; exact ⟨rfl, rfl⟩))
            simp only [Act.put, List.setIfInBounds_toArray, List.set_cons_zero, List.set_cons_succ]
            apply wpE_take 22; (case ho' => exact rfl); (case hg => exact rfl); (case hB => kernel_rfl); (case hQ => exact fun _ _ _ h => h); (case hS => exact ⟨cc0, cc1⟩); (case h => (rintro wx ⟨cc0, cc1⟩; go_simp; exact ⟨rfl, rfl⟩))
            simp only [Act.put, List.setIfInBounds_toArray, List.set_cons_zero, List.set_cons_succ]
            apply wpE_take 23; (case ho' => exact rfl); (case hg => exact rfl); (case hB => kernel_rfl); (case hQ => exact fun _ _ _ h => h); (case hS => exact ⟨cc0, cc1⟩); (case h => (rintro wx ⟨cc0, cc1⟩; go_simp; exact ⟨rfl, rfl⟩))
            simp only [Act.put, List.setIfInBounds_toArray, List.set_cons_zero, List.set_cons_succ]
            have hcn := cells5 w3 (xa, xb, (i : Int))
            have hlt := own.lt
            refine wpE_one 24 rfl (by kernel_rfl) ?_
            go_wp2_with (fail)
            replace own : (w3.alloc (.cells #[.int .i64 xa, .int .i64 xb, .int .i64 (i : Int), .int .i64 (xb - xa), .int .i64 1] 72)).ownsRow (w.heap.size + 1) 72 5 (.slice pa Ok.length pc) Ok.length (flatW Ok) := ownsRow_keep own (fun k hk => by have h := ((Below.refl w3.heap.size w3).alloc (Nat.le_refl _) (.cells #[.int .i64 xa, .int .i64 xb, .int .i64 (i : Int), .int .i64 (xb - xa), .int .i64 1] 72)).block k (own.lt k hk).2; exact h)
            have hal3 : Below w3.heap.size w3 (w3.alloc (.cells #[.int .i64 xa, .int .i64 xb, .int .i64 (i : Int), .int .i64 (xb - xa), .int .i64 1] 72)) := (Below.refl _ _).alloc (Nat.le_refl _) _
            replace hB := hB.alloc hB.size (.cells #[.int .i64 xa, .int .i64 xb, .int .i64 (i : Int), .int .i64 (xb - xa), .int .i64 1] 72)
            replace ob := ob.alloc (.cells #[.int .i64 xa, .int .i64 xb, .int .i64 (i : Int), .int .i64 (xb - xa), .int .i64 1] 72)
            replace hC := Lib.hid (hC.out.below hal3)
            replace cc0 := (hal3.cell (p := ⟨g1, k * 2, none⟩) hgl).trans cc0
            replace cc1 := (hal3.cell (p := ⟨g1, k * 2 + 1, none⟩) hgl).trans cc1
            replace hgl : g1 < (w3.alloc (.cells #[.int .i64 xa, .int .i64 xb, .int .i64 (i : Int), .int .i64 (xb - xa), .int .i64 1] 72)).heap.size := Nat.lt_of_lt_of_le hgl hal3.size
            replace hlt := own.lt
            have hbs : w.heap.size + 1 ≤ (w3.alloc (.cells #[.int .i64 xa, .int .i64 xb, .int .i64 (i : Int), .int .i64 (xb - xa), .int .i64 1] 72)).heap.size := ob.lt
            clear hal3
            generalize w3.heap.size = nb at *
            replace hcn : ∀ j u, (wdc (xa, xb, (i : Int)))[j]? = some u → (w3.alloc (.cells #[.int .i64 xa, .int .i64 xb, .int .i64 (i : Int), .int .i64 (xb - xa), .int .i64 1] 72)).cell? ((⟨nb, 0, none⟩ : Addr).add j) = some u := hcn
            generalize (w3.alloc (.cells #[.int .i64 xa, .int .i64 xb, .int .i64 (i : Int), .int .i64 (xb - xa), .int .i64 1] 72)) = w4 at *
            refine Nh_ok ⟨fun _ => ⟨cc0, cc1⟩, ?_⟩
            try simp only [Act.put, List.setIfInBounds_toArray, List.set_cons_zero, List.set_cons_succ]
            have h63 : Ok.length + 1 ≤ maxLen := by rw [hOl.out]; unfold maxLen; omega
            have h56 : (Ok.length + 1) * 40 ≤ 140737488355328 := by rw [hOl.out]; omega
            refine wpE_one 25 rfl (by kernel_rfl) ?_
            go_wp2_with (at_builtin; refine wpList_append_own_at _ rfl _ _ 59 rfl (w.heap.size + 1) 72 i0 (.agg #[.int .i64 0, .int .i64 0, .int .i64 0, .int .i64 0, .int .i64 0]) 5 40 Try.underlying59 hi hz0 hz1 hz2 rfl (by decide) _ _ _ rfl own ⟨nb, 0, none⟩ 1 1 (wdc (xa, xb, (i : Int))) rfl rfl hcn (wnc5 _) h63 h56 hbs ?_; intro v5 w5 own5 hgrow hnil hloc)
            have hdis5 : Dis v5 (some ⟨g1, 0, none⟩) := fun z hz g hg => by
              rcases hloc with h | h
              · exact hdis.out z (h ▸ hz) g hg
              · rw [h] at hz; cases hz; cases hg; omega
            replace hdis := hdis.out
            have hSv : Save (w.heap.size + 1) w4.heap.size w4 w5 := Save.grown hgrow (fun z hz => ⟨(hlt z hz).1, Nat.le_of_lt (hlt z hz).2⟩)
            replace hC := Lib.hid (hC.out.grown hgrow hdis)
            have eg := hgrow.block g1 hgl (fun e => hdis g1 e.symm g1 rfl rfl)
            replace cc0 := (World.cell?_of_block (a := ⟨g1, k * 2, none⟩) eg).trans cc0
            replace cc1 := (World.cell?_of_block (a := ⟨g1, k * 2 + 1, none⟩) eg).trans cc1
            replace hB := hB.trans (hSv.below hB.size (by omega))
            replace ob := ob.save hSv (by omega)
            rw [← hfl.out, hll.out] at own5
            clear hdis own hgrow hnil hloc eg hSv hgl
            refine Nh_ok ⟨fun _ => ⟨cc0, cc1⟩, ?_⟩
            try simp only [Act.put, List.setIfInBounds_toArray, List.set_cons_zero, List.set_cons_succ]
            refine wpE_one 26 rfl (by kernel_rfl) ?_
            go_wp2_with (fail)
            refine Nh_ok ⟨fun _ => ⟨cc0, cc1⟩, ?_⟩
            try simp only [Act.put, List.setIfInBounds_toArray, List.set_cons_zero, List.set_cons_succ]
            refine wpE_end (by kernel_rfl) ?_
            go_wp2_with (fail)
            go_roundg (20000 - (k + 1))
            case rel => exact ⟨k + 1, _, rfl, by have := hLni.out; omega, by omega, by omega, rfl, hC, hdis5, own5, ob, hB⟩
            case measure => have := hLni.out; omega
          · have hfin : ws LL (i + 1) = O ++ (L.take k).map (fun p => (p.1, p.2, (i : Int))) := by
              rw [hws.out]
              unfold wd
              rcases Nat.lt_or_ge k L.length with h | h
              · have : 12 - O.length = k := by omega
                rw [this]
              · have hk : k = L.length := by omega
                rw [hk, List.take_of_length_le (by omega), List.take_of_length_le (Nat.le_refl _)]
            have hqq : decide ((k : Int) < L.length) = false ∨ decide ((k : Int) < L.length) = true ∧ decide (((O ++ (L.take k).map (fun p => (p.1, p.2, (i : Int)))).length : Int) < 12) = false := by
              rcases Nat.lt_or_ge k L.length with h | h
              · exact .inr ⟨decide_eq_true (by omega), decide_eq_false (by rw [hOl]; omega)⟩
              · exact .inl (decide_eq_false (by omega))
            have hln : (ws LL (i + 1)).length = (O ++ (L.take k).map (fun p => (p.1, p.2, (i : Int)))).length := congrArg List.length hfin
            generalize (O ++ (L.take k).map (fun p => (p.1, p.2, (i : Int)))).length = len at *
            replace hln := Lib.hid hln
            replace hfin := Lib.hid hfin
            replace hOl := Lib.hid hOl
            clear hc
            rcases hqq with h1 | ⟨h1, h2⟩
            · have h1' : decide (k < L.length) = false := decide_eq_false (by have := of_decide_eq_false h1; omega)
              go_wp2_with (fail)
              go_roundg (sn - (i + 1))
              case rel => exact ⟨i + 1, _, rfl, by omega, rfl, hal2, (by rw [hln.out, hfin.out]; exact own), ob, hB⟩
              case measure => omega
            · have h1' : decide (k < L.length) = true := decide_eq_true (by have := of_decide_eq_true h1; omega)
              have h2' : decide (len < 12) = false := decide_eq_false (by have := of_decide_eq_false h2; omega)
              go_wp2_with (fail)
              go_roundg (sn - (i + 1))
              case rel => exact ⟨i + 1, _, rfl, by omega, rfl, hal2, (by rw [hln.out, hfin.out]; exact own), ob, hB⟩
              case measure => omega
      · go_wp2_with (fail)
        refine bodyPost_ret (results_tmp2 rfl _ _ _) rfl ?_
        exact .inl ⟨rfl, ⟨i, hin, by rw [hEEi.out]; decide⟩, hB⟩
    · obtain rfl : sn = i := by omega
      have hdi : decide ((sn : Int) < sn) = false := decide_eq_false (by omega)
      go_wp2_with (fail)
      refine bodyPost_ret (results_tmp2 rfl _ _ _) rfl ?_
      exact .inr ⟨_, hal.out, rfl, ownsRow_low own (by omega), hB⟩
end Go.Proofs.Ytkmelddejdikgaa
