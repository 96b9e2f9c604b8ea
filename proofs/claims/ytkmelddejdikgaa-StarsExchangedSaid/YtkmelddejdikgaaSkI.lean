/-
  The functions that fill the matrices of a solution.
-/
import Derived.Test.YtkmelddejdikgaaSkH
import Derived.Test.YtkmelddejdikgaaUnitR
set_option linter.unusedSimpArgs false
set_option linter.unusedVariables false
namespace Go.Proofs.Ytkmelddejdikgaa
open Go.RowKit PM Dt
theorem wrap_W (a : Int) : IntKind.i64.wrap a = wrap64 a := by rw [IntKind.wrap_i64]; unfold wrap64; omega
theorem ratioV_J (a b c : Int) : I64 (ratioV a b c) := by
  unfold ratioV
  split
  · exact ⟨by omega, by omega⟩
  · unfold fitV inI
    split
    · rename_i h; simp only [Bool.and_eq_true, decide_eq_true_eq] at h; exact h
    · exact ⟨by omega, by omega⟩
theorem dotV_J (xs ys : List Int) : I64 (dotV xs ys) := by
  unfold dotV
  split
  · exact ⟨by omega, by omega⟩
  · unfold fitV inI
    split
    · rename_i h; simp only [Bool.and_eq_true, decide_eq_true_eq] at h; exact h
    · exact ⟨by omega, by omega⟩
theorem wrap64_J (a : Int) : I64 (wrap64 a) := by unfold wrap64 I64; omega
/-- The first matrix of a solution. -/
def hlfF (m : Nat → Int) : Nat → Int := fun j => ratioV (if j / 4 = j % 4 then wrap64 (m j + 1073741824) else m j) 1 2
def prdF (s : Nat → Int) : Nat → Int := fun j => dotV [s (j / 4 * 4), s (j / 4 * 4 + 1), s (j / 4 * 4 + 2), s (j / 4 * 4 + 3)] [s (j % 4), s (4 + j % 4), s (8 + j % 4), s (12 + j % 4)]
def trcF (s : Nat → Int) : Int := wrap64 (wrap64 (wrap64 (s 0 + s 5) + s 10) + s 15)
def divF (p : Nat → Int) (t : Int) : Nat → Int := fun j => ratioV (p j) 1073741824 t
def sqrF (s : Nat → Int) : Nat → Int := divF (prdF s) (trcF (prdF s))
def itrF (s : Nat → Int) : Nat → (Nat → Int)
  | 0 => s
  | k + 1 => sqrF (itrF s k)
/-- The greatest entry on the diagonal, of the first k. -/
def bstF (s : Nat → Int) : Nat → Nat
  | 0 => 0
  | k + 1 => if s (bstF s k * 5) < s (k * 5) then k else bstF s k
theorem bst_lt (s : Nat → Int) (k : Nat) (h : k ≤ 4) : bstF s k < 4 := by
  induction k with
  | zero => exact Nat.zero_lt_succ _
  | succ k ih =>
    unfold bstF
    split
    · omega
    · exact ih (by omega)
def colF (s : Nat → Int) (b : Nat) : Nat → Int := fun i => match i with
  | 0 => s b
  | 1 => s (4 + b)
  | 2 => s (8 + b)
  | _ => s (12 + b)
def negW (q : Nat → Int) : Nat → Int := fun i => wrap64 (-q i)
def posF (q : Nat → Int) : Nat → Int := if q 0 < 0 then negW q else q
/-- The attitude out of the last matrix. -/
def solF (s : Nat → Int) : Nat → Int := posF (qunF (colF s (bstF s 4)))
def slvOk (S : Nat → Sgt) (n : Nat) : Bool := valS S n && decide (536870912 ≤ sprI S n n)
def slvV (S : Nat → Sgt) (n : Nat) : Nat → Int := if slvOk S n then solF (itrF (hlfF (matF S n)) 12) else fun _ => 0
def slvE (S : Nat → Sgt) (n : Nat) : Int := if valS S n then (if 536870912 ≤ sprI S n n then 0 else 4) else 2
theorem hlf_at (m : Nat → Int) (i k : Nat) (hk : k < 4) : hlfF m (i * 4 + k) = ratioV (if i = k then wrap64 (m (i * 4 + k) + 1073741824) else m (i * 4 + k)) 1 2 := by
  unfold hlfF
  rw [show (i * 4 + k) / 4 = i by omega, show (i * 4 + k) % 4 = k by omega]
theorem prd_at (s : Nat → Int) (i k : Nat) (hk : k < 4) : prdF s (i * 4 + k) = dotV [s (i * 4), s (i * 4 + 1), s (i * 4 + 2), s (i * 4 + 3)] [s k, s (4 + k), s (8 + k), s (12 + k)] := by
  unfold prdF
  rw [show (i * 4 + k) / 4 = i by omega, show (i * 4 + k) % 4 = k by omega]
theorem intsK4 {w : World} {b : Nat} {x0 x1 x2 x3 : Int} {t : TypeId} (h : blk w b #[.int .i64 x0, .int .i64 x1, .int .i64 x2, .int .i64 x3] t) : Ints w (.slice (some ⟨b, 0, none⟩) 4 4) [x0, x1, x2, x3] :=
  Or.inr ⟨by simp, b, 0, 4, rfl, h.lt, fun k hk => by
    rcases k with _ | _ | _ | _ | k
    · exact h.cellIs rfl
    · exact h.cellIs rfl
    · exact h.cellIs rfl
    · exact h.cellIs rfl
    · simp at hk; omega⟩
theorem intsT4 {w : World} {b : Nat} {s : Nat → Int} {t : TypeId} (h : blk w b (tbn s) t) {i : Nat} (hi : i < 4) : Ints w (.slice (some ⟨b, i * 4, none⟩) 4 4) [s (i * 4), s (i * 4 + 1), s (i * 4 + 2), s (i * 4 + 3)] :=
  Or.inr ⟨by simp, b, i * 4, 4, rfl, h.lt, fun k hk => by
    rcases k with _ | _ | _ | _ | k
    · exact h.cellIs (tbn_get s (by omega))
    · exact h.cellIs (tbn_get s (by omega))
    · exact h.cellIs (tbn_get s (by omega))
    · exact h.cellIs (tbn_get s (by omega))
    · simp at hk; omega⟩
theorem list_K4 {a b c d : Int} (ha : I64 a) (hb : I64 b) (hc : I64 c) (hd : I64 d) : ∀ k, k < [a, b, c, d].length → I64 ([a, b, c, d].getD k 0) := by
  intro k hk
  have hk : k < 4 := hk
  rcases (show k = 0 ∨ k = 1 ∨ k = 2 ∨ k = 3 by omega) with rfl | rfl | rfl | rfl <;> assumption
theorem dotT_any (s : Nat → Int) (i k x y : Nat) (w : World) (t t2 : TypeId) (hs : ∀ j, j < 16 → I64 (s j)) (hi : i < 4) (hk : k < 4) (p : blk w x (tbn s) t) (q : blk w y #[.int .i64 (s k), .int .i64 (s (4 + k)), .int .i64 (s (8 + k)), .int .i64 (s (12 + k))] t2) :
    Calls Try.prog 60 #[.slice (some ⟨x, i * 4, none⟩) 4 4, .slice (some ⟨y, 0, none⟩) 4 4] w fun e w' => e = .returned (.tuple #[.int .i64 (prdF s (i * 4 + k)), .int .i64 (dotE [s (i * 4), s (i * 4 + 1), s (i * 4 + 2), s (i * 4 + 3)] [s k, s (4 + k), s (8 + k), s (12 + k)])]) ∧ Below w.heap.size w w' := by
  rw [prd_at s i k hk]
  exact dot_any _ _ _ _ w (intsT4 p hi) (intsK4 q) (list_K4 (hs _ (by omega)) (hs _ (by omega)) (hs _ (by omega)) (hs _ (by omega))) (list_K4 (hs _ (by omega)) (hs _ (by omega)) (hs _ (by omega)) (hs _ (by omega)))
set_option maxRecDepth 100000 in
set_option maxHeartbeats 6000000 in
theorem sol1_any (m : Nat → Int) (i k b : Nat) (w : World) (p : blk w b (tbn m) 38) (hm : ∀ j, j < 16 → I64 (m j)) (hi : i < 4) (hk : k < 4) : Calls Try.prog 57 #[.int .i64 i, .int .i64 k, .pointer (some ⟨b, 0, none⟩)] w fun e w' => e = .returned (.int .i64 (hlfF m (i * 4 + k))) ∧ Below w.heap.size w w' := by
  rw [hlf_at m i k hk]
  have hc : w.cell? ⟨b, i * 4 + k, none⟩ = some (.int .i64 (m (i * 4 + k))) := p.cellIs (tbn_get m (by omega))
  have h0 := hm (i * 4 + k) (by omega)
  generalize m (i * 4 + k) = x at *
  have hdi : decide ((i : Int) < 4) = true := decide_eq_true (by omega)
  have hdi' : decide (i < 4) = true := decide_eq_true hi
  have hi3 : (i : Int) < 4 := by omega
  have hdk : decide ((k : Int) < 4) = true := decide_eq_true (by omega)
  have hdk' : decide (k < 4) = true := decide_eq_true hk
  have hk3 : (k : Int) < 4 := by omega
  have hB : Below w.heap.size w w := Below.refl _ _
  clear p hm
  by_cases e : i = k
  · have e1 : decide ((i : Int) = k) = true := decide_eq_true (by omega)
    have e2 : ((i : Int) == k) = true := by simp [e]
    have e3 : IntKind.i64.wrap (x + 1073741824) = wrap64 (x + 1073741824) := by rw [wrap_W]
    rw [if_pos e]
    have RA := Lib.hid (fun w => ratio_any (wrap64 (x + 1073741824)) 1 2 w (wrap64_J _) ⟨by omega, by omega⟩ ⟨by omega, by omega⟩)
    replace e := Lib.hid e
    clear h0
    go_enter Try.func57, Try.ntmps57
    go_wp2_with (first
      | (go_at_call 58; with_reducible refine (RA.out _).mono ?_; rintro e w1 ⟨rfl, hb⟩; replace hB := hB.trans (hb.mono hB.size); clear hb))
    go_ret
    exact ⟨rfl, hB⟩
  have e1 : decide ((i : Int) = k) = false := decide_eq_false (by omega)
  have e2 : ((i : Int) == k) = false := by simp; omega
  rw [if_neg e]
  have RA := Lib.hid (fun w => ratio_any x 1 2 w h0 ⟨by omega, by omega⟩ ⟨by omega, by omega⟩)
  replace e := Lib.hid e
  clear h0
  go_enter Try.func57, Try.ntmps57
  go_wp2_with (first
    | (go_at_call 58; with_reducible refine (RA.out _).mono ?_; rintro e w1 ⟨rfl, hb⟩; replace hB := hB.trans (hb.mono hB.size); clear hb))
  go_ret
  exact ⟨rfl, hB⟩
set_option maxRecDepth 100000 in
set_option maxHeartbeats 8000000 in
theorem sol2_any (m : Nat → Int) (i k b : Nat) (w : World) (tb : blk w b (tbn m) 113) (hm : ∀ j, j < 16 → I64 (m j)) (hi : i < 4) (hk : k < 4) : Calls Try.prog 59 #[.int .i64 i, .int .i64 k, .pointer (some ⟨b, 0, none⟩)] w fun e w' => e = .returned (.int .i64 (prdF m (i * 4 + k))) ∧ Below w.heap.size w w' := by
  have DT := Lib.hid (fun x y w t t2 p q => dotT_any m i k x y w t t2 hm hi hk p q)
  generalize dotE [m (i * 4), m (i * 4 + 1), m (i * 4 + 2), m (i * 4 + 3)] [m k, m (4 + k), m (8 + k), m (12 + k)] = DE at *
  generalize prdF m (i * 4 + k) = P at *
  have hdi : decide ((i : Int) < 4) = true := decide_eq_true (by omega)
  have hdi' : decide (i < 4) = true := decide_eq_true hi
  have hi3 : (i : Int) < 4 := by omega
  have hdk : decide ((k : Int) < 4) = true := decide_eq_true (by omega)
  have hdk' : decide (k < 4) = true := decide_eq_true hk
  have hk3 : (k : Int) < 4 := by omega
  have hB : Below w.heap.size w w := Below.refl _ _
  have ltb := tb.lt
  clear hm
  go_enter Try.func59, Try.ntmps59
  go_upto_region 1 with (fail)
  have lt_tb := tb.lt
  have hW0 : w.heap.size ≤ w.heap.size := by have := hB.size; first | exact this | simpa using this
  apply wp_region_I 26 [0, 1, 3, 0, 0, 24, 56, 0, 0, 384, 896, 0, 0, 6144, 14336, 0, 0, 98304, 229376, 524280, 1048575, 2097151, 4194303, 4194303, 8388607, 33554431] [19] [_, _, _, _, _, _, _, _, _, _, _, _, _, _, _, _, _, _, _, (fun p => (fun b => .slice (some ⟨b, 0, none⟩) 4 4) (p 19)), _, _, _, _, _, _] (fun p L w' => w.heap.size ≤ w'.heap.size ∧ Below w.heap.size w w' ∧ blk w' b (tbn m) 113 ∧ (L 19 = true → w.heap.size ≤ p 19 ∧ blk w' (p 19) #[.int .i64 (m k), .int .i64 (m (4 + k)), .int .i64 (m (8 + k)), .int .i64 (m (12 + k))] 2)) _ [(0, 9), (1, 10), (2, 11), (3, 12), (4, 13), (5, 14), (6, 15), (7, 16), (8, 17), (9, 18), (10, 19), (11, 20), (12, 21), (13, 22), (14, 23), (15, 24), (16, 25), (17, 26), (18, 27), (19, 28), (20, 29), (21, 8), (22, 30), (23, 31), (24, 6), (25, 7)] [0, 1, 2, 3, 4, 5, 6, 7, 8, 9, 10, 11, 12, 13, 14, 15, 16, 17, 18, 19, 20, 21, 22, 23, 24, 25]
  case hn => rfl
  case hm => kernel_rfl
  case hB => kernel_rfl
  case hds => kernel_rfl
  case hA => (intro p; simp only [putsD, Act.put, List.setIfInBounds_toArray, List.set_cons_zero, List.set_cons_succ, List.getD_cons_zero, List.getD_cons_succ]; exact rfl)
  case h0 => exact fun p => ⟨Nat.le_refl _, hB.drew, tb.drew, fun h => absurd h (by decide)⟩
  case hmore => exact fun p L w1 w2 ⟨hsz, hB, tb, h_cl⟩ hm => ⟨Nat.le_trans hsz hm.size, hB.trans (hm.mono (Nat.le_trans hW0 hsz)), tb.below hm tb.lt, fun hl => ⟨(h_cl hl).1, (h_cl hl).2.below hm (h_cl hl).2.lt⟩⟩
  case hs =>
    intro more
    iterate 6 (refine stepV _ rfl rfl (fun _ _ _ h => h) (by intros; go_simp; exact ⟨rfl, rfl⟩) ?_)
    refine stepV 6 rfl rfl (fun _ _ _ h => h) ?_ ?_
    · rintro p L w1 ⟨hsz, hB, tb, h_cl⟩ hk
      have hc : w1.cell? ⟨b, k, none⟩ = some (.int .i64 (m k)) := tb.cellIs (tbn_get m (by omega))
      go_simp
      exact ⟨rfl, rfl⟩
    iterate 3 (refine stepV _ rfl rfl (fun _ _ _ h => h) (by intros; go_simp; exact ⟨rfl, rfl⟩) ?_)
    refine stepV 10 rfl rfl (fun _ _ _ h => h) ?_ ?_
    · rintro p L w1 ⟨hsz, hB, tb, h_cl⟩ hk
      have hc : w1.cell? ⟨b, 4 + k, none⟩ = some (.int .i64 (m (4 + k))) := tb.cellIs (tbn_get m (by omega))
      go_simp
      exact ⟨rfl, rfl⟩
    iterate 3 (refine stepV _ rfl rfl (fun _ _ _ h => h) (by intros; go_simp; exact ⟨rfl, rfl⟩) ?_)
    refine stepV 14 rfl rfl (fun _ _ _ h => h) ?_ ?_
    · rintro p L w1 ⟨hsz, hB, tb, h_cl⟩ hk
      have hc : w1.cell? ⟨b, 8 + k, none⟩ = some (.int .i64 (m (8 + k))) := tb.cellIs (tbn_get m (by omega))
      go_simp
      exact ⟨rfl, rfl⟩
    iterate 3 (refine stepV _ rfl rfl (fun _ _ _ h => h) (by intros; go_simp; exact ⟨rfl, rfl⟩) ?_)
    refine stepV 18 rfl rfl (fun _ _ _ h => h) ?_ ?_
    · rintro p L w1 ⟨hsz, hB, tb, h_cl⟩ hk
      have hc : w1.cell? ⟨b, 12 + k, none⟩ = some (.int .i64 (m (12 + k))) := tb.cellIs (tbn_get m (by omega))
      go_simp
      exact ⟨rfl, rfl⟩
    refine AllI.cons ?_ ?_
    · refine stepI_fresh 19 rfl (fun p => rfl) rfl (fun b => .slice (some ⟨b, 0, none⟩) 4 4) (fun p => #[.int .i64 (m k), .int .i64 (m (4 + k)), .int .i64 (m (8 + k)), .int .i64 (m (12 + k))]) 2 (fun p => rfl) ?_ ?_
      · intro p w1
        try simp only [vfn, qfn]
        go_simp
        try rfl
      rintro p L w1 ⟨hsz, hB, tb, h_cl⟩ hk
      refine ⟨Nat.le_trans hsz (by simp), hB.alloc (Nat.le_trans (by first | exact hW0 | (have := hB.size; simp at this ⊢; omega)) hsz) _, tb.alloc _, fun _ => ⟨hsz, ?_⟩⟩
      exact blk.new _ _ _
    refine stepD 20 rfl (fun p => rfl) (fun _ _ _ h => h) more ?_ ?_
    · rintro p L w1 ⟨hsz, hB, tb, h_cl⟩ hk
      have hh_cl := (h_cl (hk.2.1 19 rfl)).2
      go_simp
      refine (DT.out _ _ _ _ _ tb hh_cl).mono ?_
      rintro e w2 ⟨rfl, h2⟩
      first | exact ⟨rfl, h2⟩ | (subst h2; exact ⟨rfl, Below.refl _ _⟩)
    iterate 5 (refine stepV _ rfl rfl (fun _ _ _ h => h) (by intros; go_simp; exact ⟨rfl, rfl⟩) ?_)
    exact AllI.nil
  case hV0 =>
    intro p q
    refine AllI.cons ?_ ?_
    · skip
      iterate 26 (refine AllI.cons (by first | exact .inl rfl | (refine .inr ?_; simp only [List.getD_cons_zero, List.getD_cons_succ]; done) | exact .inr rfl) ?_)
      exact AllI.nil
    exact AllI.nil
  case he =>
  clear hB tb
  rintro p wr ⟨hsz, hB, tb, h_cl⟩
  obtain ⟨le_cl, cl⟩ := h_cl rfl
  clear h_cl
  replace cl : blk wr (p 19) #[.int .i64 (m k), .int .i64 (m (4 + k)), .int .i64 (m (8 + k)), .int .i64 (m (12 + k))] 2 := cl
  have ne_tb_cl : b ≠ p 19 := Nat.ne_of_lt (Nat.lt_of_lt_of_le lt_tb le_cl)
  have ge_cl : w.heap.size ≤ p 19 := Nat.le_trans hW0 le_cl
  generalize p 19 = cl_b at *
  clear lt_tb
  clear hsz hW0
  clear DT
  go_wp2_with (fail)
  go_ret
  exact ⟨rfl, hB⟩
set_option maxRecDepth 100000 in
set_option maxHeartbeats 8000000 in
theorem sol3_any (m : Nat → Int) (t : Int) (i k b c : Nat) (w : World) (tb : blk w b (tbn m) 113) (tc : blk w c #[.int .i64 t] 2) (hm : ∀ j, j < 16 → I64 (m j)) (ht : I64 t) (hi : i < 4) (hk : k < 4) : Calls Try.prog 62 #[.int .i64 i, .int .i64 k, .pointer (some ⟨b, 0, none⟩), .pointer (some ⟨c, 0, none⟩)] w fun e w' => e = .returned (.int .i64 (divF m t (i * 4 + k))) ∧ Below w.heap.size w w' := by
  have RA := Lib.hid (fun w => ratio_any (m (i * 4 + k)) 1073741824 t w (hm _ (by omega)) ⟨by omega, by omega⟩ ht)
  rw [show ratioV (m (i * 4 + k)) 1073741824 t = divF m t (i * 4 + k) from rfl] at RA
  generalize divF m t (i * 4 + k) = P at *
  generalize ratioE (m (i * 4 + k)) 1073741824 t = PE at *
  have hdi : decide ((i : Int) < 4) = true := decide_eq_true (by omega)
  have hdi' : decide (i < 4) = true := decide_eq_true hi
  have hi3 : (i : Int) < 4 := by omega
  have hdk : decide ((k : Int) < 4) = true := decide_eq_true (by omega)
  have hdk' : decide (k < 4) = true := decide_eq_true hk
  have hk3 : (k : Int) < 4 := by omega
  have hB : Below w.heap.size w w := Below.refl _ _
  clear hm ht
  go_enter Try.func62, Try.ntmps62
  go_upto_region 1 with (fail)
  have lt_tb := tb.lt
  have lt_tc := tc.lt
  have hW0 : w.heap.size ≤ w.heap.size := by have := hB.size; first | exact this | simpa using this
  apply wp_region_I 12 [0, 0, 1, 7, 15, 0, 63, 127, 255, 255, 511, 2047] [] [_, _, _, _, _, _, _, _, _, _, _, _] (fun p L w' => w.heap.size ≤ w'.heap.size ∧ Below w.heap.size w w' ∧ blk w' b (tbn m) 113 ∧ blk w' c #[.int .i64 t] 2) _ [(0, 10), (1, 11), (2, 12), (3, 13), (4, 14), (5, 15), (6, 16), (7, 9), (8, 17), (9, 18), (10, 7), (11, 8)] [0, 1, 2, 3, 4, 5, 6, 7, 8, 9, 10, 11]
  case hn => rfl
  case hm => kernel_rfl
  case hB => kernel_rfl
  case hds => kernel_rfl
  case hA => (intro p; simp only [putsD, Act.put, List.setIfInBounds_toArray, List.set_cons_zero, List.set_cons_succ, List.getD_cons_zero, List.getD_cons_succ]; exact rfl)
  case h0 => exact fun p => ⟨Nat.le_refl _, hB.drew, tb.drew, tc.drew⟩
  case hmore => exact fun p L w1 w2 ⟨hsz, hB, tb, tc⟩ hm => ⟨Nat.le_trans hsz hm.size, hB.trans (hm.mono (Nat.le_trans hW0 hsz)), tb.below hm tb.lt, tc.below hm tc.lt⟩
  case hs =>
    intro more
    iterate 4 (refine stepV _ rfl rfl (fun _ _ _ h => h) (by intros; go_simp; exact ⟨rfl, rfl⟩) ?_)
    refine stepV 4 rfl rfl (fun _ _ _ h => h) ?_ ?_
    · rintro p L w1 ⟨hsz, hB, tb, tc⟩ hk
      have hc : w1.cell? ⟨b, i * 4 + k, none⟩ = some (.int .i64 (m (i * 4 + k))) := tb.cellIs (tbn_get m (by omega))
      go_simp
      exact ⟨rfl, rfl⟩
    refine stepV 5 rfl rfl (fun _ _ _ h => h) ?_ ?_
    · rintro p L w1 ⟨hsz, hB, tb, tc⟩ hk
      have hc : w1.cell? ⟨c, 0, none⟩ = some (.int .i64 t) := tc.cellIs rfl
      go_simp
      exact ⟨rfl, rfl⟩
    refine stepD 6 rfl (fun p => rfl) (fun _ _ _ h => h) more ?_ ?_
    · rintro p L w1 ⟨hsz, hB, tb, tc⟩ hk
      go_simp
      refine (RA.out _).mono ?_
      rintro e w2 ⟨rfl, h2⟩
      first | exact ⟨rfl, h2⟩ | (subst h2; exact ⟨rfl, Below.refl _ _⟩)
    iterate 5 (refine stepV _ rfl rfl (fun _ _ _ h => h) (by intros; go_simp; exact ⟨rfl, rfl⟩) ?_)
    exact AllI.nil
  case hV0 => exact fun p q => AllI.nil
  case he =>
  clear hB tb tc
  rintro p wr ⟨hsz, hB, tb, tc⟩
  clear lt_tb
  clear lt_tc
  clear hsz hW0
  clear RA
  go_wp2_with (fail)
  go_ret
  exact ⟨rfl, hB⟩
set_option maxRecDepth 100000 in
set_option maxHeartbeats 6000000 in
theorem strace_any (m : Nat → Int) (w : World) : Calls Try.prog 61 #[.agg (tbn m)] w fun e w' => e = .returned (.int .i64 (trcF m)) ∧ Below w.heap.size w w' := by
  have e1 : IntKind.i64.wrap (IntKind.i64.wrap (IntKind.i64.wrap (m 0 + m 5) + m 10) + m 15) = trcF m := by rw [wrap_W, wrap_W, wrap_W]; rfl
  go_enter Try.func61, Try.ntmps61
  go_upto_region 1 with (fail)
  have b : blk (w.alloc (.cells (tbn m) 113)) w.heap.size (tbn m) 113 := blk.new _ _ _
  have hB : Below w.heap.size w (w.alloc (.cells (tbn m) 113)) := by go_grown
  generalize (w.alloc (.cells (tbn m) 113)) = w0 at *
  have c0 : w0.cell? ⟨w.heap.size, 0, none⟩ = some (.int .i64 (m 0)) := b.cellIs (tbn_get m (by omega))
  have c5 : w0.cell? ⟨w.heap.size, 5, none⟩ = some (.int .i64 (m 5)) := b.cellIs (tbn_get m (by omega))
  have c10 : w0.cell? ⟨w.heap.size, 10, none⟩ = some (.int .i64 (m 10)) := b.cellIs (tbn_get m (by omega))
  have c15 : w0.cell? ⟨w.heap.size, 15, none⟩ = some (.int .i64 (m 15)) := b.cellIs (tbn_get m (by omega))
  go_wp2_with (fail)
  go_ret
  exact ⟨rfl, hB⟩
end Go.Proofs.Ytkmelddejdikgaa
