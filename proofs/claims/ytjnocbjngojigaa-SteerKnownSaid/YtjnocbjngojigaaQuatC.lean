/-
  Products of quaternions, in the package: the four components.
-/
import Derived.Test.YtjnocbjngojigaaQuatB
import Derived.Test.YtjnocbjngojigaaBase
set_option linter.unusedSimpArgs false
set_option linter.unusedVariables false
namespace Go.Proofs.Ytjnocbjngojigaa
open Go.RowKit PM Dt
theorem qfn_set {f g : Nat → Int} {i : Nat} {v : Int} (h : i < 4) (hx : v = g i) (hg : ∀ j, j < 4 → j ≠ i → f j = g j) : (qfn f).setIfInBounds i (.int .i64 v) = qfn g := by
  subst hx
  have : i = 0 ∨ i = 1 ∨ i = 2 ∨ i = 3 := by omega
  rcases this with rfl | rfl | rfl | rfl
  · unfold qfn; rw [hg 1 (by omega) (by omega), hg 2 (by omega) (by omega), hg 3 (by omega) (by omega)]; rfl
  · unfold qfn; rw [hg 0 (by omega) (by omega), hg 2 (by omega) (by omega), hg 3 (by omega) (by omega)]; rfl
  · unfold qfn; rw [hg 0 (by omega) (by omega), hg 1 (by omega) (by omega), hg 3 (by omega) (by omega)]; rfl
  · unfold qfn; rw [hg 0 (by omega) (by omega), hg 1 (by omega) (by omega), hg 2 (by omega) (by omega)]; rfl
theorem okQ_I {f : Nat → Int} (hf : okQ f = true) : ∀ i, i < 4 → I64 (f i) := fun i hi => vb_I ((okQ_iff f).1 hf i hi)
/-- The product of two lists of four numbers, as an integer. -/
def d4 (f g : Nat → Int) : Int := dotS [f 0, f 1, f 2, f 3] [g 0, g 1, g 2, g 3]
theorem d4_fit {f g : Nat → Int} (hf : okQ f = true) (hg : okQ g = true) : dotV [f 0, f 1, f 2, f 3] [g 0, g 1, g 2, g 3] = rnd (d4 f g) ∧ dotE [f 0, f 1, f 2, f 3] [g 0, g 1, g 2, g 3] = 0 := by
  have a0 := vb_prod ((okQ_iff f).1 hf 0 (by omega)) ((okQ_iff g).1 hg 0 (by omega))
  have a1 := vb_prod ((okQ_iff f).1 hf 1 (by omega)) ((okQ_iff g).1 hg 1 (by omega))
  have a2 := vb_prod ((okQ_iff f).1 hf 2 (by omega)) ((okQ_iff g).1 hg 2 (by omega))
  have a3 := vb_prod ((okQ_iff f).1 hf 3 (by omega)) ((okQ_iff g).1 hg 3 (by omega))
  have e : dotS [f 0, f 1, f 2, f 3] [g 0, g 1, g 2, g 3] = f 0 * g 0 + (f 1 * g 1 + (f 2 * g 2 + (f 3 * g 3 + 0))) := by rw [dotS_cons, dotS_cons, dotS_cons, dotS_cons, dotS_nil]
  have := dotOK (S := dotS [f 0, f 1, f 2, f 3] [g 0, g 1, g 2, g 3]) (by rw [e]; omega) (by rw [e]; omega)
  unfold dotV dotE d4
  rw [if_neg (by simp), if_neg (by simp)]
  exact this
theorem dot4_any (f g : Nat → Int) (b c : Nat) (w : World) (t : TypeId) (hf : okQ f = true) (hg : okQ g = true) (p : blk w b (qfn f) t) (q : blk w c (qfn g) t) :
    Calls Try.prog 112 #[.slice (some ⟨b, 0, none⟩) 4 4, .slice (some ⟨c, 0, none⟩) 4 4] w fun e w' => e = .returned (.tuple #[.int .i64 (rnd (d4 f g)), .int .i64 0]) ∧ Below w.heap.size w w' :=
  (dot_any [f 0, f 1, f 2, f 3] [g 0, g 1, g 2, g 3] _ _ w (ints4 p) (ints4 q) (list_I4 (okQ_I hf)) (list_I4 (okQ_I hg))).mono fun e w' h => ⟨h.1.trans (by rw [(d4_fit hf hg).1, (d4_fit hf hg).2]), h.2⟩
def pre4 (x : Nat → Int) (k : Nat) : Nat → Int := fun j => if j < k then x j else 0
theorem pre4_step {x : Nat → Int} {k j : Nat} (h : j ≠ k) : pre4 x k j = pre4 x (k + 1) j := by
  have : (j < k + 1) = (j < k) := propext (by omega)
  simp only [pre4, this]
/-- The factors of component i of the product. -/
def prL (f : Nat → Int) : Nat → Nat → Int
  | 0, 0 => f 0
  | 0, k => -f k
  | 1, 3 => -f 3
  | 2, 1 => -f 1
  | 3, 2 => -f 2
  | _, k => f k
def prM (g : Nat → Int) (i : Nat) : Nat → Int := fun k => g (i ^^^ k)
def qprX (f g : Nat → Int) (i : Nat) : Int := rnd (d4 (prL f i) (prM g i))
theorem prL_ok {f : Nat → Int} (h : okQ f = true) {i : Nat} (hi : i < 4) : okQ (prL f i) = true := by
  have v := (okQ_iff f).1 h
  have n : ∀ k, k < 4 → vb (-f k) = true := fun k hk => vb_neg (v k hk)
  refine (okQ_iff _).2 fun k hk => ?_
  have : i = 0 ∨ i = 1 ∨ i = 2 ∨ i = 3 := by omega
  have h2 : k = 0 ∨ k = 1 ∨ k = 2 ∨ k = 3 := by omega
  rcases this with rfl | rfl | rfl | rfl <;> rcases h2 with rfl | rfl | rfl | rfl <;> first | exact v _ (by omega) | exact n _ (by omega)
theorem prM_ok {g : Nat → Int} (h : okQ g = true) {i : Nat} (hi : i < 4) : okQ (prM g i) = true := by
  have v := (okQ_iff g).1 h
  refine (okQ_iff _).2 fun k hk => ?_
  have : i = 0 ∨ i = 1 ∨ i = 2 ∨ i = 3 := by omega
  have h2 : k = 0 ∨ k = 1 ∨ k = 2 ∨ k = 3 := by omega
  rcases this with rfl | rfl | rfl | rfl <;> rcases h2 with rfl | rfl | rfl | rfl <;> exact v _ (by decide)
/-- The signs of the terms, as cells. -/
def sgnA : Array Value := #[.int .i64 1, .int .i64 (-1), .int .i64 (-1), .int .i64 (-1), .int .i64 1, .int .i64 1, .int .i64 1, .int .i64 (-1), .int .i64 1, .int .i64 (-1), .int .i64 1, .int .i64 1, .int .i64 1, .int .i64 1, .int .i64 (-1), .int .i64 1]
theorem sgnA_lit : sgnA = #[.int .i64 1, .int .i64 (-1), .int .i64 (-1), .int .i64 (-1), .int .i64 1, .int .i64 1, .int .i64 1, .int .i64 (-1), .int .i64 1, .int .i64 (-1), .int .i64 1, .int .i64 1, .int .i64 1, .int .i64 1, .int .i64 (-1), .int .i64 1] := rfl
theorem sgn_0_0 : sgnA[0]? = some (.int .i64 (1)) := rfl
theorem sgn_0_1 : sgnA[1]? = some (.int .i64 (-1)) := rfl
theorem sgn_0_2 : sgnA[2]? = some (.int .i64 (-1)) := rfl
theorem sgn_0_3 : sgnA[3]? = some (.int .i64 (-1)) := rfl
theorem sgn_1_0 : sgnA[4]? = some (.int .i64 (1)) := rfl
theorem sgn_1_1 : sgnA[5]? = some (.int .i64 (1)) := rfl
theorem sgn_1_2 : sgnA[6]? = some (.int .i64 (1)) := rfl
theorem sgn_1_3 : sgnA[7]? = some (.int .i64 (-1)) := rfl
theorem sgn_2_0 : sgnA[8]? = some (.int .i64 (1)) := rfl
theorem sgn_2_1 : sgnA[9]? = some (.int .i64 (-1)) := rfl
theorem sgn_2_2 : sgnA[10]? = some (.int .i64 (1)) := rfl
theorem sgn_2_3 : sgnA[11]? = some (.int .i64 (1)) := rfl
theorem sgn_3_0 : sgnA[12]? = some (.int .i64 (1)) := rfl
theorem sgn_3_1 : sgnA[13]? = some (.int .i64 (1)) := rfl
theorem sgn_3_2 : sgnA[14]? = some (.int .i64 (-1)) := rfl
theorem sgn_3_3 : sgnA[15]? = some (.int .i64 (1)) := rfl
theorem sgnA_size : sgnA.size = 16 := rfl
theorem sgnA_one : sgnA.all (·.oneCell') = true := by simp [sgnA, Value.oneCell']
attribute [irreducible] sgnA
set_option maxRecDepth 100000 in
set_option maxHeartbeats 4000000 in
theorem qprC0 (f g L : Nat → Int) (s b c : Nat) (w : World) (hs : blk w s sgnA 151) (p : blk w b (qfn f) 23) (q : blk w c (qfn g) 23) (hL0 : IntKind.i64.wrap ((1) * f 0) = L 0) (hL1 : IntKind.i64.wrap ((-1) * f 1) = L 1) (hL2 : IntKind.i64.wrap ((-1) * f 2) = L 2) (hL3 : IntKind.i64.wrap ((-1) * f 3) = L 3) (X : Int)
    (D : Hid (∀ x y w, blk w x (qfn L) 22 → blk w y (qfn (prM g 0)) 22 → Calls Try.prog 112 #[.slice (some ⟨x, 0, none⟩) 4 4, .slice (some ⟨y, 0, none⟩) 4 4] w fun e w' => e = .returned (.tuple #[.int .i64 X, .int .i64 0]) ∧ Below w.heap.size w w')) :
    Calls Try.prog 116 #[.int .i64 0, .pointer (some ⟨s, 0, none⟩), .pointer (some ⟨b, 0, none⟩), .pointer (some ⟨c, 0, none⟩)] w fun e w' => e = .returned (.tuple #[.int .i64 X, .int .i64 0]) ∧ Below w.heap.size w w' := by
  obtain ⟨M, hM⟩ : ∃ M, M = prM g 0 := ⟨_, rfl⟩
  have m0 : Hid (M 0 = g 0) := by show _ = _; rw [hM]; rfl
  have m1 : Hid (M 1 = g 1) := by show _ = _; rw [hM]; rfl
  have m2 : Hid (M 2 = g 2) := by show _ = _; rw [hM]; rfl
  have m3 : Hid (M 3 = g 3) := by show _ = _; rw [hM]; rfl
  rw [← hM] at D
  clear hM
  go_enter Try.func116, Try.ntmps116
  go_upto_region 2 with (fail)
  rw [zero_quat]
  have hs0 := hs.lt
  have p0 := p.lt
  have q0 := q.lt
  replace hs := (hs.alloc (.cells (qfn fun _ => 0) 22)).alloc (.cells (qfn fun _ => 0) 22)
  replace p := (p.alloc (.cells (qfn fun _ => 0) 22)).alloc (.cells (qfn fun _ => 0) 22)
  replace q := (q.alloc (.cells (qfn fun _ => 0) 22)).alloc (.cells (qfn fun _ => 0) 22)
  have l : blk ((w.alloc (.cells (qfn fun _ => 0) 22)).alloc (.cells (qfn fun _ => 0) 22)) w.heap.size (qfn fun _ => 0) 22 := (blk.new _ _ _).alloc _
  have m : blk ((w.alloc (.cells (qfn fun _ => 0) 22)).alloc (.cells (qfn fun _ => 0) 22)) (w.heap.size + 1) (qfn fun _ => 0) 22 := blk.new' (by simp)
  have hB : Below w.heap.size w ((w.alloc (.cells (qfn fun _ => 0) 22)).alloc (.cells (qfn fun _ => 0) 22)) := by go_grown
  generalize (w.alloc (.cells (qfn fun _ => 0) 22)).alloc (.cells (qfn fun _ => 0) 22) = w0 at *
  go_wp2_with (fail)
  go_loopg [10] 4 (fun g_ iv wr => ∃ k : Nat, g_ + k = 4 ∧ iv = .int .i64 k ∧ blk wr s sgnA 151 ∧ blk wr b (qfn f) 23 ∧ blk wr c (qfn g) 23 ∧ blk wr w.heap.size (qfn (pre4 L k)) 22 ∧ blk wr (w.heap.size + 1) (qfn (pre4 M k)) 22 ∧ Below w.heap.size w wr)
  case atStart => exact ⟨0, rfl, rfl, hs, p, q, by rw [show qfn (pre4 L 0) = qfn (fun _ => 0) from qfn_congr fun i _ => by simp [pre4]]; exact l, by rw [show qfn (pre4 M 0) = qfn (fun _ => 0) from qfn_congr fun i _ => by simp [pre4]]; exact m, hB⟩
  case round =>
    clear hs p q l m hB
    obtain ⟨k, hk, rfl, hs, p, q, l, m, hB⟩ := hrel
    have hcase : k = 0 ∨ k = 1 ∨ k = 2 ∨ k = 3 ∨ k = 4 := by omega
    rcases hcase with rfl | rfl | rfl | rfl | rfl
    · go_upto_region 5 with (fail)
      refine wp_region_Z 20 w.heap.size [17, 19] (fun bs wx => blk wx w.heap.size (qfn (pre4 L (cond (bs.getD 0 false) 1 0))) 22 ∧ blk wx (w.heap.size + 1) (qfn (pre4 M (cond (bs.getD 1 false) 1 0))) 22) rfl (by kernel_rfl) hB.size (fun bs w1 w2 h hm => ⟨h.1.below hm h.1.lt, h.2.below hm h.2.lt⟩) ⟨l.drew, m.drew⟩ ?_
      replace hs := hs.drew
      replace p := p.drew
      replace q := q.drew
      replace hB : Below w.heap.size w wr.drew := hB.drew
      clear l m
      generalize wr.drew = wd at *
      refine wpZ_take 0 (.int .i64 0) rfl rfl (by kernel_rfl) rfl (fun w1 h1 => by go_simp; exact ⟨rfl, Below.refl _ _⟩) ?_
      simp only [Act.put, List.setIfInBounds_toArray, List.set_cons_zero, List.set_cons_succ]
      refine wpZ_take 1 (.int .i64 0) rfl rfl (by kernel_rfl) rfl (fun w1 h1 => by go_simp; exact ⟨rfl, Below.refl _ _⟩) ?_
      simp only [Act.put, List.setIfInBounds_toArray, List.set_cons_zero, List.set_cons_succ]
      refine wpZ_take 2 (.int .i64 0) rfl rfl (by kernel_rfl) rfl (fun w1 h1 => by go_simp; exact ⟨rfl, Below.refl _ _⟩) ?_
      simp only [Act.put, List.setIfInBounds_toArray, List.set_cons_zero, List.set_cons_succ]
      refine wpZ_take 3 (.int .i64 0) rfl rfl (by kernel_rfl) rfl (fun w1 h1 => by go_simp; exact ⟨rfl, Below.refl _ _⟩) ?_
      simp only [Act.put, List.setIfInBounds_toArray, List.set_cons_zero, List.set_cons_succ]
      refine wpZ_take 4 (.pointer (some ⟨s, 0, none⟩)) rfl rfl (by kernel_rfl) rfl (fun w1 h1 => by go_simp; exact ⟨rfl, Below.refl _ _⟩) ?_
      simp only [Act.put, List.setIfInBounds_toArray, List.set_cons_zero, List.set_cons_succ]
      refine wpZ_take 5 (.pointer (some ⟨s, 0, none⟩)) rfl rfl (by kernel_rfl) rfl (fun w1 h1 => by go_simp; exact ⟨rfl, Below.refl _ _⟩) ?_
      simp only [Act.put, List.setIfInBounds_toArray, List.set_cons_zero, List.set_cons_succ]
      refine wpZ_take 6 (.int .i64 (1)) rfl rfl (by kernel_rfl) rfl (fun w1 h1 => by have hc : w1.cell? ⟨s, 0, none⟩ = some (.int .i64 (1)) := (hs.below h1 hs0).cellIs sgn_0_0; go_simp; exact ⟨rfl, Below.refl _ _⟩) ?_
      simp only [Act.put, List.setIfInBounds_toArray, List.set_cons_zero, List.set_cons_succ]
      refine wpZ_take 7 (.int .i64 0) rfl rfl (by kernel_rfl) rfl (fun w1 h1 => by go_simp; exact ⟨rfl, Below.refl _ _⟩) ?_
      simp only [Act.put, List.setIfInBounds_toArray, List.set_cons_zero, List.set_cons_succ]
      refine wpZ_take 8 (.pointer (some ⟨b, 0, none⟩)) rfl rfl (by kernel_rfl) rfl (fun w1 h1 => by go_simp; exact ⟨rfl, Below.refl _ _⟩) ?_
      simp only [Act.put, List.setIfInBounds_toArray, List.set_cons_zero, List.set_cons_succ]
      refine wpZ_take 9 (.int .i64 (f 0)) rfl rfl (by kernel_rfl) rfl (fun w1 h1 => by have hc : w1.cell? ⟨b, 0, none⟩ = some (.int .i64 (f 0)) := (p.below h1 p0).cellIs (qfn_get _ (by omega)); go_simp; exact ⟨rfl, Below.refl _ _⟩) ?_
      simp only [Act.put, List.setIfInBounds_toArray, List.set_cons_zero, List.set_cons_succ]
      refine wpZ_take 10 (.int .i64 (L 0)) rfl rfl (by kernel_rfl) rfl (fun w1 h1 => by go_simp; exact ⟨by first | rfl | (rw [← hL0]; exact congrArg (fun z => Value.int IntKind.i64 (IntKind.i64.wrap z)) (by omega)), Below.refl _ _⟩) ?_
      simp only [Act.put, List.setIfInBounds_toArray, List.set_cons_zero, List.set_cons_succ]
      refine wpZ_take 11 (.int .i64 0) rfl rfl (by kernel_rfl) rfl (fun w1 h1 => by go_simp; exact ⟨rfl, Below.refl _ _⟩) ?_
      simp only [Act.put, List.setIfInBounds_toArray, List.set_cons_zero, List.set_cons_succ]
      refine wpZ_take 12 (.int .i64 0) rfl rfl (by kernel_rfl) rfl (fun w1 h1 => by go_simp; exact ⟨rfl, Below.refl _ _⟩) ?_
      simp only [Act.put, List.setIfInBounds_toArray, List.set_cons_zero, List.set_cons_succ]
      refine wpZ_take 13 (.int .i64 0) rfl rfl (by kernel_rfl) rfl (fun w1 h1 => by go_simp; exact ⟨rfl, Below.refl _ _⟩) ?_
      simp only [Act.put, List.setIfInBounds_toArray, List.set_cons_zero, List.set_cons_succ]
      refine wpZ_take 14 (.pointer (some ⟨c, 0, none⟩)) rfl rfl (by kernel_rfl) rfl (fun w1 h1 => by go_simp; exact ⟨rfl, Below.refl _ _⟩) ?_
      simp only [Act.put, List.setIfInBounds_toArray, List.set_cons_zero, List.set_cons_succ]
      refine wpZ_take 15 (.int .i64 (M 0)) rfl rfl (by kernel_rfl) rfl (fun w1 h1 => by have hc : w1.cell? ⟨c, 0, none⟩ = some (.int .i64 (g 0)) := (q.below h1 q0).cellIs (qfn_get _ (by omega)); rw [← m0.out] at hc; go_simp; exact ⟨rfl, Below.refl _ _⟩) ?_
      simp only [Act.put, List.setIfInBounds_toArray, List.set_cons_zero, List.set_cons_succ]
      refine wpZ_take 16 (.pointer (some ⟨w.heap.size, 0, none⟩)) rfl rfl (by kernel_rfl) rfl (fun w1 h1 => by go_simp; exact ⟨rfl, Below.refl _ _⟩) ?_
      simp only [Act.put, List.setIfInBounds_toArray, List.set_cons_zero, List.set_cons_succ]
      refine wpZ_one 17 rfl rfl (by kernel_rfl) [false, false] [true, false] rfl rfl (fun w2 h2 g2 K hK => ?_)
      have l : blk w2 w.heap.size (qfn (pre4 L 0)) 22 := g2.1
      have m : blk w2 (w.heap.size + 1) (qfn (pre4 M 0)) 22 := g2.2
      clear g2
      have fz : w2.frozen? ⟨w.heap.size, 0, none⟩ = false := l.free _
      have cz : w2.cell? ⟨w.heap.size, 0, none⟩ = some (.int .i64 (pre4 L 0 0)) := l.cellIs (qfn_get _ (by omega))
      go_simp
      have l3 : blk (w2.setCell ⟨w.heap.size, 0, none⟩ (.int .i64 (L 0))) w.heap.size (qfn (pre4 L 1)) 22 := l.set' (qfn_set (by omega) (by simp [pre4]) (by intro j hj hne; exact pre4_step hne))
      have m3 : blk (w2.setCell ⟨w.heap.size, 0, none⟩ (.int .i64 (L 0))) (w.heap.size + 1) (qfn (pre4 M 0)) 22 := m.setOther (by simp) _
      have b3 : Below w.heap.size w2 (w2.setCell ⟨w.heap.size, 0, none⟩ (.int .i64 (L 0))) := (Below.refl _ _).setCell (by simp) _
      refine hK _ _ b3 ⟨l3, m3⟩ ?_
      replace hB := hB.trans (h2.trans b3)
      have h23 := h2.trans b3
      clear hK K fz cz l m l3 m3 b3
      generalize w2.setCell ⟨w.heap.size, 0, none⟩ (.int .i64 (L 0)) = w3 at *
      refine wpZ_take 18 (.pointer (some ⟨w.heap.size + 1, 0, none⟩)) rfl rfl (by kernel_rfl) rfl (fun w1 h1 => by go_simp; exact ⟨rfl, Below.refl _ _⟩) ?_
      simp only [Act.put, List.setIfInBounds_toArray, List.set_cons_zero, List.set_cons_succ]
      refine wpZ_one 19 rfl rfl (by kernel_rfl) [true, false] [true, true] rfl rfl (fun w4 h4 g4 K hK => ?_)
      have l : blk w4 w.heap.size (qfn (pre4 L 1)) 22 := g4.1
      have m : blk w4 (w.heap.size + 1) (qfn (pre4 M 0)) 22 := g4.2
      clear g4
      have fz : w4.frozen? ⟨w.heap.size + 1, 0, none⟩ = false := m.free _
      have cz : w4.cell? ⟨w.heap.size + 1, 0, none⟩ = some (.int .i64 (pre4 M 0 0)) := m.cellIs (qfn_get _ (by omega))
      go_simp
      have m5 : blk (w4.setCell ⟨w.heap.size + 1, 0, none⟩ (.int .i64 (M 0))) (w.heap.size + 1) (qfn (pre4 M 1)) 22 := m.set' (qfn_set (by omega) (by simp [pre4]) (by intro j hj hne; exact pre4_step hne))
      have l5 : blk (w4.setCell ⟨w.heap.size + 1, 0, none⟩ (.int .i64 (M 0))) w.heap.size (qfn (pre4 L 1)) 22 := l.setOther (by simp) _
      have b5 : Below w.heap.size w4 (w4.setCell ⟨w.heap.size + 1, 0, none⟩ (.int .i64 (M 0))) := (Below.refl _ _).setCell (by simp) _
      refine hK _ _ b5 ⟨l5, m5⟩ ?_
      replace hB := hB.trans (h4.trans b5)
      have h25 := h23.trans (h4.trans b5)
      clear hK K fz cz l m l5 m5 b5
      generalize w4.setCell ⟨w.heap.size + 1, 0, none⟩ (.int .i64 (M 0)) = w5 at *
      refine wpZ_end (by kernel_rfl) [true, true] rfl (fun w6 h6 g6 => ?_)
      have l : blk w6 w.heap.size (qfn (pre4 L 1)) 22 := g6.1
      have m : blk w6 (w.heap.size + 1) (qfn (pre4 M 1)) 22 := g6.2
      clear g6
      have h26 := h25.trans h6
      replace hs := hs.below h26 hs0
      replace p := p.below h26 p0
      replace q := q.below h26 q0
      replace hB := hB.trans h6
      go_wp2_with (fail)
      go_roundg 3
      case rel => exact ⟨1, by omega, rfl, hs, p, q, l, m, hB⟩
      case measure => omega
    · go_upto_region 5 with (fail)
      refine wp_region_Z 20 w.heap.size [17, 19] (fun bs wx => blk wx w.heap.size (qfn (pre4 L (cond (bs.getD 0 false) 2 1))) 22 ∧ blk wx (w.heap.size + 1) (qfn (pre4 M (cond (bs.getD 1 false) 2 1))) 22) rfl (by kernel_rfl) hB.size (fun bs w1 w2 h hm => ⟨h.1.below hm h.1.lt, h.2.below hm h.2.lt⟩) ⟨l.drew, m.drew⟩ ?_
      replace hs := hs.drew
      replace p := p.drew
      replace q := q.drew
      replace hB : Below w.heap.size w wr.drew := hB.drew
      clear l m
      generalize wr.drew = wd at *
      refine wpZ_take 0 (.int .i64 1) rfl rfl (by kernel_rfl) rfl (fun w1 h1 => by go_simp; exact ⟨rfl, Below.refl _ _⟩) ?_
      simp only [Act.put, List.setIfInBounds_toArray, List.set_cons_zero, List.set_cons_succ]
      refine wpZ_take 1 (.int .i64 1) rfl rfl (by kernel_rfl) rfl (fun w1 h1 => by go_simp; exact ⟨rfl, Below.refl _ _⟩) ?_
      simp only [Act.put, List.setIfInBounds_toArray, List.set_cons_zero, List.set_cons_succ]
      refine wpZ_take 2 (.int .i64 0) rfl rfl (by kernel_rfl) rfl (fun w1 h1 => by go_simp; exact ⟨rfl, Below.refl _ _⟩) ?_
      simp only [Act.put, List.setIfInBounds_toArray, List.set_cons_zero, List.set_cons_succ]
      refine wpZ_take 3 (.int .i64 1) rfl rfl (by kernel_rfl) rfl (fun w1 h1 => by go_simp; exact ⟨rfl, Below.refl _ _⟩) ?_
      simp only [Act.put, List.setIfInBounds_toArray, List.set_cons_zero, List.set_cons_succ]
      refine wpZ_take 4 (.pointer (some ⟨s, 0, none⟩)) rfl rfl (by kernel_rfl) rfl (fun w1 h1 => by go_simp; exact ⟨rfl, Below.refl _ _⟩) ?_
      simp only [Act.put, List.setIfInBounds_toArray, List.set_cons_zero, List.set_cons_succ]
      refine wpZ_take 5 (.pointer (some ⟨s, 1, none⟩)) rfl rfl (by kernel_rfl) rfl (fun w1 h1 => by go_simp; exact ⟨rfl, Below.refl _ _⟩) ?_
      simp only [Act.put, List.setIfInBounds_toArray, List.set_cons_zero, List.set_cons_succ]
      refine wpZ_take 6 (.int .i64 (-1)) rfl rfl (by kernel_rfl) rfl (fun w1 h1 => by have hc : w1.cell? ⟨s, 1, none⟩ = some (.int .i64 (-1)) := (hs.below h1 hs0).cellIs sgn_0_1; go_simp; exact ⟨rfl, Below.refl _ _⟩) ?_
      simp only [Act.put, List.setIfInBounds_toArray, List.set_cons_zero, List.set_cons_succ]
      refine wpZ_take 7 (.int .i64 1) rfl rfl (by kernel_rfl) rfl (fun w1 h1 => by go_simp; exact ⟨rfl, Below.refl _ _⟩) ?_
      simp only [Act.put, List.setIfInBounds_toArray, List.set_cons_zero, List.set_cons_succ]
      refine wpZ_take 8 (.pointer (some ⟨b, 1, none⟩)) rfl rfl (by kernel_rfl) rfl (fun w1 h1 => by go_simp; exact ⟨rfl, Below.refl _ _⟩) ?_
      simp only [Act.put, List.setIfInBounds_toArray, List.set_cons_zero, List.set_cons_succ]
      refine wpZ_take 9 (.int .i64 (f 1)) rfl rfl (by kernel_rfl) rfl (fun w1 h1 => by have hc : w1.cell? ⟨b, 1, none⟩ = some (.int .i64 (f 1)) := (p.below h1 p0).cellIs (qfn_get _ (by omega)); go_simp; exact ⟨rfl, Below.refl _ _⟩) ?_
      simp only [Act.put, List.setIfInBounds_toArray, List.set_cons_zero, List.set_cons_succ]
      refine wpZ_take 10 (.int .i64 (L 1)) rfl rfl (by kernel_rfl) rfl (fun w1 h1 => by go_simp; exact ⟨by first | rfl | (rw [← hL1]; exact congrArg (fun z => Value.int IntKind.i64 (IntKind.i64.wrap z)) (by omega)), Below.refl _ _⟩) ?_
      simp only [Act.put, List.setIfInBounds_toArray, List.set_cons_zero, List.set_cons_succ]
      refine wpZ_take 11 (.int .i64 0) rfl rfl (by kernel_rfl) rfl (fun w1 h1 => by go_simp; exact ⟨rfl, Below.refl _ _⟩) ?_
      simp only [Act.put, List.setIfInBounds_toArray, List.set_cons_zero, List.set_cons_succ]
      refine wpZ_take 12 (.int .i64 1) rfl rfl (by kernel_rfl) rfl (fun w1 h1 => by go_simp; exact ⟨rfl, Below.refl _ _⟩) ?_
      simp only [Act.put, List.setIfInBounds_toArray, List.set_cons_zero, List.set_cons_succ]
      refine wpZ_take 13 (.int .i64 1) rfl rfl (by kernel_rfl) rfl (fun w1 h1 => by go_simp; exact ⟨rfl, Below.refl _ _⟩) ?_
      simp only [Act.put, List.setIfInBounds_toArray, List.set_cons_zero, List.set_cons_succ]
      refine wpZ_take 14 (.pointer (some ⟨c, 1, none⟩)) rfl rfl (by kernel_rfl) rfl (fun w1 h1 => by go_simp; exact ⟨rfl, Below.refl _ _⟩) ?_
      simp only [Act.put, List.setIfInBounds_toArray, List.set_cons_zero, List.set_cons_succ]
      refine wpZ_take 15 (.int .i64 (M 1)) rfl rfl (by kernel_rfl) rfl (fun w1 h1 => by have hc : w1.cell? ⟨c, 1, none⟩ = some (.int .i64 (g 1)) := (q.below h1 q0).cellIs (qfn_get _ (by omega)); rw [← m1.out] at hc; go_simp; exact ⟨rfl, Below.refl _ _⟩) ?_
      simp only [Act.put, List.setIfInBounds_toArray, List.set_cons_zero, List.set_cons_succ]
      refine wpZ_take 16 (.pointer (some ⟨w.heap.size, 1, none⟩)) rfl rfl (by kernel_rfl) rfl (fun w1 h1 => by go_simp; exact ⟨rfl, Below.refl _ _⟩) ?_
      simp only [Act.put, List.setIfInBounds_toArray, List.set_cons_zero, List.set_cons_succ]
      refine wpZ_one 17 rfl rfl (by kernel_rfl) [false, false] [true, false] rfl rfl (fun w2 h2 g2 K hK => ?_)
      have l : blk w2 w.heap.size (qfn (pre4 L 1)) 22 := g2.1
      have m : blk w2 (w.heap.size + 1) (qfn (pre4 M 1)) 22 := g2.2
      clear g2
      have fz : w2.frozen? ⟨w.heap.size, 1, none⟩ = false := l.free _
      have cz : w2.cell? ⟨w.heap.size, 1, none⟩ = some (.int .i64 (pre4 L 1 1)) := l.cellIs (qfn_get _ (by omega))
      go_simp
      have l3 : blk (w2.setCell ⟨w.heap.size, 1, none⟩ (.int .i64 (L 1))) w.heap.size (qfn (pre4 L 2)) 22 := l.set' (qfn_set (by omega) (by simp [pre4]) (by intro j hj hne; exact pre4_step hne))
      have m3 : blk (w2.setCell ⟨w.heap.size, 1, none⟩ (.int .i64 (L 1))) (w.heap.size + 1) (qfn (pre4 M 1)) 22 := m.setOther (by simp) _
      have b3 : Below w.heap.size w2 (w2.setCell ⟨w.heap.size, 1, none⟩ (.int .i64 (L 1))) := (Below.refl _ _).setCell (by simp) _
      refine hK _ _ b3 ⟨l3, m3⟩ ?_
      replace hB := hB.trans (h2.trans b3)
      have h23 := h2.trans b3
      clear hK K fz cz l m l3 m3 b3
      generalize w2.setCell ⟨w.heap.size, 1, none⟩ (.int .i64 (L 1)) = w3 at *
      refine wpZ_take 18 (.pointer (some ⟨w.heap.size + 1, 1, none⟩)) rfl rfl (by kernel_rfl) rfl (fun w1 h1 => by go_simp; exact ⟨rfl, Below.refl _ _⟩) ?_
      simp only [Act.put, List.setIfInBounds_toArray, List.set_cons_zero, List.set_cons_succ]
      refine wpZ_one 19 rfl rfl (by kernel_rfl) [true, false] [true, true] rfl rfl (fun w4 h4 g4 K hK => ?_)
      have l : blk w4 w.heap.size (qfn (pre4 L 2)) 22 := g4.1
      have m : blk w4 (w.heap.size + 1) (qfn (pre4 M 1)) 22 := g4.2
      clear g4
      have fz : w4.frozen? ⟨w.heap.size + 1, 1, none⟩ = false := m.free _
      have cz : w4.cell? ⟨w.heap.size + 1, 1, none⟩ = some (.int .i64 (pre4 M 1 1)) := m.cellIs (qfn_get _ (by omega))
      go_simp
      have m5 : blk (w4.setCell ⟨w.heap.size + 1, 1, none⟩ (.int .i64 (M 1))) (w.heap.size + 1) (qfn (pre4 M 2)) 22 := m.set' (qfn_set (by omega) (by simp [pre4]) (by intro j hj hne; exact pre4_step hne))
      have l5 : blk (w4.setCell ⟨w.heap.size + 1, 1, none⟩ (.int .i64 (M 1))) w.heap.size (qfn (pre4 L 2)) 22 := l.setOther (by simp) _
      have b5 : Below w.heap.size w4 (w4.setCell ⟨w.heap.size + 1, 1, none⟩ (.int .i64 (M 1))) := (Below.refl _ _).setCell (by simp) _
      refine hK _ _ b5 ⟨l5, m5⟩ ?_
      replace hB := hB.trans (h4.trans b5)
      have h25 := h23.trans (h4.trans b5)
      clear hK K fz cz l m l5 m5 b5
      generalize w4.setCell ⟨w.heap.size + 1, 1, none⟩ (.int .i64 (M 1)) = w5 at *
      refine wpZ_end (by kernel_rfl) [true, true] rfl (fun w6 h6 g6 => ?_)
      have l : blk w6 w.heap.size (qfn (pre4 L 2)) 22 := g6.1
      have m : blk w6 (w.heap.size + 1) (qfn (pre4 M 2)) 22 := g6.2
      clear g6
      have h26 := h25.trans h6
      replace hs := hs.below h26 hs0
      replace p := p.below h26 p0
      replace q := q.below h26 q0
      replace hB := hB.trans h6
      go_wp2_with (fail)
      go_roundg 2
      case rel => exact ⟨2, by omega, rfl, hs, p, q, l, m, hB⟩
      case measure => omega
    · go_upto_region 5 with (fail)
      refine wp_region_Z 20 w.heap.size [17, 19] (fun bs wx => blk wx w.heap.size (qfn (pre4 L (cond (bs.getD 0 false) 3 2))) 22 ∧ blk wx (w.heap.size + 1) (qfn (pre4 M (cond (bs.getD 1 false) 3 2))) 22) rfl (by kernel_rfl) hB.size (fun bs w1 w2 h hm => ⟨h.1.below hm h.1.lt, h.2.below hm h.2.lt⟩) ⟨l.drew, m.drew⟩ ?_
      replace hs := hs.drew
      replace p := p.drew
      replace q := q.drew
      replace hB : Below w.heap.size w wr.drew := hB.drew
      clear l m
      generalize wr.drew = wd at *
      refine wpZ_take 0 (.int .i64 2) rfl rfl (by kernel_rfl) rfl (fun w1 h1 => by go_simp; exact ⟨rfl, Below.refl _ _⟩) ?_
      simp only [Act.put, List.setIfInBounds_toArray, List.set_cons_zero, List.set_cons_succ]
      refine wpZ_take 1 (.int .i64 2) rfl rfl (by kernel_rfl) rfl (fun w1 h1 => by go_simp; exact ⟨rfl, Below.refl _ _⟩) ?_
      simp only [Act.put, List.setIfInBounds_toArray, List.set_cons_zero, List.set_cons_succ]
      refine wpZ_take 2 (.int .i64 0) rfl rfl (by kernel_rfl) rfl (fun w1 h1 => by go_simp; exact ⟨rfl, Below.refl _ _⟩) ?_
      simp only [Act.put, List.setIfInBounds_toArray, List.set_cons_zero, List.set_cons_succ]
      refine wpZ_take 3 (.int .i64 2) rfl rfl (by kernel_rfl) rfl (fun w1 h1 => by go_simp; exact ⟨rfl, Below.refl _ _⟩) ?_
      simp only [Act.put, List.setIfInBounds_toArray, List.set_cons_zero, List.set_cons_succ]
      refine wpZ_take 4 (.pointer (some ⟨s, 0, none⟩)) rfl rfl (by kernel_rfl) rfl (fun w1 h1 => by go_simp; exact ⟨rfl, Below.refl _ _⟩) ?_
      simp only [Act.put, List.setIfInBounds_toArray, List.set_cons_zero, List.set_cons_succ]
      refine wpZ_take 5 (.pointer (some ⟨s, 2, none⟩)) rfl rfl (by kernel_rfl) rfl (fun w1 h1 => by go_simp; exact ⟨rfl, Below.refl _ _⟩) ?_
      simp only [Act.put, List.setIfInBounds_toArray, List.set_cons_zero, List.set_cons_succ]
      refine wpZ_take 6 (.int .i64 (-1)) rfl rfl (by kernel_rfl) rfl (fun w1 h1 => by have hc : w1.cell? ⟨s, 2, none⟩ = some (.int .i64 (-1)) := (hs.below h1 hs0).cellIs sgn_0_2; go_simp; exact ⟨rfl, Below.refl _ _⟩) ?_
      simp only [Act.put, List.setIfInBounds_toArray, List.set_cons_zero, List.set_cons_succ]
      refine wpZ_take 7 (.int .i64 2) rfl rfl (by kernel_rfl) rfl (fun w1 h1 => by go_simp; exact ⟨rfl, Below.refl _ _⟩) ?_
      simp only [Act.put, List.setIfInBounds_toArray, List.set_cons_zero, List.set_cons_succ]
      refine wpZ_take 8 (.pointer (some ⟨b, 2, none⟩)) rfl rfl (by kernel_rfl) rfl (fun w1 h1 => by go_simp; exact ⟨rfl, Below.refl _ _⟩) ?_
      simp only [Act.put, List.setIfInBounds_toArray, List.set_cons_zero, List.set_cons_succ]
      refine wpZ_take 9 (.int .i64 (f 2)) rfl rfl (by kernel_rfl) rfl (fun w1 h1 => by have hc : w1.cell? ⟨b, 2, none⟩ = some (.int .i64 (f 2)) := (p.below h1 p0).cellIs (qfn_get _ (by omega)); go_simp; exact ⟨rfl, Below.refl _ _⟩) ?_
      simp only [Act.put, List.setIfInBounds_toArray, List.set_cons_zero, List.set_cons_succ]
      refine wpZ_take 10 (.int .i64 (L 2)) rfl rfl (by kernel_rfl) rfl (fun w1 h1 => by go_simp; exact ⟨by first | rfl | (rw [← hL2]; exact congrArg (fun z => Value.int IntKind.i64 (IntKind.i64.wrap z)) (by omega)), Below.refl _ _⟩) ?_
      simp only [Act.put, List.setIfInBounds_toArray, List.set_cons_zero, List.set_cons_succ]
      refine wpZ_take 11 (.int .i64 0) rfl rfl (by kernel_rfl) rfl (fun w1 h1 => by go_simp; exact ⟨rfl, Below.refl _ _⟩) ?_
      simp only [Act.put, List.setIfInBounds_toArray, List.set_cons_zero, List.set_cons_succ]
      refine wpZ_take 12 (.int .i64 2) rfl rfl (by kernel_rfl) rfl (fun w1 h1 => by go_simp; exact ⟨rfl, Below.refl _ _⟩) ?_
      simp only [Act.put, List.setIfInBounds_toArray, List.set_cons_zero, List.set_cons_succ]
      refine wpZ_take 13 (.int .i64 2) rfl rfl (by kernel_rfl) rfl (fun w1 h1 => by go_simp; exact ⟨rfl, Below.refl _ _⟩) ?_
      simp only [Act.put, List.setIfInBounds_toArray, List.set_cons_zero, List.set_cons_succ]
      refine wpZ_take 14 (.pointer (some ⟨c, 2, none⟩)) rfl rfl (by kernel_rfl) rfl (fun w1 h1 => by go_simp; exact ⟨rfl, Below.refl _ _⟩) ?_
      simp only [Act.put, List.setIfInBounds_toArray, List.set_cons_zero, List.set_cons_succ]
      refine wpZ_take 15 (.int .i64 (M 2)) rfl rfl (by kernel_rfl) rfl (fun w1 h1 => by have hc : w1.cell? ⟨c, 2, none⟩ = some (.int .i64 (g 2)) := (q.below h1 q0).cellIs (qfn_get _ (by omega)); rw [← m2.out] at hc; go_simp; exact ⟨rfl, Below.refl _ _⟩) ?_
      simp only [Act.put, List.setIfInBounds_toArray, List.set_cons_zero, List.set_cons_succ]
      refine wpZ_take 16 (.pointer (some ⟨w.heap.size, 2, none⟩)) rfl rfl (by kernel_rfl) rfl (fun w1 h1 => by go_simp; exact ⟨rfl, Below.refl _ _⟩) ?_
      simp only [Act.put, List.setIfInBounds_toArray, List.set_cons_zero, List.set_cons_succ]
      refine wpZ_one 17 rfl rfl (by kernel_rfl) [false, false] [true, false] rfl rfl (fun w2 h2 g2 K hK => ?_)
      have l : blk w2 w.heap.size (qfn (pre4 L 2)) 22 := g2.1
      have m : blk w2 (w.heap.size + 1) (qfn (pre4 M 2)) 22 := g2.2
      clear g2
      have fz : w2.frozen? ⟨w.heap.size, 2, none⟩ = false := l.free _
      have cz : w2.cell? ⟨w.heap.size, 2, none⟩ = some (.int .i64 (pre4 L 2 2)) := l.cellIs (qfn_get _ (by omega))
      go_simp
      have l3 : blk (w2.setCell ⟨w.heap.size, 2, none⟩ (.int .i64 (L 2))) w.heap.size (qfn (pre4 L 3)) 22 := l.set' (qfn_set (by omega) (by simp [pre4]) (by intro j hj hne; exact pre4_step hne))
      have m3 : blk (w2.setCell ⟨w.heap.size, 2, none⟩ (.int .i64 (L 2))) (w.heap.size + 1) (qfn (pre4 M 2)) 22 := m.setOther (by simp) _
      have b3 : Below w.heap.size w2 (w2.setCell ⟨w.heap.size, 2, none⟩ (.int .i64 (L 2))) := (Below.refl _ _).setCell (by simp) _
      refine hK _ _ b3 ⟨l3, m3⟩ ?_
      replace hB := hB.trans (h2.trans b3)
      have h23 := h2.trans b3
      clear hK K fz cz l m l3 m3 b3
      generalize w2.setCell ⟨w.heap.size, 2, none⟩ (.int .i64 (L 2)) = w3 at *
      refine wpZ_take 18 (.pointer (some ⟨w.heap.size + 1, 2, none⟩)) rfl rfl (by kernel_rfl) rfl (fun w1 h1 => by go_simp; exact ⟨rfl, Below.refl _ _⟩) ?_
      simp only [Act.put, List.setIfInBounds_toArray, List.set_cons_zero, List.set_cons_succ]
      refine wpZ_one 19 rfl rfl (by kernel_rfl) [true, false] [true, true] rfl rfl (fun w4 h4 g4 K hK => ?_)
      have l : blk w4 w.heap.size (qfn (pre4 L 3)) 22 := g4.1
      have m : blk w4 (w.heap.size + 1) (qfn (pre4 M 2)) 22 := g4.2
      clear g4
      have fz : w4.frozen? ⟨w.heap.size + 1, 2, none⟩ = false := m.free _
      have cz : w4.cell? ⟨w.heap.size + 1, 2, none⟩ = some (.int .i64 (pre4 M 2 2)) := m.cellIs (qfn_get _ (by omega))
      go_simp
      have m5 : blk (w4.setCell ⟨w.heap.size + 1, 2, none⟩ (.int .i64 (M 2))) (w.heap.size + 1) (qfn (pre4 M 3)) 22 := m.set' (qfn_set (by omega) (by simp [pre4]) (by intro j hj hne; exact pre4_step hne))
      have l5 : blk (w4.setCell ⟨w.heap.size + 1, 2, none⟩ (.int .i64 (M 2))) w.heap.size (qfn (pre4 L 3)) 22 := l.setOther (by simp) _
      have b5 : Below w.heap.size w4 (w4.setCell ⟨w.heap.size + 1, 2, none⟩ (.int .i64 (M 2))) := (Below.refl _ _).setCell (by simp) _
      refine hK _ _ b5 ⟨l5, m5⟩ ?_
      replace hB := hB.trans (h4.trans b5)
      have h25 := h23.trans (h4.trans b5)
      clear hK K fz cz l m l5 m5 b5
      generalize w4.setCell ⟨w.heap.size + 1, 2, none⟩ (.int .i64 (M 2)) = w5 at *
      refine wpZ_end (by kernel_rfl) [true, true] rfl (fun w6 h6 g6 => ?_)
      have l : blk w6 w.heap.size (qfn (pre4 L 3)) 22 := g6.1
      have m : blk w6 (w.heap.size + 1) (qfn (pre4 M 3)) 22 := g6.2
      clear g6
      have h26 := h25.trans h6
      replace hs := hs.below h26 hs0
      replace p := p.below h26 p0
      replace q := q.below h26 q0
      replace hB := hB.trans h6
      go_wp2_with (fail)
      go_roundg 1
      case rel => exact ⟨3, by omega, rfl, hs, p, q, l, m, hB⟩
      case measure => omega
    · go_upto_region 5 with (fail)
      refine wp_region_Z 20 w.heap.size [17, 19] (fun bs wx => blk wx w.heap.size (qfn (pre4 L (cond (bs.getD 0 false) 4 3))) 22 ∧ blk wx (w.heap.size + 1) (qfn (pre4 M (cond (bs.getD 1 false) 4 3))) 22) rfl (by kernel_rfl) hB.size (fun bs w1 w2 h hm => ⟨h.1.below hm h.1.lt, h.2.below hm h.2.lt⟩) ⟨l.drew, m.drew⟩ ?_
      replace hs := hs.drew
      replace p := p.drew
      replace q := q.drew
      replace hB : Below w.heap.size w wr.drew := hB.drew
      clear l m
      generalize wr.drew = wd at *
      refine wpZ_take 0 (.int .i64 3) rfl rfl (by kernel_rfl) rfl (fun w1 h1 => by go_simp; exact ⟨rfl, Below.refl _ _⟩) ?_
      simp only [Act.put, List.setIfInBounds_toArray, List.set_cons_zero, List.set_cons_succ]
      refine wpZ_take 1 (.int .i64 3) rfl rfl (by kernel_rfl) rfl (fun w1 h1 => by go_simp; exact ⟨rfl, Below.refl _ _⟩) ?_
      simp only [Act.put, List.setIfInBounds_toArray, List.set_cons_zero, List.set_cons_succ]
      refine wpZ_take 2 (.int .i64 0) rfl rfl (by kernel_rfl) rfl (fun w1 h1 => by go_simp; exact ⟨rfl, Below.refl _ _⟩) ?_
      simp only [Act.put, List.setIfInBounds_toArray, List.set_cons_zero, List.set_cons_succ]
      refine wpZ_take 3 (.int .i64 3) rfl rfl (by kernel_rfl) rfl (fun w1 h1 => by go_simp; exact ⟨rfl, Below.refl _ _⟩) ?_
      simp only [Act.put, List.setIfInBounds_toArray, List.set_cons_zero, List.set_cons_succ]
      refine wpZ_take 4 (.pointer (some ⟨s, 0, none⟩)) rfl rfl (by kernel_rfl) rfl (fun w1 h1 => by go_simp; exact ⟨rfl, Below.refl _ _⟩) ?_
      simp only [Act.put, List.setIfInBounds_toArray, List.set_cons_zero, List.set_cons_succ]
      refine wpZ_take 5 (.pointer (some ⟨s, 3, none⟩)) rfl rfl (by kernel_rfl) rfl (fun w1 h1 => by go_simp; exact ⟨rfl, Below.refl _ _⟩) ?_
      simp only [Act.put, List.setIfInBounds_toArray, List.set_cons_zero, List.set_cons_succ]
      refine wpZ_take 6 (.int .i64 (-1)) rfl rfl (by kernel_rfl) rfl (fun w1 h1 => by have hc : w1.cell? ⟨s, 3, none⟩ = some (.int .i64 (-1)) := (hs.below h1 hs0).cellIs sgn_0_3; go_simp; exact ⟨rfl, Below.refl _ _⟩) ?_
      simp only [Act.put, List.setIfInBounds_toArray, List.set_cons_zero, List.set_cons_succ]
      refine wpZ_take 7 (.int .i64 3) rfl rfl (by kernel_rfl) rfl (fun w1 h1 => by go_simp; exact ⟨rfl, Below.refl _ _⟩) ?_
      simp only [Act.put, List.setIfInBounds_toArray, List.set_cons_zero, List.set_cons_succ]
      refine wpZ_take 8 (.pointer (some ⟨b, 3, none⟩)) rfl rfl (by kernel_rfl) rfl (fun w1 h1 => by go_simp; exact ⟨rfl, Below.refl _ _⟩) ?_
      simp only [Act.put, List.setIfInBounds_toArray, List.set_cons_zero, List.set_cons_succ]
      refine wpZ_take 9 (.int .i64 (f 3)) rfl rfl (by kernel_rfl) rfl (fun w1 h1 => by have hc : w1.cell? ⟨b, 3, none⟩ = some (.int .i64 (f 3)) := (p.below h1 p0).cellIs (qfn_get _ (by omega)); go_simp; exact ⟨rfl, Below.refl _ _⟩) ?_
      simp only [Act.put, List.setIfInBounds_toArray, List.set_cons_zero, List.set_cons_succ]
      refine wpZ_take 10 (.int .i64 (L 3)) rfl rfl (by kernel_rfl) rfl (fun w1 h1 => by go_simp; exact ⟨by first | rfl | (rw [← hL3]; exact congrArg (fun z => Value.int IntKind.i64 (IntKind.i64.wrap z)) (by omega)), Below.refl _ _⟩) ?_
      simp only [Act.put, List.setIfInBounds_toArray, List.set_cons_zero, List.set_cons_succ]
      refine wpZ_take 11 (.int .i64 0) rfl rfl (by kernel_rfl) rfl (fun w1 h1 => by go_simp; exact ⟨rfl, Below.refl _ _⟩) ?_
      simp only [Act.put, List.setIfInBounds_toArray, List.set_cons_zero, List.set_cons_succ]
      refine wpZ_take 12 (.int .i64 3) rfl rfl (by kernel_rfl) rfl (fun w1 h1 => by go_simp; exact ⟨rfl, Below.refl _ _⟩) ?_
      simp only [Act.put, List.setIfInBounds_toArray, List.set_cons_zero, List.set_cons_succ]
      refine wpZ_take 13 (.int .i64 3) rfl rfl (by kernel_rfl) rfl (fun w1 h1 => by go_simp; exact ⟨rfl, Below.refl _ _⟩) ?_
      simp only [Act.put, List.setIfInBounds_toArray, List.set_cons_zero, List.set_cons_succ]
      refine wpZ_take 14 (.pointer (some ⟨c, 3, none⟩)) rfl rfl (by kernel_rfl) rfl (fun w1 h1 => by go_simp; exact ⟨rfl, Below.refl _ _⟩) ?_
      simp only [Act.put, List.setIfInBounds_toArray, List.set_cons_zero, List.set_cons_succ]
      refine wpZ_take 15 (.int .i64 (M 3)) rfl rfl (by kernel_rfl) rfl (fun w1 h1 => by have hc : w1.cell? ⟨c, 3, none⟩ = some (.int .i64 (g 3)) := (q.below h1 q0).cellIs (qfn_get _ (by omega)); rw [← m3.out] at hc; go_simp; exact ⟨rfl, Below.refl _ _⟩) ?_
      simp only [Act.put, List.setIfInBounds_toArray, List.set_cons_zero, List.set_cons_succ]
      refine wpZ_take 16 (.pointer (some ⟨w.heap.size, 3, none⟩)) rfl rfl (by kernel_rfl) rfl (fun w1 h1 => by go_simp; exact ⟨rfl, Below.refl _ _⟩) ?_
      simp only [Act.put, List.setIfInBounds_toArray, List.set_cons_zero, List.set_cons_succ]
      refine wpZ_one 17 rfl rfl (by kernel_rfl) [false, false] [true, false] rfl rfl (fun w2 h2 g2 K hK => ?_)
      have l : blk w2 w.heap.size (qfn (pre4 L 3)) 22 := g2.1
      have m : blk w2 (w.heap.size + 1) (qfn (pre4 M 3)) 22 := g2.2
      clear g2
      have fz : w2.frozen? ⟨w.heap.size, 3, none⟩ = false := l.free _
      have cz : w2.cell? ⟨w.heap.size, 3, none⟩ = some (.int .i64 (pre4 L 3 3)) := l.cellIs (qfn_get _ (by omega))
      go_simp
      have l3 : blk (w2.setCell ⟨w.heap.size, 3, none⟩ (.int .i64 (L 3))) w.heap.size (qfn (pre4 L 4)) 22 := l.set' (qfn_set (by omega) (by simp [pre4]) (by intro j hj hne; exact pre4_step hne))
      have m3 : blk (w2.setCell ⟨w.heap.size, 3, none⟩ (.int .i64 (L 3))) (w.heap.size + 1) (qfn (pre4 M 3)) 22 := m.setOther (by simp) _
      have b3 : Below w.heap.size w2 (w2.setCell ⟨w.heap.size, 3, none⟩ (.int .i64 (L 3))) := (Below.refl _ _).setCell (by simp) _
      refine hK _ _ b3 ⟨l3, m3⟩ ?_
      replace hB := hB.trans (h2.trans b3)
      have h23 := h2.trans b3
      clear hK K fz cz l m l3 m3 b3
      generalize w2.setCell ⟨w.heap.size, 3, none⟩ (.int .i64 (L 3)) = w3 at *
      refine wpZ_take 18 (.pointer (some ⟨w.heap.size + 1, 3, none⟩)) rfl rfl (by kernel_rfl) rfl (fun w1 h1 => by go_simp; exact ⟨rfl, Below.refl _ _⟩) ?_
      simp only [Act.put, List.setIfInBounds_toArray, List.set_cons_zero, List.set_cons_succ]
      refine wpZ_one 19 rfl rfl (by kernel_rfl) [true, false] [true, true] rfl rfl (fun w4 h4 g4 K hK => ?_)
      have l : blk w4 w.heap.size (qfn (pre4 L 4)) 22 := g4.1
      have m : blk w4 (w.heap.size + 1) (qfn (pre4 M 3)) 22 := g4.2
      clear g4
      have fz : w4.frozen? ⟨w.heap.size + 1, 3, none⟩ = false := m.free _
      have cz : w4.cell? ⟨w.heap.size + 1, 3, none⟩ = some (.int .i64 (pre4 M 3 3)) := m.cellIs (qfn_get _ (by omega))
      go_simp
      have m5 : blk (w4.setCell ⟨w.heap.size + 1, 3, none⟩ (.int .i64 (M 3))) (w.heap.size + 1) (qfn (pre4 M 4)) 22 := m.set' (qfn_set (by omega) (by simp [pre4]) (by intro j hj hne; exact pre4_step hne))
      have l5 : blk (w4.setCell ⟨w.heap.size + 1, 3, none⟩ (.int .i64 (M 3))) w.heap.size (qfn (pre4 L 4)) 22 := l.setOther (by simp) _
      have b5 : Below w.heap.size w4 (w4.setCell ⟨w.heap.size + 1, 3, none⟩ (.int .i64 (M 3))) := (Below.refl _ _).setCell (by simp) _
      refine hK _ _ b5 ⟨l5, m5⟩ ?_
      replace hB := hB.trans (h4.trans b5)
      have h25 := h23.trans (h4.trans b5)
      clear hK K fz cz l m l5 m5 b5
      generalize w4.setCell ⟨w.heap.size + 1, 3, none⟩ (.int .i64 (M 3)) = w5 at *
      refine wpZ_end (by kernel_rfl) [true, true] rfl (fun w6 h6 g6 => ?_)
      have l : blk w6 w.heap.size (qfn (pre4 L 4)) 22 := g6.1
      have m : blk w6 (w.heap.size + 1) (qfn (pre4 M 4)) 22 := g6.2
      clear g6
      have h26 := h25.trans h6
      replace hs := hs.below h26 hs0
      replace p := p.below h26 p0
      replace q := q.below h26 q0
      replace hB := hB.trans h6
      go_wp2_with (fail)
      go_roundg 0
      case rel => exact ⟨4, by omega, rfl, hs, p, q, l, m, hB⟩
      case measure => omega
    · have e4 : qfn (pre4 L 4) = qfn L := qfn_congr fun i hi => by simp [pre4, hi]
      have e5 : qfn (pre4 M 4) = qfn M := qfn_congr fun i hi => by simp [pre4, hi]
      rw [e4] at l
      rw [e5] at m
      go_upto_region 7 with (fail)
      refine wp_region_Y 99 7 rfl (by kernel_rfl) ?_
      replace l := l.drew
      replace m := m.drew
      replace hB : Below w.heap.size w wr.drew := hB.drew
      generalize wr.drew = wo at *
      refine wpY_takeB 0 (.slice (some ⟨w.heap.size, 0, none⟩) 4 4) rfl rfl (by kernel_rfl) (fun w1 => by go_simp; exact ⟨rfl, Below.refl _ _⟩) ?_
      simp only [Act.put, List.setIfInBounds_toArray, List.set_cons_zero, List.set_cons_succ]
      refine wpY_takeB 1 (.slice (some ⟨w.heap.size + 1, 0, none⟩) 4 4) rfl rfl (by kernel_rfl) (fun w1 => by go_simp; exact ⟨rfl, Below.refl _ _⟩) ?_
      simp only [Act.put, List.setIfInBounds_toArray, List.set_cons_zero, List.set_cons_succ]
      refine wpY_takeA 2 (.tuple #[.int .i64 X, .int .i64 0]) rfl rfl (by kernel_rfl) (by kernel_rfl) (fun w1 h1 => ?_) ?_
      · go_simp
        refine (D.out _ _ _ (l.below h1 l.lt) (m.below h1 m.lt)).mono ?_
        rintro e w2 ⟨rfl, h2⟩
        exact ⟨rfl, h2⟩
      simp only [Act.put, List.setIfInBounds_toArray, List.set_cons_zero, List.set_cons_succ]
      refine wpY_takeB 3 (.int .i64 X) rfl rfl (by kernel_rfl) (fun w1 => by go_simp; exact ⟨rfl, Below.refl _ _⟩) ?_
      simp only [Act.put, List.setIfInBounds_toArray, List.set_cons_zero, List.set_cons_succ]
      refine wpY_takeB 4 (.int .i64 0) rfl rfl (by kernel_rfl) (fun w1 => by go_simp; exact ⟨rfl, Below.refl _ _⟩) ?_
      simp only [Act.put, List.setIfInBounds_toArray, List.set_cons_zero, List.set_cons_succ]
      refine wpY_takeB 5 (.int .i64 X) rfl rfl (by kernel_rfl) (fun w1 => by go_simp; exact ⟨rfl, Below.refl _ _⟩) ?_
      simp only [Act.put, List.setIfInBounds_toArray, List.set_cons_zero, List.set_cons_succ]
      refine wpY_takeB 6 (.int .i64 0) rfl rfl (by kernel_rfl) (fun w1 => by go_simp; exact ⟨rfl, Below.refl _ _⟩) ?_
      simp only [Act.put, List.setIfInBounds_toArray, List.set_cons_zero, List.set_cons_succ]
      refine wpY_end (by kernel_rfl) (fun w3 h3 => ?_)
      replace hB := hB.trans (h3.mono hB.size)
      go_wp2_with (fail)
      go_ret2
      exact ⟨rfl, hB⟩
set_option maxRecDepth 100000 in
set_option maxHeartbeats 4000000 in
theorem qprC1 (f g L : Nat → Int) (s b c : Nat) (w : World) (hs : blk w s sgnA 151) (p : blk w b (qfn f) 23) (q : blk w c (qfn g) 23) (hL0 : IntKind.i64.wrap ((1) * f 0) = L 0) (hL1 : IntKind.i64.wrap ((1) * f 1) = L 1) (hL2 : IntKind.i64.wrap ((1) * f 2) = L 2) (hL3 : IntKind.i64.wrap ((-1) * f 3) = L 3) (X : Int)
    (D : Hid (∀ x y w, blk w x (qfn L) 22 → blk w y (qfn (prM g 1)) 22 → Calls Try.prog 112 #[.slice (some ⟨x, 0, none⟩) 4 4, .slice (some ⟨y, 0, none⟩) 4 4] w fun e w' => e = .returned (.tuple #[.int .i64 X, .int .i64 0]) ∧ Below w.heap.size w w')) :
    Calls Try.prog 116 #[.int .i64 1, .pointer (some ⟨s, 0, none⟩), .pointer (some ⟨b, 0, none⟩), .pointer (some ⟨c, 0, none⟩)] w fun e w' => e = .returned (.tuple #[.int .i64 X, .int .i64 0]) ∧ Below w.heap.size w w' := by
  obtain ⟨M, hM⟩ : ∃ M, M = prM g 1 := ⟨_, rfl⟩
  have m0 : Hid (M 0 = g 1) := by show _ = _; rw [hM]; rfl
  have m1 : Hid (M 1 = g 0) := by show _ = _; rw [hM]; rfl
  have m2 : Hid (M 2 = g 3) := by show _ = _; rw [hM]; rfl
  have m3 : Hid (M 3 = g 2) := by show _ = _; rw [hM]; rfl
  rw [← hM] at D
  clear hM
  go_enter Try.func116, Try.ntmps116
  go_upto_region 2 with (fail)
  rw [zero_quat]
  have hs0 := hs.lt
  have p0 := p.lt
  have q0 := q.lt
  replace hs := (hs.alloc (.cells (qfn fun _ => 0) 22)).alloc (.cells (qfn fun _ => 0) 22)
  replace p := (p.alloc (.cells (qfn fun _ => 0) 22)).alloc (.cells (qfn fun _ => 0) 22)
  replace q := (q.alloc (.cells (qfn fun _ => 0) 22)).alloc (.cells (qfn fun _ => 0) 22)
  have l : blk ((w.alloc (.cells (qfn fun _ => 0) 22)).alloc (.cells (qfn fun _ => 0) 22)) w.heap.size (qfn fun _ => 0) 22 := (blk.new _ _ _).alloc _
  have m : blk ((w.alloc (.cells (qfn fun _ => 0) 22)).alloc (.cells (qfn fun _ => 0) 22)) (w.heap.size + 1) (qfn fun _ => 0) 22 := blk.new' (by simp)
  have hB : Below w.heap.size w ((w.alloc (.cells (qfn fun _ => 0) 22)).alloc (.cells (qfn fun _ => 0) 22)) := by go_grown
  generalize (w.alloc (.cells (qfn fun _ => 0) 22)).alloc (.cells (qfn fun _ => 0) 22) = w0 at *
  go_wp2_with (fail)
  go_loopg [10] 4 (fun g_ iv wr => ∃ k : Nat, g_ + k = 4 ∧ iv = .int .i64 k ∧ blk wr s sgnA 151 ∧ blk wr b (qfn f) 23 ∧ blk wr c (qfn g) 23 ∧ blk wr w.heap.size (qfn (pre4 L k)) 22 ∧ blk wr (w.heap.size + 1) (qfn (pre4 M k)) 22 ∧ Below w.heap.size w wr)
  case atStart => exact ⟨0, rfl, rfl, hs, p, q, by rw [show qfn (pre4 L 0) = qfn (fun _ => 0) from qfn_congr fun i _ => by simp [pre4]]; exact l, by rw [show qfn (pre4 M 0) = qfn (fun _ => 0) from qfn_congr fun i _ => by simp [pre4]]; exact m, hB⟩
  case round =>
    clear hs p q l m hB
    obtain ⟨k, hk, rfl, hs, p, q, l, m, hB⟩ := hrel
    have hcase : k = 0 ∨ k = 1 ∨ k = 2 ∨ k = 3 ∨ k = 4 := by omega
    rcases hcase with rfl | rfl | rfl | rfl | rfl
    · go_upto_region 5 with (fail)
      refine wp_region_Z 20 w.heap.size [17, 19] (fun bs wx => blk wx w.heap.size (qfn (pre4 L (cond (bs.getD 0 false) 1 0))) 22 ∧ blk wx (w.heap.size + 1) (qfn (pre4 M (cond (bs.getD 1 false) 1 0))) 22) rfl (by kernel_rfl) hB.size (fun bs w1 w2 h hm => ⟨h.1.below hm h.1.lt, h.2.below hm h.2.lt⟩) ⟨l.drew, m.drew⟩ ?_
      replace hs := hs.drew
      replace p := p.drew
      replace q := q.drew
      replace hB : Below w.heap.size w wr.drew := hB.drew
      clear l m
      generalize wr.drew = wd at *
      refine wpZ_take 0 (.int .i64 0) rfl rfl (by kernel_rfl) rfl (fun w1 h1 => by go_simp; exact ⟨rfl, Below.refl _ _⟩) ?_
      simp only [Act.put, List.setIfInBounds_toArray, List.set_cons_zero, List.set_cons_succ]
      refine wpZ_take 1 (.int .i64 0) rfl rfl (by kernel_rfl) rfl (fun w1 h1 => by go_simp; exact ⟨rfl, Below.refl _ _⟩) ?_
      simp only [Act.put, List.setIfInBounds_toArray, List.set_cons_zero, List.set_cons_succ]
      refine wpZ_take 2 (.int .i64 1) rfl rfl (by kernel_rfl) rfl (fun w1 h1 => by go_simp; exact ⟨rfl, Below.refl _ _⟩) ?_
      simp only [Act.put, List.setIfInBounds_toArray, List.set_cons_zero, List.set_cons_succ]
      refine wpZ_take 3 (.int .i64 0) rfl rfl (by kernel_rfl) rfl (fun w1 h1 => by go_simp; exact ⟨rfl, Below.refl _ _⟩) ?_
      simp only [Act.put, List.setIfInBounds_toArray, List.set_cons_zero, List.set_cons_succ]
      refine wpZ_take 4 (.pointer (some ⟨s, 4, none⟩)) rfl rfl (by kernel_rfl) rfl (fun w1 h1 => by go_simp; exact ⟨rfl, Below.refl _ _⟩) ?_
      simp only [Act.put, List.setIfInBounds_toArray, List.set_cons_zero, List.set_cons_succ]
      refine wpZ_take 5 (.pointer (some ⟨s, 4, none⟩)) rfl rfl (by kernel_rfl) rfl (fun w1 h1 => by go_simp; exact ⟨rfl, Below.refl _ _⟩) ?_
      simp only [Act.put, List.setIfInBounds_toArray, List.set_cons_zero, List.set_cons_succ]
      refine wpZ_take 6 (.int .i64 (1)) rfl rfl (by kernel_rfl) rfl (fun w1 h1 => by have hc : w1.cell? ⟨s, 4, none⟩ = some (.int .i64 (1)) := (hs.below h1 hs0).cellIs sgn_1_0; go_simp; exact ⟨rfl, Below.refl _ _⟩) ?_
      simp only [Act.put, List.setIfInBounds_toArray, List.set_cons_zero, List.set_cons_succ]
      refine wpZ_take 7 (.int .i64 0) rfl rfl (by kernel_rfl) rfl (fun w1 h1 => by go_simp; exact ⟨rfl, Below.refl _ _⟩) ?_
      simp only [Act.put, List.setIfInBounds_toArray, List.set_cons_zero, List.set_cons_succ]
      refine wpZ_take 8 (.pointer (some ⟨b, 0, none⟩)) rfl rfl (by kernel_rfl) rfl (fun w1 h1 => by go_simp; exact ⟨rfl, Below.refl _ _⟩) ?_
      simp only [Act.put, List.setIfInBounds_toArray, List.set_cons_zero, List.set_cons_succ]
      refine wpZ_take 9 (.int .i64 (f 0)) rfl rfl (by kernel_rfl) rfl (fun w1 h1 => by have hc : w1.cell? ⟨b, 0, none⟩ = some (.int .i64 (f 0)) := (p.below h1 p0).cellIs (qfn_get _ (by omega)); go_simp; exact ⟨rfl, Below.refl _ _⟩) ?_
      simp only [Act.put, List.setIfInBounds_toArray, List.set_cons_zero, List.set_cons_succ]
      refine wpZ_take 10 (.int .i64 (L 0)) rfl rfl (by kernel_rfl) rfl (fun w1 h1 => by go_simp; exact ⟨by first | rfl | (rw [← hL0]; exact congrArg (fun z => Value.int IntKind.i64 (IntKind.i64.wrap z)) (by omega)), Below.refl _ _⟩) ?_
      simp only [Act.put, List.setIfInBounds_toArray, List.set_cons_zero, List.set_cons_succ]
      refine wpZ_take 11 (.int .i64 1) rfl rfl (by kernel_rfl) rfl (fun w1 h1 => by go_simp; exact ⟨rfl, Below.refl _ _⟩) ?_
      simp only [Act.put, List.setIfInBounds_toArray, List.set_cons_zero, List.set_cons_succ]
      refine wpZ_take 12 (.int .i64 0) rfl rfl (by kernel_rfl) rfl (fun w1 h1 => by go_simp; exact ⟨rfl, Below.refl _ _⟩) ?_
      simp only [Act.put, List.setIfInBounds_toArray, List.set_cons_zero, List.set_cons_succ]
      refine wpZ_take 13 (.int .i64 1) rfl rfl (by kernel_rfl) rfl (fun w1 h1 => by go_simp; exact ⟨rfl, Below.refl _ _⟩) ?_
      simp only [Act.put, List.setIfInBounds_toArray, List.set_cons_zero, List.set_cons_succ]
      refine wpZ_take 14 (.pointer (some ⟨c, 1, none⟩)) rfl rfl (by kernel_rfl) rfl (fun w1 h1 => by go_simp; exact ⟨rfl, Below.refl _ _⟩) ?_
      simp only [Act.put, List.setIfInBounds_toArray, List.set_cons_zero, List.set_cons_succ]
      refine wpZ_take 15 (.int .i64 (M 0)) rfl rfl (by kernel_rfl) rfl (fun w1 h1 => by have hc : w1.cell? ⟨c, 1, none⟩ = some (.int .i64 (g 1)) := (q.below h1 q0).cellIs (qfn_get _ (by omega)); rw [← m0.out] at hc; go_simp; exact ⟨rfl, Below.refl _ _⟩) ?_
      simp only [Act.put, List.setIfInBounds_toArray, List.set_cons_zero, List.set_cons_succ]
      refine wpZ_take 16 (.pointer (some ⟨w.heap.size, 0, none⟩)) rfl rfl (by kernel_rfl) rfl (fun w1 h1 => by go_simp; exact ⟨rfl, Below.refl _ _⟩) ?_
      simp only [Act.put, List.setIfInBounds_toArray, List.set_cons_zero, List.set_cons_succ]
      refine wpZ_one 17 rfl rfl (by kernel_rfl) [false, false] [true, false] rfl rfl (fun w2 h2 g2 K hK => ?_)
      have l : blk w2 w.heap.size (qfn (pre4 L 0)) 22 := g2.1
      have m : blk w2 (w.heap.size + 1) (qfn (pre4 M 0)) 22 := g2.2
      clear g2
      have fz : w2.frozen? ⟨w.heap.size, 0, none⟩ = false := l.free _
      have cz : w2.cell? ⟨w.heap.size, 0, none⟩ = some (.int .i64 (pre4 L 0 0)) := l.cellIs (qfn_get _ (by omega))
      go_simp
      have l3 : blk (w2.setCell ⟨w.heap.size, 0, none⟩ (.int .i64 (L 0))) w.heap.size (qfn (pre4 L 1)) 22 := l.set' (qfn_set (by omega) (by simp [pre4]) (by intro j hj hne; exact pre4_step hne))
      have m3 : blk (w2.setCell ⟨w.heap.size, 0, none⟩ (.int .i64 (L 0))) (w.heap.size + 1) (qfn (pre4 M 0)) 22 := m.setOther (by simp) _
      have b3 : Below w.heap.size w2 (w2.setCell ⟨w.heap.size, 0, none⟩ (.int .i64 (L 0))) := (Below.refl _ _).setCell (by simp) _
      refine hK _ _ b3 ⟨l3, m3⟩ ?_
      replace hB := hB.trans (h2.trans b3)
      have h23 := h2.trans b3
      clear hK K fz cz l m l3 m3 b3
      generalize w2.setCell ⟨w.heap.size, 0, none⟩ (.int .i64 (L 0)) = w3 at *
      refine wpZ_take 18 (.pointer (some ⟨w.heap.size + 1, 0, none⟩)) rfl rfl (by kernel_rfl) rfl (fun w1 h1 => by go_simp; exact ⟨rfl, Below.refl _ _⟩) ?_
      simp only [Act.put, List.setIfInBounds_toArray, List.set_cons_zero, List.set_cons_succ]
      refine wpZ_one 19 rfl rfl (by kernel_rfl) [true, false] [true, true] rfl rfl (fun w4 h4 g4 K hK => ?_)
      have l : blk w4 w.heap.size (qfn (pre4 L 1)) 22 := g4.1
      have m : blk w4 (w.heap.size + 1) (qfn (pre4 M 0)) 22 := g4.2
      clear g4
      have fz : w4.frozen? ⟨w.heap.size + 1, 0, none⟩ = false := m.free _
      have cz : w4.cell? ⟨w.heap.size + 1, 0, none⟩ = some (.int .i64 (pre4 M 0 0)) := m.cellIs (qfn_get _ (by omega))
      go_simp
      have m5 : blk (w4.setCell ⟨w.heap.size + 1, 0, none⟩ (.int .i64 (M 0))) (w.heap.size + 1) (qfn (pre4 M 1)) 22 := m.set' (qfn_set (by omega) (by simp [pre4]) (by intro j hj hne; exact pre4_step hne))
      have l5 : blk (w4.setCell ⟨w.heap.size + 1, 0, none⟩ (.int .i64 (M 0))) w.heap.size (qfn (pre4 L 1)) 22 := l.setOther (by simp) _
      have b5 : Below w.heap.size w4 (w4.setCell ⟨w.heap.size + 1, 0, none⟩ (.int .i64 (M 0))) := (Below.refl _ _).setCell (by simp) _
      refine hK _ _ b5 ⟨l5, m5⟩ ?_
      replace hB := hB.trans (h4.trans b5)
      have h25 := h23.trans (h4.trans b5)
      clear hK K fz cz l m l5 m5 b5
      generalize w4.setCell ⟨w.heap.size + 1, 0, none⟩ (.int .i64 (M 0)) = w5 at *
      refine wpZ_end (by kernel_rfl) [true, true] rfl (fun w6 h6 g6 => ?_)
      have l : blk w6 w.heap.size (qfn (pre4 L 1)) 22 := g6.1
      have m : blk w6 (w.heap.size + 1) (qfn (pre4 M 1)) 22 := g6.2
      clear g6
      have h26 := h25.trans h6
      replace hs := hs.below h26 hs0
      replace p := p.below h26 p0
      replace q := q.below h26 q0
      replace hB := hB.trans h6
      go_wp2_with (fail)
      go_roundg 3
      case rel => exact ⟨1, by omega, rfl, hs, p, q, l, m, hB⟩
      case measure => omega
    · go_upto_region 5 with (fail)
      refine wp_region_Z 20 w.heap.size [17, 19] (fun bs wx => blk wx w.heap.size (qfn (pre4 L (cond (bs.getD 0 false) 2 1))) 22 ∧ blk wx (w.heap.size + 1) (qfn (pre4 M (cond (bs.getD 1 false) 2 1))) 22) rfl (by kernel_rfl) hB.size (fun bs w1 w2 h hm => ⟨h.1.below hm h.1.lt, h.2.below hm h.2.lt⟩) ⟨l.drew, m.drew⟩ ?_
      replace hs := hs.drew
      replace p := p.drew
      replace q := q.drew
      replace hB : Below w.heap.size w wr.drew := hB.drew
      clear l m
      generalize wr.drew = wd at *
      refine wpZ_take 0 (.int .i64 1) rfl rfl (by kernel_rfl) rfl (fun w1 h1 => by go_simp; exact ⟨rfl, Below.refl _ _⟩) ?_
      simp only [Act.put, List.setIfInBounds_toArray, List.set_cons_zero, List.set_cons_succ]
      refine wpZ_take 1 (.int .i64 1) rfl rfl (by kernel_rfl) rfl (fun w1 h1 => by go_simp; exact ⟨rfl, Below.refl _ _⟩) ?_
      simp only [Act.put, List.setIfInBounds_toArray, List.set_cons_zero, List.set_cons_succ]
      refine wpZ_take 2 (.int .i64 1) rfl rfl (by kernel_rfl) rfl (fun w1 h1 => by go_simp; exact ⟨rfl, Below.refl _ _⟩) ?_
      simp only [Act.put, List.setIfInBounds_toArray, List.set_cons_zero, List.set_cons_succ]
      refine wpZ_take 3 (.int .i64 1) rfl rfl (by kernel_rfl) rfl (fun w1 h1 => by go_simp; exact ⟨rfl, Below.refl _ _⟩) ?_
      simp only [Act.put, List.setIfInBounds_toArray, List.set_cons_zero, List.set_cons_succ]
      refine wpZ_take 4 (.pointer (some ⟨s, 4, none⟩)) rfl rfl (by kernel_rfl) rfl (fun w1 h1 => by go_simp; exact ⟨rfl, Below.refl _ _⟩) ?_
      simp only [Act.put, List.setIfInBounds_toArray, List.set_cons_zero, List.set_cons_succ]
      refine wpZ_take 5 (.pointer (some ⟨s, 5, none⟩)) rfl rfl (by kernel_rfl) rfl (fun w1 h1 => by go_simp; exact ⟨rfl, Below.refl _ _⟩) ?_
      simp only [Act.put, List.setIfInBounds_toArray, List.set_cons_zero, List.set_cons_succ]
      refine wpZ_take 6 (.int .i64 (1)) rfl rfl (by kernel_rfl) rfl (fun w1 h1 => by have hc : w1.cell? ⟨s, 5, none⟩ = some (.int .i64 (1)) := (hs.below h1 hs0).cellIs sgn_1_1; go_simp; exact ⟨rfl, Below.refl _ _⟩) ?_
      simp only [Act.put, List.setIfInBounds_toArray, List.set_cons_zero, List.set_cons_succ]
      refine wpZ_take 7 (.int .i64 1) rfl rfl (by kernel_rfl) rfl (fun w1 h1 => by go_simp; exact ⟨rfl, Below.refl _ _⟩) ?_
      simp only [Act.put, List.setIfInBounds_toArray, List.set_cons_zero, List.set_cons_succ]
      refine wpZ_take 8 (.pointer (some ⟨b, 1, none⟩)) rfl rfl (by kernel_rfl) rfl (fun w1 h1 => by go_simp; exact ⟨rfl, Below.refl _ _⟩) ?_
      simp only [Act.put, List.setIfInBounds_toArray, List.set_cons_zero, List.set_cons_succ]
      refine wpZ_take 9 (.int .i64 (f 1)) rfl rfl (by kernel_rfl) rfl (fun w1 h1 => by have hc : w1.cell? ⟨b, 1, none⟩ = some (.int .i64 (f 1)) := (p.below h1 p0).cellIs (qfn_get _ (by omega)); go_simp; exact ⟨rfl, Below.refl _ _⟩) ?_
      simp only [Act.put, List.setIfInBounds_toArray, List.set_cons_zero, List.set_cons_succ]
      refine wpZ_take 10 (.int .i64 (L 1)) rfl rfl (by kernel_rfl) rfl (fun w1 h1 => by go_simp; exact ⟨by first | rfl | (rw [← hL1]; exact congrArg (fun z => Value.int IntKind.i64 (IntKind.i64.wrap z)) (by omega)), Below.refl _ _⟩) ?_
      simp only [Act.put, List.setIfInBounds_toArray, List.set_cons_zero, List.set_cons_succ]
      refine wpZ_take 11 (.int .i64 1) rfl rfl (by kernel_rfl) rfl (fun w1 h1 => by go_simp; exact ⟨rfl, Below.refl _ _⟩) ?_
      simp only [Act.put, List.setIfInBounds_toArray, List.set_cons_zero, List.set_cons_succ]
      refine wpZ_take 12 (.int .i64 1) rfl rfl (by kernel_rfl) rfl (fun w1 h1 => by go_simp; exact ⟨rfl, Below.refl _ _⟩) ?_
      simp only [Act.put, List.setIfInBounds_toArray, List.set_cons_zero, List.set_cons_succ]
      refine wpZ_take 13 (.int .i64 0) rfl rfl (by kernel_rfl) rfl (fun w1 h1 => by go_simp; exact ⟨rfl, Below.refl _ _⟩) ?_
      simp only [Act.put, List.setIfInBounds_toArray, List.set_cons_zero, List.set_cons_succ]
      refine wpZ_take 14 (.pointer (some ⟨c, 0, none⟩)) rfl rfl (by kernel_rfl) rfl (fun w1 h1 => by go_simp; exact ⟨rfl, Below.refl _ _⟩) ?_
      simp only [Act.put, List.setIfInBounds_toArray, List.set_cons_zero, List.set_cons_succ]
      refine wpZ_take 15 (.int .i64 (M 1)) rfl rfl (by kernel_rfl) rfl (fun w1 h1 => by have hc : w1.cell? ⟨c, 0, none⟩ = some (.int .i64 (g 0)) := (q.below h1 q0).cellIs (qfn_get _ (by omega)); rw [← m1.out] at hc; go_simp; exact ⟨rfl, Below.refl _ _⟩) ?_
      simp only [Act.put, List.setIfInBounds_toArray, List.set_cons_zero, List.set_cons_succ]
      refine wpZ_take 16 (.pointer (some ⟨w.heap.size, 1, none⟩)) rfl rfl (by kernel_rfl) rfl (fun w1 h1 => by go_simp; exact ⟨rfl, Below.refl _ _⟩) ?_
      simp only [Act.put, List.setIfInBounds_toArray, List.set_cons_zero, List.set_cons_succ]
      refine wpZ_one 17 rfl rfl (by kernel_rfl) [false, false] [true, false] rfl rfl (fun w2 h2 g2 K hK => ?_)
      have l : blk w2 w.heap.size (qfn (pre4 L 1)) 22 := g2.1
      have m : blk w2 (w.heap.size + 1) (qfn (pre4 M 1)) 22 := g2.2
      clear g2
      have fz : w2.frozen? ⟨w.heap.size, 1, none⟩ = false := l.free _
      have cz : w2.cell? ⟨w.heap.size, 1, none⟩ = some (.int .i64 (pre4 L 1 1)) := l.cellIs (qfn_get _ (by omega))
      go_simp
      have l3 : blk (w2.setCell ⟨w.heap.size, 1, none⟩ (.int .i64 (L 1))) w.heap.size (qfn (pre4 L 2)) 22 := l.set' (qfn_set (by omega) (by simp [pre4]) (by intro j hj hne; exact pre4_step hne))
      have m3 : blk (w2.setCell ⟨w.heap.size, 1, none⟩ (.int .i64 (L 1))) (w.heap.size + 1) (qfn (pre4 M 1)) 22 := m.setOther (by simp) _
      have b3 : Below w.heap.size w2 (w2.setCell ⟨w.heap.size, 1, none⟩ (.int .i64 (L 1))) := (Below.refl _ _).setCell (by simp) _
      refine hK _ _ b3 ⟨l3, m3⟩ ?_
      replace hB := hB.trans (h2.trans b3)
      have h23 := h2.trans b3
      clear hK K fz cz l m l3 m3 b3
      generalize w2.setCell ⟨w.heap.size, 1, none⟩ (.int .i64 (L 1)) = w3 at *
      refine wpZ_take 18 (.pointer (some ⟨w.heap.size + 1, 1, none⟩)) rfl rfl (by kernel_rfl) rfl (fun w1 h1 => by go_simp; exact ⟨rfl, Below.refl _ _⟩) ?_
      simp only [Act.put, List.setIfInBounds_toArray, List.set_cons_zero, List.set_cons_succ]
      refine wpZ_one 19 rfl rfl (by kernel_rfl) [true, false] [true, true] rfl rfl (fun w4 h4 g4 K hK => ?_)
      have l : blk w4 w.heap.size (qfn (pre4 L 2)) 22 := g4.1
      have m : blk w4 (w.heap.size + 1) (qfn (pre4 M 1)) 22 := g4.2
      clear g4
      have fz : w4.frozen? ⟨w.heap.size + 1, 1, none⟩ = false := m.free _
      have cz : w4.cell? ⟨w.heap.size + 1, 1, none⟩ = some (.int .i64 (pre4 M 1 1)) := m.cellIs (qfn_get _ (by omega))
      go_simp
      have m5 : blk (w4.setCell ⟨w.heap.size + 1, 1, none⟩ (.int .i64 (M 1))) (w.heap.size + 1) (qfn (pre4 M 2)) 22 := m.set' (qfn_set (by omega) (by simp [pre4]) (by intro j hj hne; exact pre4_step hne))
      have l5 : blk (w4.setCell ⟨w.heap.size + 1, 1, none⟩ (.int .i64 (M 1))) w.heap.size (qfn (pre4 L 2)) 22 := l.setOther (by simp) _
      have b5 : Below w.heap.size w4 (w4.setCell ⟨w.heap.size + 1, 1, none⟩ (.int .i64 (M 1))) := (Below.refl _ _).setCell (by simp) _
      refine hK _ _ b5 ⟨l5, m5⟩ ?_
      replace hB := hB.trans (h4.trans b5)
      have h25 := h23.trans (h4.trans b5)
      clear hK K fz cz l m l5 m5 b5
      generalize w4.setCell ⟨w.heap.size + 1, 1, none⟩ (.int .i64 (M 1)) = w5 at *
      refine wpZ_end (by kernel_rfl) [true, true] rfl (fun w6 h6 g6 => ?_)
      have l : blk w6 w.heap.size (qfn (pre4 L 2)) 22 := g6.1
      have m : blk w6 (w.heap.size + 1) (qfn (pre4 M 2)) 22 := g6.2
      clear g6
      have h26 := h25.trans h6
      replace hs := hs.below h26 hs0
      replace p := p.below h26 p0
      replace q := q.below h26 q0
      replace hB := hB.trans h6
      go_wp2_with (fail)
      go_roundg 2
      case rel => exact ⟨2, by omega, rfl, hs, p, q, l, m, hB⟩
      case measure => omega
    · go_upto_region 5 with (fail)
      refine wp_region_Z 20 w.heap.size [17, 19] (fun bs wx => blk wx w.heap.size (qfn (pre4 L (cond (bs.getD 0 false) 3 2))) 22 ∧ blk wx (w.heap.size + 1) (qfn (pre4 M (cond (bs.getD 1 false) 3 2))) 22) rfl (by kernel_rfl) hB.size (fun bs w1 w2 h hm => ⟨h.1.below hm h.1.lt, h.2.below hm h.2.lt⟩) ⟨l.drew, m.drew⟩ ?_
      replace hs := hs.drew
      replace p := p.drew
      replace q := q.drew
      replace hB : Below w.heap.size w wr.drew := hB.drew
      clear l m
      generalize wr.drew = wd at *
      refine wpZ_take 0 (.int .i64 2) rfl rfl (by kernel_rfl) rfl (fun w1 h1 => by go_simp; exact ⟨rfl, Below.refl _ _⟩) ?_
      simp only [Act.put, List.setIfInBounds_toArray, List.set_cons_zero, List.set_cons_succ]
      refine wpZ_take 1 (.int .i64 2) rfl rfl (by kernel_rfl) rfl (fun w1 h1 => by go_simp; exact ⟨rfl, Below.refl _ _⟩) ?_
      simp only [Act.put, List.setIfInBounds_toArray, List.set_cons_zero, List.set_cons_succ]
      refine wpZ_take 2 (.int .i64 1) rfl rfl (by kernel_rfl) rfl (fun w1 h1 => by go_simp; exact ⟨rfl, Below.refl _ _⟩) ?_
      simp only [Act.put, List.setIfInBounds_toArray, List.set_cons_zero, List.set_cons_succ]
      refine wpZ_take 3 (.int .i64 2) rfl rfl (by kernel_rfl) rfl (fun w1 h1 => by go_simp; exact ⟨rfl, Below.refl _ _⟩) ?_
      simp only [Act.put, List.setIfInBounds_toArray, List.set_cons_zero, List.set_cons_succ]
      refine wpZ_take 4 (.pointer (some ⟨s, 4, none⟩)) rfl rfl (by kernel_rfl) rfl (fun w1 h1 => by go_simp; exact ⟨rfl, Below.refl _ _⟩) ?_
      simp only [Act.put, List.setIfInBounds_toArray, List.set_cons_zero, List.set_cons_succ]
      refine wpZ_take 5 (.pointer (some ⟨s, 6, none⟩)) rfl rfl (by kernel_rfl) rfl (fun w1 h1 => by go_simp; exact ⟨rfl, Below.refl _ _⟩) ?_
      simp only [Act.put, List.setIfInBounds_toArray, List.set_cons_zero, List.set_cons_succ]
      refine wpZ_take 6 (.int .i64 (1)) rfl rfl (by kernel_rfl) rfl (fun w1 h1 => by have hc : w1.cell? ⟨s, 6, none⟩ = some (.int .i64 (1)) := (hs.below h1 hs0).cellIs sgn_1_2; go_simp; exact ⟨rfl, Below.refl _ _⟩) ?_
      simp only [Act.put, List.setIfInBounds_toArray, List.set_cons_zero, List.set_cons_succ]
      refine wpZ_take 7 (.int .i64 2) rfl rfl (by kernel_rfl) rfl (fun w1 h1 => by go_simp; exact ⟨rfl, Below.refl _ _⟩) ?_
      simp only [Act.put, List.setIfInBounds_toArray, List.set_cons_zero, List.set_cons_succ]
      refine wpZ_take 8 (.pointer (some ⟨b, 2, none⟩)) rfl rfl (by kernel_rfl) rfl (fun w1 h1 => by go_simp; exact ⟨rfl, Below.refl _ _⟩) ?_
      simp only [Act.put, List.setIfInBounds_toArray, List.set_cons_zero, List.set_cons_succ]
      refine wpZ_take 9 (.int .i64 (f 2)) rfl rfl (by kernel_rfl) rfl (fun w1 h1 => by have hc : w1.cell? ⟨b, 2, none⟩ = some (.int .i64 (f 2)) := (p.below h1 p0).cellIs (qfn_get _ (by omega)); go_simp; exact ⟨rfl, Below.refl _ _⟩) ?_
      simp only [Act.put, List.setIfInBounds_toArray, List.set_cons_zero, List.set_cons_succ]
      refine wpZ_take 10 (.int .i64 (L 2)) rfl rfl (by kernel_rfl) rfl (fun w1 h1 => by go_simp; exact ⟨by first | rfl | (rw [← hL2]; exact congrArg (fun z => Value.int IntKind.i64 (IntKind.i64.wrap z)) (by omega)), Below.refl _ _⟩) ?_
      simp only [Act.put, List.setIfInBounds_toArray, List.set_cons_zero, List.set_cons_succ]
      refine wpZ_take 11 (.int .i64 1) rfl rfl (by kernel_rfl) rfl (fun w1 h1 => by go_simp; exact ⟨rfl, Below.refl _ _⟩) ?_
      simp only [Act.put, List.setIfInBounds_toArray, List.set_cons_zero, List.set_cons_succ]
      refine wpZ_take 12 (.int .i64 2) rfl rfl (by kernel_rfl) rfl (fun w1 h1 => by go_simp; exact ⟨rfl, Below.refl _ _⟩) ?_
      simp only [Act.put, List.setIfInBounds_toArray, List.set_cons_zero, List.set_cons_succ]
      refine wpZ_take 13 (.int .i64 3) rfl rfl (by kernel_rfl) rfl (fun w1 h1 => by go_simp; exact ⟨rfl, Below.refl _ _⟩) ?_
      simp only [Act.put, List.setIfInBounds_toArray, List.set_cons_zero, List.set_cons_succ]
      refine wpZ_take 14 (.pointer (some ⟨c, 3, none⟩)) rfl rfl (by kernel_rfl) rfl (fun w1 h1 => by go_simp; exact ⟨rfl, Below.refl _ _⟩) ?_
      simp only [Act.put, List.setIfInBounds_toArray, List.set_cons_zero, List.set_cons_succ]
      refine wpZ_take 15 (.int .i64 (M 2)) rfl rfl (by kernel_rfl) rfl (fun w1 h1 => by have hc : w1.cell? ⟨c, 3, none⟩ = some (.int .i64 (g 3)) := (q.below h1 q0).cellIs (qfn_get _ (by omega)); rw [← m2.out] at hc; go_simp; exact ⟨rfl, Below.refl _ _⟩) ?_
      simp only [Act.put, List.setIfInBounds_toArray, List.set_cons_zero, List.set_cons_succ]
      refine wpZ_take 16 (.pointer (some ⟨w.heap.size, 2, none⟩)) rfl rfl (by kernel_rfl) rfl (fun w1 h1 => by go_simp; exact ⟨rfl, Below.refl _ _⟩) ?_
      simp only [Act.put, List.setIfInBounds_toArray, List.set_cons_zero, List.set_cons_succ]
      refine wpZ_one 17 rfl rfl (by kernel_rfl) [false, false] [true, false] rfl rfl (fun w2 h2 g2 K hK => ?_)
      have l : blk w2 w.heap.size (qfn (pre4 L 2)) 22 := g2.1
      have m : blk w2 (w.heap.size + 1) (qfn (pre4 M 2)) 22 := g2.2
      clear g2
      have fz : w2.frozen? ⟨w.heap.size, 2, none⟩ = false := l.free _
      have cz : w2.cell? ⟨w.heap.size, 2, none⟩ = some (.int .i64 (pre4 L 2 2)) := l.cellIs (qfn_get _ (by omega))
      go_simp
      have l3 : blk (w2.setCell ⟨w.heap.size, 2, none⟩ (.int .i64 (L 2))) w.heap.size (qfn (pre4 L 3)) 22 := l.set' (qfn_set (by omega) (by simp [pre4]) (by intro j hj hne; exact pre4_step hne))
      have m3 : blk (w2.setCell ⟨w.heap.size, 2, none⟩ (.int .i64 (L 2))) (w.heap.size + 1) (qfn (pre4 M 2)) 22 := m.setOther (by simp) _
      have b3 : Below w.heap.size w2 (w2.setCell ⟨w.heap.size, 2, none⟩ (.int .i64 (L 2))) := (Below.refl _ _).setCell (by simp) _
      refine hK _ _ b3 ⟨l3, m3⟩ ?_
      replace hB := hB.trans (h2.trans b3)
      have h23 := h2.trans b3
      clear hK K fz cz l m l3 m3 b3
      generalize w2.setCell ⟨w.heap.size, 2, none⟩ (.int .i64 (L 2)) = w3 at *
      refine wpZ_take 18 (.pointer (some ⟨w.heap.size + 1, 2, none⟩)) rfl rfl (by kernel_rfl) rfl (fun w1 h1 => by go_simp; exact ⟨rfl, Below.refl _ _⟩) ?_
      simp only [Act.put, List.setIfInBounds_toArray, List.set_cons_zero, List.set_cons_succ]
      refine wpZ_one 19 rfl rfl (by kernel_rfl) [true, false] [true, true] rfl rfl (fun w4 h4 g4 K hK => ?_)
      have l : blk w4 w.heap.size (qfn (pre4 L 3)) 22 := g4.1
      have m : blk w4 (w.heap.size + 1) (qfn (pre4 M 2)) 22 := g4.2
      clear g4
      have fz : w4.frozen? ⟨w.heap.size + 1, 2, none⟩ = false := m.free _
      have cz : w4.cell? ⟨w.heap.size + 1, 2, none⟩ = some (.int .i64 (pre4 M 2 2)) := m.cellIs (qfn_get _ (by omega))
      go_simp
      have m5 : blk (w4.setCell ⟨w.heap.size + 1, 2, none⟩ (.int .i64 (M 2))) (w.heap.size + 1) (qfn (pre4 M 3)) 22 := m.set' (qfn_set (by omega) (by simp [pre4]) (by intro j hj hne; exact pre4_step hne))
      have l5 : blk (w4.setCell ⟨w.heap.size + 1, 2, none⟩ (.int .i64 (M 2))) w.heap.size (qfn (pre4 L 3)) 22 := l.setOther (by simp) _
      have b5 : Below w.heap.size w4 (w4.setCell ⟨w.heap.size + 1, 2, none⟩ (.int .i64 (M 2))) := (Below.refl _ _).setCell (by simp) _
      refine hK _ _ b5 ⟨l5, m5⟩ ?_
      replace hB := hB.trans (h4.trans b5)
      have h25 := h23.trans (h4.trans b5)
      clear hK K fz cz l m l5 m5 b5
      generalize w4.setCell ⟨w.heap.size + 1, 2, none⟩ (.int .i64 (M 2)) = w5 at *
      refine wpZ_end (by kernel_rfl) [true, true] rfl (fun w6 h6 g6 => ?_)
      have l : blk w6 w.heap.size (qfn (pre4 L 3)) 22 := g6.1
      have m : blk w6 (w.heap.size + 1) (qfn (pre4 M 3)) 22 := g6.2
      clear g6
      have h26 := h25.trans h6
      replace hs := hs.below h26 hs0
      replace p := p.below h26 p0
      replace q := q.below h26 q0
      replace hB := hB.trans h6
      go_wp2_with (fail)
      go_roundg 1
      case rel => exact ⟨3, by omega, rfl, hs, p, q, l, m, hB⟩
      case measure => omega
    · go_upto_region 5 with (fail)
      refine wp_region_Z 20 w.heap.size [17, 19] (fun bs wx => blk wx w.heap.size (qfn (pre4 L (cond (bs.getD 0 false) 4 3))) 22 ∧ blk wx (w.heap.size + 1) (qfn (pre4 M (cond (bs.getD 1 false) 4 3))) 22) rfl (by kernel_rfl) hB.size (fun bs w1 w2 h hm => ⟨h.1.below hm h.1.lt, h.2.below hm h.2.lt⟩) ⟨l.drew, m.drew⟩ ?_
      replace hs := hs.drew
      replace p := p.drew
      replace q := q.drew
      replace hB : Below w.heap.size w wr.drew := hB.drew
      clear l m
      generalize wr.drew = wd at *
      refine wpZ_take 0 (.int .i64 3) rfl rfl (by kernel_rfl) rfl (fun w1 h1 => by go_simp; exact ⟨rfl, Below.refl _ _⟩) ?_
      simp only [Act.put, List.setIfInBounds_toArray, List.set_cons_zero, List.set_cons_succ]
      refine wpZ_take 1 (.int .i64 3) rfl rfl (by kernel_rfl) rfl (fun w1 h1 => by go_simp; exact ⟨rfl, Below.refl _ _⟩) ?_
      simp only [Act.put, List.setIfInBounds_toArray, List.set_cons_zero, List.set_cons_succ]
      refine wpZ_take 2 (.int .i64 1) rfl rfl (by kernel_rfl) rfl (fun w1 h1 => by go_simp; exact ⟨rfl, Below.refl _ _⟩) ?_
      simp only [Act.put, List.setIfInBounds_toArray, List.set_cons_zero, List.set_cons_succ]
      refine wpZ_take 3 (.int .i64 3) rfl rfl (by kernel_rfl) rfl (fun w1 h1 => by go_simp; exact ⟨rfl, Below.refl _ _⟩) ?_
      simp only [Act.put, List.setIfInBounds_toArray, List.set_cons_zero, List.set_cons_succ]
      refine wpZ_take 4 (.pointer (some ⟨s, 4, none⟩)) rfl rfl (by kernel_rfl) rfl (fun w1 h1 => by go_simp; exact ⟨rfl, Below.refl _ _⟩) ?_
      simp only [Act.put, List.setIfInBounds_toArray, List.set_cons_zero, List.set_cons_succ]
      refine wpZ_take 5 (.pointer (some ⟨s, 7, none⟩)) rfl rfl (by kernel_rfl) rfl (fun w1 h1 => by go_simp; exact ⟨rfl, Below.refl _ _⟩) ?_
      simp only [Act.put, List.setIfInBounds_toArray, List.set_cons_zero, List.set_cons_succ]
      refine wpZ_take 6 (.int .i64 (-1)) rfl rfl (by kernel_rfl) rfl (fun w1 h1 => by have hc : w1.cell? ⟨s, 7, none⟩ = some (.int .i64 (-1)) := (hs.below h1 hs0).cellIs sgn_1_3; go_simp; exact ⟨rfl, Below.refl _ _⟩) ?_
      simp only [Act.put, List.setIfInBounds_toArray, List.set_cons_zero, List.set_cons_succ]
      refine wpZ_take 7 (.int .i64 3) rfl rfl (by kernel_rfl) rfl (fun w1 h1 => by go_simp; exact ⟨rfl, Below.refl _ _⟩) ?_
      simp only [Act.put, List.setIfInBounds_toArray, List.set_cons_zero, List.set_cons_succ]
      refine wpZ_take 8 (.pointer (some ⟨b, 3, none⟩)) rfl rfl (by kernel_rfl) rfl (fun w1 h1 => by go_simp; exact ⟨rfl, Below.refl _ _⟩) ?_
      simp only [Act.put, List.setIfInBounds_toArray, List.set_cons_zero, List.set_cons_succ]
      refine wpZ_take 9 (.int .i64 (f 3)) rfl rfl (by kernel_rfl) rfl (fun w1 h1 => by have hc : w1.cell? ⟨b, 3, none⟩ = some (.int .i64 (f 3)) := (p.below h1 p0).cellIs (qfn_get _ (by omega)); go_simp; exact ⟨rfl, Below.refl _ _⟩) ?_
      simp only [Act.put, List.setIfInBounds_toArray, List.set_cons_zero, List.set_cons_succ]
      refine wpZ_take 10 (.int .i64 (L 3)) rfl rfl (by kernel_rfl) rfl (fun w1 h1 => by go_simp; exact ⟨by first | rfl | (rw [← hL3]; exact congrArg (fun z => Value.int IntKind.i64 (IntKind.i64.wrap z)) (by omega)), Below.refl _ _⟩) ?_
      simp only [Act.put, List.setIfInBounds_toArray, List.set_cons_zero, List.set_cons_succ]
      refine wpZ_take 11 (.int .i64 1) rfl rfl (by kernel_rfl) rfl (fun w1 h1 => by go_simp; exact ⟨rfl, Below.refl _ _⟩) ?_
      simp only [Act.put, List.setIfInBounds_toArray, List.set_cons_zero, List.set_cons_succ]
      refine wpZ_take 12 (.int .i64 3) rfl rfl (by kernel_rfl) rfl (fun w1 h1 => by go_simp; exact ⟨rfl, Below.refl _ _⟩) ?_
      simp only [Act.put, List.setIfInBounds_toArray, List.set_cons_zero, List.set_cons_succ]
      refine wpZ_take 13 (.int .i64 2) rfl rfl (by kernel_rfl) rfl (fun w1 h1 => by go_simp; exact ⟨rfl, Below.refl _ _⟩) ?_
      simp only [Act.put, List.setIfInBounds_toArray, List.set_cons_zero, List.set_cons_succ]
      refine wpZ_take 14 (.pointer (some ⟨c, 2, none⟩)) rfl rfl (by kernel_rfl) rfl (fun w1 h1 => by go_simp; exact ⟨rfl, Below.refl _ _⟩) ?_
      simp only [Act.put, List.setIfInBounds_toArray, List.set_cons_zero, List.set_cons_succ]
      refine wpZ_take 15 (.int .i64 (M 3)) rfl rfl (by kernel_rfl) rfl (fun w1 h1 => by have hc : w1.cell? ⟨c, 2, none⟩ = some (.int .i64 (g 2)) := (q.below h1 q0).cellIs (qfn_get _ (by omega)); rw [← m3.out] at hc; go_simp; exact ⟨rfl, Below.refl _ _⟩) ?_
      simp only [Act.put, List.setIfInBounds_toArray, List.set_cons_zero, List.set_cons_succ]
      refine wpZ_take 16 (.pointer (some ⟨w.heap.size, 3, none⟩)) rfl rfl (by kernel_rfl) rfl (fun w1 h1 => by go_simp; exact ⟨rfl, Below.refl _ _⟩) ?_
      simp only [Act.put, List.setIfInBounds_toArray, List.set_cons_zero, List.set_cons_succ]
      refine wpZ_one 17 rfl rfl (by kernel_rfl) [false, false] [true, false] rfl rfl (fun w2 h2 g2 K hK => ?_)
      have l : blk w2 w.heap.size (qfn (pre4 L 3)) 22 := g2.1
      have m : blk w2 (w.heap.size + 1) (qfn (pre4 M 3)) 22 := g2.2
      clear g2
      have fz : w2.frozen? ⟨w.heap.size, 3, none⟩ = false := l.free _
      have cz : w2.cell? ⟨w.heap.size, 3, none⟩ = some (.int .i64 (pre4 L 3 3)) := l.cellIs (qfn_get _ (by omega))
      go_simp
      have l3 : blk (w2.setCell ⟨w.heap.size, 3, none⟩ (.int .i64 (L 3))) w.heap.size (qfn (pre4 L 4)) 22 := l.set' (qfn_set (by omega) (by simp [pre4]) (by intro j hj hne; exact pre4_step hne))
      have m3 : blk (w2.setCell ⟨w.heap.size, 3, none⟩ (.int .i64 (L 3))) (w.heap.size + 1) (qfn (pre4 M 3)) 22 := m.setOther (by simp) _
      have b3 : Below w.heap.size w2 (w2.setCell ⟨w.heap.size, 3, none⟩ (.int .i64 (L 3))) := (Below.refl _ _).setCell (by simp) _
      refine hK _ _ b3 ⟨l3, m3⟩ ?_
      replace hB := hB.trans (h2.trans b3)
      have h23 := h2.trans b3
      clear hK K fz cz l m l3 m3 b3
      generalize w2.setCell ⟨w.heap.size, 3, none⟩ (.int .i64 (L 3)) = w3 at *
      refine wpZ_take 18 (.pointer (some ⟨w.heap.size + 1, 3, none⟩)) rfl rfl (by kernel_rfl) rfl (fun w1 h1 => by go_simp; exact ⟨rfl, Below.refl _ _⟩) ?_
      simp only [Act.put, List.setIfInBounds_toArray, List.set_cons_zero, List.set_cons_succ]
      refine wpZ_one 19 rfl rfl (by kernel_rfl) [true, false] [true, true] rfl rfl (fun w4 h4 g4 K hK => ?_)
      have l : blk w4 w.heap.size (qfn (pre4 L 4)) 22 := g4.1
      have m : blk w4 (w.heap.size + 1) (qfn (pre4 M 3)) 22 := g4.2
      clear g4
      have fz : w4.frozen? ⟨w.heap.size + 1, 3, none⟩ = false := m.free _
      have cz : w4.cell? ⟨w.heap.size + 1, 3, none⟩ = some (.int .i64 (pre4 M 3 3)) := m.cellIs (qfn_get _ (by omega))
      go_simp
      have m5 : blk (w4.setCell ⟨w.heap.size + 1, 3, none⟩ (.int .i64 (M 3))) (w.heap.size + 1) (qfn (pre4 M 4)) 22 := m.set' (qfn_set (by omega) (by simp [pre4]) (by intro j hj hne; exact pre4_step hne))
      have l5 : blk (w4.setCell ⟨w.heap.size + 1, 3, none⟩ (.int .i64 (M 3))) w.heap.size (qfn (pre4 L 4)) 22 := l.setOther (by simp) _
      have b5 : Below w.heap.size w4 (w4.setCell ⟨w.heap.size + 1, 3, none⟩ (.int .i64 (M 3))) := (Below.refl _ _).setCell (by simp) _
      refine hK _ _ b5 ⟨l5, m5⟩ ?_
      replace hB := hB.trans (h4.trans b5)
      have h25 := h23.trans (h4.trans b5)
      clear hK K fz cz l m l5 m5 b5
      generalize w4.setCell ⟨w.heap.size + 1, 3, none⟩ (.int .i64 (M 3)) = w5 at *
      refine wpZ_end (by kernel_rfl) [true, true] rfl (fun w6 h6 g6 => ?_)
      have l : blk w6 w.heap.size (qfn (pre4 L 4)) 22 := g6.1
      have m : blk w6 (w.heap.size + 1) (qfn (pre4 M 4)) 22 := g6.2
      clear g6
      have h26 := h25.trans h6
      replace hs := hs.below h26 hs0
      replace p := p.below h26 p0
      replace q := q.below h26 q0
      replace hB := hB.trans h6
      go_wp2_with (fail)
      go_roundg 0
      case rel => exact ⟨4, by omega, rfl, hs, p, q, l, m, hB⟩
      case measure => omega
    · have e4 : qfn (pre4 L 4) = qfn L := qfn_congr fun i hi => by simp [pre4, hi]
      have e5 : qfn (pre4 M 4) = qfn M := qfn_congr fun i hi => by simp [pre4, hi]
      rw [e4] at l
      rw [e5] at m
      go_upto_region 7 with (fail)
      refine wp_region_Y 99 7 rfl (by kernel_rfl) ?_
      replace l := l.drew
      replace m := m.drew
      replace hB : Below w.heap.size w wr.drew := hB.drew
      generalize wr.drew = wo at *
      refine wpY_takeB 0 (.slice (some ⟨w.heap.size, 0, none⟩) 4 4) rfl rfl (by kernel_rfl) (fun w1 => by go_simp; exact ⟨rfl, Below.refl _ _⟩) ?_
      simp only [Act.put, List.setIfInBounds_toArray, List.set_cons_zero, List.set_cons_succ]
      refine wpY_takeB 1 (.slice (some ⟨w.heap.size + 1, 0, none⟩) 4 4) rfl rfl (by kernel_rfl) (fun w1 => by go_simp; exact ⟨rfl, Below.refl _ _⟩) ?_
      simp only [Act.put, List.setIfInBounds_toArray, List.set_cons_zero, List.set_cons_succ]
      refine wpY_takeA 2 (.tuple #[.int .i64 X, .int .i64 0]) rfl rfl (by kernel_rfl) (by kernel_rfl) (fun w1 h1 => ?_) ?_
      · go_simp
        refine (D.out _ _ _ (l.below h1 l.lt) (m.below h1 m.lt)).mono ?_
        rintro e w2 ⟨rfl, h2⟩
        exact ⟨rfl, h2⟩
      simp only [Act.put, List.setIfInBounds_toArray, List.set_cons_zero, List.set_cons_succ]
      refine wpY_takeB 3 (.int .i64 X) rfl rfl (by kernel_rfl) (fun w1 => by go_simp; exact ⟨rfl, Below.refl _ _⟩) ?_
      simp only [Act.put, List.setIfInBounds_toArray, List.set_cons_zero, List.set_cons_succ]
      refine wpY_takeB 4 (.int .i64 0) rfl rfl (by kernel_rfl) (fun w1 => by go_simp; exact ⟨rfl, Below.refl _ _⟩) ?_
      simp only [Act.put, List.setIfInBounds_toArray, List.set_cons_zero, List.set_cons_succ]
      refine wpY_takeB 5 (.int .i64 X) rfl rfl (by kernel_rfl) (fun w1 => by go_simp; exact ⟨rfl, Below.refl _ _⟩) ?_
      simp only [Act.put, List.setIfInBounds_toArray, List.set_cons_zero, List.set_cons_succ]
      refine wpY_takeB 6 (.int .i64 0) rfl rfl (by kernel_rfl) (fun w1 => by go_simp; exact ⟨rfl, Below.refl _ _⟩) ?_
      simp only [Act.put, List.setIfInBounds_toArray, List.set_cons_zero, List.set_cons_succ]
      refine wpY_end (by kernel_rfl) (fun w3 h3 => ?_)
      replace hB := hB.trans (h3.mono hB.size)
      go_wp2_with (fail)
      go_ret2
      exact ⟨rfl, hB⟩
set_option maxRecDepth 100000 in
set_option maxHeartbeats 4000000 in
theorem qprC2 (f g L : Nat → Int) (s b c : Nat) (w : World) (hs : blk w s sgnA 151) (p : blk w b (qfn f) 23) (q : blk w c (qfn g) 23) (hL0 : IntKind.i64.wrap ((1) * f 0) = L 0) (hL1 : IntKind.i64.wrap ((-1) * f 1) = L 1) (hL2 : IntKind.i64.wrap ((1) * f 2) = L 2) (hL3 : IntKind.i64.wrap ((1) * f 3) = L 3) (X : Int)
    (D : Hid (∀ x y w, blk w x (qfn L) 22 → blk w y (qfn (prM g 2)) 22 → Calls Try.prog 112 #[.slice (some ⟨x, 0, none⟩) 4 4, .slice (some ⟨y, 0, none⟩) 4 4] w fun e w' => e = .returned (.tuple #[.int .i64 X, .int .i64 0]) ∧ Below w.heap.size w w')) :
    Calls Try.prog 116 #[.int .i64 2, .pointer (some ⟨s, 0, none⟩), .pointer (some ⟨b, 0, none⟩), .pointer (some ⟨c, 0, none⟩)] w fun e w' => e = .returned (.tuple #[.int .i64 X, .int .i64 0]) ∧ Below w.heap.size w w' := by
  obtain ⟨M, hM⟩ : ∃ M, M = prM g 2 := ⟨_, rfl⟩
  have m0 : Hid (M 0 = g 2) := by show _ = _; rw [hM]; rfl
  have m1 : Hid (M 1 = g 3) := by show _ = _; rw [hM]; rfl
  have m2 : Hid (M 2 = g 0) := by show _ = _; rw [hM]; rfl
  have m3 : Hid (M 3 = g 1) := by show _ = _; rw [hM]; rfl
  rw [← hM] at D
  clear hM
  go_enter Try.func116, Try.ntmps116
  go_upto_region 2 with (fail)
  rw [zero_quat]
  have hs0 := hs.lt
  have p0 := p.lt
  have q0 := q.lt
  replace hs := (hs.alloc (.cells (qfn fun _ => 0) 22)).alloc (.cells (qfn fun _ => 0) 22)
  replace p := (p.alloc (.cells (qfn fun _ => 0) 22)).alloc (.cells (qfn fun _ => 0) 22)
  replace q := (q.alloc (.cells (qfn fun _ => 0) 22)).alloc (.cells (qfn fun _ => 0) 22)
  have l : blk ((w.alloc (.cells (qfn fun _ => 0) 22)).alloc (.cells (qfn fun _ => 0) 22)) w.heap.size (qfn fun _ => 0) 22 := (blk.new _ _ _).alloc _
  have m : blk ((w.alloc (.cells (qfn fun _ => 0) 22)).alloc (.cells (qfn fun _ => 0) 22)) (w.heap.size + 1) (qfn fun _ => 0) 22 := blk.new' (by simp)
  have hB : Below w.heap.size w ((w.alloc (.cells (qfn fun _ => 0) 22)).alloc (.cells (qfn fun _ => 0) 22)) := by go_grown
  generalize (w.alloc (.cells (qfn fun _ => 0) 22)).alloc (.cells (qfn fun _ => 0) 22) = w0 at *
  go_wp2_with (fail)
  go_loopg [10] 4 (fun g_ iv wr => ∃ k : Nat, g_ + k = 4 ∧ iv = .int .i64 k ∧ blk wr s sgnA 151 ∧ blk wr b (qfn f) 23 ∧ blk wr c (qfn g) 23 ∧ blk wr w.heap.size (qfn (pre4 L k)) 22 ∧ blk wr (w.heap.size + 1) (qfn (pre4 M k)) 22 ∧ Below w.heap.size w wr)
  case atStart => exact ⟨0, rfl, rfl, hs, p, q, by rw [show qfn (pre4 L 0) = qfn (fun _ => 0) from qfn_congr fun i _ => by simp [pre4]]; exact l, by rw [show qfn (pre4 M 0) = qfn (fun _ => 0) from qfn_congr fun i _ => by simp [pre4]]; exact m, hB⟩
  case round =>
    clear hs p q l m hB
    obtain ⟨k, hk, rfl, hs, p, q, l, m, hB⟩ := hrel
    have hcase : k = 0 ∨ k = 1 ∨ k = 2 ∨ k = 3 ∨ k = 4 := by omega
    rcases hcase with rfl | rfl | rfl | rfl | rfl
    · go_upto_region 5 with (fail)
      refine wp_region_Z 20 w.heap.size [17, 19] (fun bs wx => blk wx w.heap.size (qfn (pre4 L (cond (bs.getD 0 false) 1 0))) 22 ∧ blk wx (w.heap.size + 1) (qfn (pre4 M (cond (bs.getD 1 false) 1 0))) 22) rfl (by kernel_rfl) hB.size (fun bs w1 w2 h hm => ⟨h.1.below hm h.1.lt, h.2.below hm h.2.lt⟩) ⟨l.drew, m.drew⟩ ?_
      replace hs := hs.drew
      replace p := p.drew
      replace q := q.drew
      replace hB : Below w.heap.size w wr.drew := hB.drew
      clear l m
      generalize wr.drew = wd at *
      refine wpZ_take 0 (.int .i64 0) rfl rfl (by kernel_rfl) rfl (fun w1 h1 => by go_simp; exact ⟨rfl, Below.refl _ _⟩) ?_
      simp only [Act.put, List.setIfInBounds_toArray, List.set_cons_zero, List.set_cons_succ]
      refine wpZ_take 1 (.int .i64 0) rfl rfl (by kernel_rfl) rfl (fun w1 h1 => by go_simp; exact ⟨rfl, Below.refl _ _⟩) ?_
      simp only [Act.put, List.setIfInBounds_toArray, List.set_cons_zero, List.set_cons_succ]
      refine wpZ_take 2 (.int .i64 2) rfl rfl (by kernel_rfl) rfl (fun w1 h1 => by go_simp; exact ⟨rfl, Below.refl _ _⟩) ?_
      simp only [Act.put, List.setIfInBounds_toArray, List.set_cons_zero, List.set_cons_succ]
      refine wpZ_take 3 (.int .i64 0) rfl rfl (by kernel_rfl) rfl (fun w1 h1 => by go_simp; exact ⟨rfl, Below.refl _ _⟩) ?_
      simp only [Act.put, List.setIfInBounds_toArray, List.set_cons_zero, List.set_cons_succ]
      refine wpZ_take 4 (.pointer (some ⟨s, 8, none⟩)) rfl rfl (by kernel_rfl) rfl (fun w1 h1 => by go_simp; exact ⟨rfl, Below.refl _ _⟩) ?_
      simp only [Act.put, List.setIfInBounds_toArray, List.set_cons_zero, List.set_cons_succ]
      refine wpZ_take 5 (.pointer (some ⟨s, 8, none⟩)) rfl rfl (by kernel_rfl) rfl (fun w1 h1 => by go_simp; exact ⟨rfl, Below.refl _ _⟩) ?_
      simp only [Act.put, List.setIfInBounds_toArray, List.set_cons_zero, List.set_cons_succ]
      refine wpZ_take 6 (.int .i64 (1)) rfl rfl (by kernel_rfl) rfl (fun w1 h1 => by have hc : w1.cell? ⟨s, 8, none⟩ = some (.int .i64 (1)) := (hs.below h1 hs0).cellIs sgn_2_0; go_simp; exact ⟨rfl, Below.refl _ _⟩) ?_
      simp only [Act.put, List.setIfInBounds_toArray, List.set_cons_zero, List.set_cons_succ]
      refine wpZ_take 7 (.int .i64 0) rfl rfl (by kernel_rfl) rfl (fun w1 h1 => by go_simp; exact ⟨rfl, Below.refl _ _⟩) ?_
      simp only [Act.put, List.setIfInBounds_toArray, List.set_cons_zero, List.set_cons_succ]
      refine wpZ_take 8 (.pointer (some ⟨b, 0, none⟩)) rfl rfl (by kernel_rfl) rfl (fun w1 h1 => by go_simp; exact ⟨rfl, Below.refl _ _⟩) ?_
      simp only [Act.put, List.setIfInBounds_toArray, List.set_cons_zero, List.set_cons_succ]
      refine wpZ_take 9 (.int .i64 (f 0)) rfl rfl (by kernel_rfl) rfl (fun w1 h1 => by have hc : w1.cell? ⟨b, 0, none⟩ = some (.int .i64 (f 0)) := (p.below h1 p0).cellIs (qfn_get _ (by omega)); go_simp; exact ⟨rfl, Below.refl _ _⟩) ?_
      simp only [Act.put, List.setIfInBounds_toArray, List.set_cons_zero, List.set_cons_succ]
      refine wpZ_take 10 (.int .i64 (L 0)) rfl rfl (by kernel_rfl) rfl (fun w1 h1 => by go_simp; exact ⟨by first | rfl | (rw [← hL0]; exact congrArg (fun z => Value.int IntKind.i64 (IntKind.i64.wrap z)) (by omega)), Below.refl _ _⟩) ?_
      simp only [Act.put, List.setIfInBounds_toArray, List.set_cons_zero, List.set_cons_succ]
      refine wpZ_take 11 (.int .i64 2) rfl rfl (by kernel_rfl) rfl (fun w1 h1 => by go_simp; exact ⟨rfl, Below.refl _ _⟩) ?_
      simp only [Act.put, List.setIfInBounds_toArray, List.set_cons_zero, List.set_cons_succ]
      refine wpZ_take 12 (.int .i64 0) rfl rfl (by kernel_rfl) rfl (fun w1 h1 => by go_simp; exact ⟨rfl, Below.refl _ _⟩) ?_
      simp only [Act.put, List.setIfInBounds_toArray, List.set_cons_zero, List.set_cons_succ]
      refine wpZ_take 13 (.int .i64 2) rfl rfl (by kernel_rfl) rfl (fun w1 h1 => by go_simp; exact ⟨rfl, Below.refl _ _⟩) ?_
      simp only [Act.put, List.setIfInBounds_toArray, List.set_cons_zero, List.set_cons_succ]
      refine wpZ_take 14 (.pointer (some ⟨c, 2, none⟩)) rfl rfl (by kernel_rfl) rfl (fun w1 h1 => by go_simp; exact ⟨rfl, Below.refl _ _⟩) ?_
      simp only [Act.put, List.setIfInBounds_toArray, List.set_cons_zero, List.set_cons_succ]
      refine wpZ_take 15 (.int .i64 (M 0)) rfl rfl (by kernel_rfl) rfl (fun w1 h1 => by have hc : w1.cell? ⟨c, 2, none⟩ = some (.int .i64 (g 2)) := (q.below h1 q0).cellIs (qfn_get _ (by omega)); rw [← m0.out] at hc; go_simp; exact ⟨rfl, Below.refl _ _⟩) ?_
      simp only [Act.put, List.setIfInBounds_toArray, List.set_cons_zero, List.set_cons_succ]
      refine wpZ_take 16 (.pointer (some ⟨w.heap.size, 0, none⟩)) rfl rfl (by kernel_rfl) rfl (fun w1 h1 => by go_simp; exact ⟨rfl, Below.refl _ _⟩) ?_
      simp only [Act.put, List.setIfInBounds_toArray, List.set_cons_zero, List.set_cons_succ]
      refine wpZ_one 17 rfl rfl (by kernel_rfl) [false, false] [true, false] rfl rfl (fun w2 h2 g2 K hK => ?_)
      have l : blk w2 w.heap.size (qfn (pre4 L 0)) 22 := g2.1
      have m : blk w2 (w.heap.size + 1) (qfn (pre4 M 0)) 22 := g2.2
      clear g2
      have fz : w2.frozen? ⟨w.heap.size, 0, none⟩ = false := l.free _
      have cz : w2.cell? ⟨w.heap.size, 0, none⟩ = some (.int .i64 (pre4 L 0 0)) := l.cellIs (qfn_get _ (by omega))
      go_simp
      have l3 : blk (w2.setCell ⟨w.heap.size, 0, none⟩ (.int .i64 (L 0))) w.heap.size (qfn (pre4 L 1)) 22 := l.set' (qfn_set (by omega) (by simp [pre4]) (by intro j hj hne; exact pre4_step hne))
      have m3 : blk (w2.setCell ⟨w.heap.size, 0, none⟩ (.int .i64 (L 0))) (w.heap.size + 1) (qfn (pre4 M 0)) 22 := m.setOther (by simp) _
      have b3 : Below w.heap.size w2 (w2.setCell ⟨w.heap.size, 0, none⟩ (.int .i64 (L 0))) := (Below.refl _ _).setCell (by simp) _
      refine hK _ _ b3 ⟨l3, m3⟩ ?_
      replace hB := hB.trans (h2.trans b3)
      have h23 := h2.trans b3
      clear hK K fz cz l m l3 m3 b3
      generalize w2.setCell ⟨w.heap.size, 0, none⟩ (.int .i64 (L 0)) = w3 at *
      refine wpZ_take 18 (.pointer (some ⟨w.heap.size + 1, 0, none⟩)) rfl rfl (by kernel_rfl) rfl (fun w1 h1 => by go_simp; exact ⟨rfl, Below.refl _ _⟩) ?_
      simp only [Act.put, List.setIfInBounds_toArray, List.set_cons_zero, List.set_cons_succ]
      refine wpZ_one 19 rfl rfl (by kernel_rfl) [true, false] [true, true] rfl rfl (fun w4 h4 g4 K hK => ?_)
      have l : blk w4 w.heap.size (qfn (pre4 L 1)) 22 := g4.1
      have m : blk w4 (w.heap.size + 1) (qfn (pre4 M 0)) 22 := g4.2
      clear g4
      have fz : w4.frozen? ⟨w.heap.size + 1, 0, none⟩ = false := m.free _
      have cz : w4.cell? ⟨w.heap.size + 1, 0, none⟩ = some (.int .i64 (pre4 M 0 0)) := m.cellIs (qfn_get _ (by omega))
      go_simp
      have m5 : blk (w4.setCell ⟨w.heap.size + 1, 0, none⟩ (.int .i64 (M 0))) (w.heap.size + 1) (qfn (pre4 M 1)) 22 := m.set' (qfn_set (by omega) (by simp [pre4]) (by intro j hj hne; exact pre4_step hne))
      have l5 : blk (w4.setCell ⟨w.heap.size + 1, 0, none⟩ (.int .i64 (M 0))) w.heap.size (qfn (pre4 L 1)) 22 := l.setOther (by simp) _
      have b5 : Below w.heap.size w4 (w4.setCell ⟨w.heap.size + 1, 0, none⟩ (.int .i64 (M 0))) := (Below.refl _ _).setCell (by simp) _
      refine hK _ _ b5 ⟨l5, m5⟩ ?_
      replace hB := hB.trans (h4.trans b5)
      have h25 := h23.trans (h4.trans b5)
      clear hK K fz cz l m l5 m5 b5
      generalize w4.setCell ⟨w.heap.size + 1, 0, none⟩ (.int .i64 (M 0)) = w5 at *
      refine wpZ_end (by kernel_rfl) [true, true] rfl (fun w6 h6 g6 => ?_)
      have l : blk w6 w.heap.size (qfn (pre4 L 1)) 22 := g6.1
      have m : blk w6 (w.heap.size + 1) (qfn (pre4 M 1)) 22 := g6.2
      clear g6
      have h26 := h25.trans h6
      replace hs := hs.below h26 hs0
      replace p := p.below h26 p0
      replace q := q.below h26 q0
      replace hB := hB.trans h6
      go_wp2_with (fail)
      go_roundg 3
      case rel => exact ⟨1, by omega, rfl, hs, p, q, l, m, hB⟩
      case measure => omega
    · go_upto_region 5 with (fail)
      refine wp_region_Z 20 w.heap.size [17, 19] (fun bs wx => blk wx w.heap.size (qfn (pre4 L (cond (bs.getD 0 false) 2 1))) 22 ∧ blk wx (w.heap.size + 1) (qfn (pre4 M (cond (bs.getD 1 false) 2 1))) 22) rfl (by kernel_rfl) hB.size (fun bs w1 w2 h hm => ⟨h.1.below hm h.1.lt, h.2.below hm h.2.lt⟩) ⟨l.drew, m.drew⟩ ?_
      replace hs := hs.drew
      replace p := p.drew
      replace q := q.drew
      replace hB : Below w.heap.size w wr.drew := hB.drew
      clear l m
      generalize wr.drew = wd at *
      refine wpZ_take 0 (.int .i64 1) rfl rfl (by kernel_rfl) rfl (fun w1 h1 => by go_simp; exact ⟨rfl, Below.refl _ _⟩) ?_
      simp only [Act.put, List.setIfInBounds_toArray, List.set_cons_zero, List.set_cons_succ]
      refine wpZ_take 1 (.int .i64 1) rfl rfl (by kernel_rfl) rfl (fun w1 h1 => by go_simp; exact ⟨rfl, Below.refl _ _⟩) ?_
      simp only [Act.put, List.setIfInBounds_toArray, List.set_cons_zero, List.set_cons_succ]
      refine wpZ_take 2 (.int .i64 2) rfl rfl (by kernel_rfl) rfl (fun w1 h1 => by go_simp; exact ⟨rfl, Below.refl _ _⟩) ?_
      simp only [Act.put, List.setIfInBounds_toArray, List.set_cons_zero, List.set_cons_succ]
      refine wpZ_take 3 (.int .i64 1) rfl rfl (by kernel_rfl) rfl (fun w1 h1 => by go_simp; exact ⟨rfl, Below.refl _ _⟩) ?_
      simp only [Act.put, List.setIfInBounds_toArray, List.set_cons_zero, List.set_cons_succ]
      refine wpZ_take 4 (.pointer (some ⟨s, 8, none⟩)) rfl rfl (by kernel_rfl) rfl (fun w1 h1 => by go_simp; exact ⟨rfl, Below.refl _ _⟩) ?_
      simp only [Act.put, List.setIfInBounds_toArray, List.set_cons_zero, List.set_cons_succ]
      refine wpZ_take 5 (.pointer (some ⟨s, 9, none⟩)) rfl rfl (by kernel_rfl) rfl (fun w1 h1 => by go_simp; exact ⟨rfl, Below.refl _ _⟩) ?_
      simp only [Act.put, List.setIfInBounds_toArray, List.set_cons_zero, List.set_cons_succ]
      refine wpZ_take 6 (.int .i64 (-1)) rfl rfl (by kernel_rfl) rfl (fun w1 h1 => by have hc : w1.cell? ⟨s, 9, none⟩ = some (.int .i64 (-1)) := (hs.below h1 hs0).cellIs sgn_2_1; go_simp; exact ⟨rfl, Below.refl _ _⟩) ?_
      simp only [Act.put, List.setIfInBounds_toArray, List.set_cons_zero, List.set_cons_succ]
      refine wpZ_take 7 (.int .i64 1) rfl rfl (by kernel_rfl) rfl (fun w1 h1 => by go_simp; exact ⟨rfl, Below.refl _ _⟩) ?_
      simp only [Act.put, List.setIfInBounds_toArray, List.set_cons_zero, List.set_cons_succ]
      refine wpZ_take 8 (.pointer (some ⟨b, 1, none⟩)) rfl rfl (by kernel_rfl) rfl (fun w1 h1 => by go_simp; exact ⟨rfl, Below.refl _ _⟩) ?_
      simp only [Act.put, List.setIfInBounds_toArray, List.set_cons_zero, List.set_cons_succ]
      refine wpZ_take 9 (.int .i64 (f 1)) rfl rfl (by kernel_rfl) rfl (fun w1 h1 => by have hc : w1.cell? ⟨b, 1, none⟩ = some (.int .i64 (f 1)) := (p.below h1 p0).cellIs (qfn_get _ (by omega)); go_simp; exact ⟨rfl, Below.refl _ _⟩) ?_
      simp only [Act.put, List.setIfInBounds_toArray, List.set_cons_zero, List.set_cons_succ]
      refine wpZ_take 10 (.int .i64 (L 1)) rfl rfl (by kernel_rfl) rfl (fun w1 h1 => by go_simp; exact ⟨by first | rfl | (rw [← hL1]; exact congrArg (fun z => Value.int IntKind.i64 (IntKind.i64.wrap z)) (by omega)), Below.refl _ _⟩) ?_
      simp only [Act.put, List.setIfInBounds_toArray, List.set_cons_zero, List.set_cons_succ]
      refine wpZ_take 11 (.int .i64 2) rfl rfl (by kernel_rfl) rfl (fun w1 h1 => by go_simp; exact ⟨rfl, Below.refl _ _⟩) ?_
      simp only [Act.put, List.setIfInBounds_toArray, List.set_cons_zero, List.set_cons_succ]
      refine wpZ_take 12 (.int .i64 1) rfl rfl (by kernel_rfl) rfl (fun w1 h1 => by go_simp; exact ⟨rfl, Below.refl _ _⟩) ?_
      simp only [Act.put, List.setIfInBounds_toArray, List.set_cons_zero, List.set_cons_succ]
      refine wpZ_take 13 (.int .i64 3) rfl rfl (by kernel_rfl) rfl (fun w1 h1 => by go_simp; exact ⟨rfl, Below.refl _ _⟩) ?_
      simp only [Act.put, List.setIfInBounds_toArray, List.set_cons_zero, List.set_cons_succ]
      refine wpZ_take 14 (.pointer (some ⟨c, 3, none⟩)) rfl rfl (by kernel_rfl) rfl (fun w1 h1 => by go_simp; exact ⟨rfl, Below.refl _ _⟩) ?_
      simp only [Act.put, List.setIfInBounds_toArray, List.set_cons_zero, List.set_cons_succ]
      refine wpZ_take 15 (.int .i64 (M 1)) rfl rfl (by kernel_rfl) rfl (fun w1 h1 => by have hc : w1.cell? ⟨c, 3, none⟩ = some (.int .i64 (g 3)) := (q.below h1 q0).cellIs (qfn_get _ (by omega)); rw [← m1.out] at hc; go_simp; exact ⟨rfl, Below.refl _ _⟩) ?_
      simp only [Act.put, List.setIfInBounds_toArray, List.set_cons_zero, List.set_cons_succ]
      refine wpZ_take 16 (.pointer (some ⟨w.heap.size, 1, none⟩)) rfl rfl (by kernel_rfl) rfl (fun w1 h1 => by go_simp; exact ⟨rfl, Below.refl _ _⟩) ?_
      simp only [Act.put, List.setIfInBounds_toArray, List.set_cons_zero, List.set_cons_succ]
      refine wpZ_one 17 rfl rfl (by kernel_rfl) [false, false] [true, false] rfl rfl (fun w2 h2 g2 K hK => ?_)
      have l : blk w2 w.heap.size (qfn (pre4 L 1)) 22 := g2.1
      have m : blk w2 (w.heap.size + 1) (qfn (pre4 M 1)) 22 := g2.2
      clear g2
      have fz : w2.frozen? ⟨w.heap.size, 1, none⟩ = false := l.free _
      have cz : w2.cell? ⟨w.heap.size, 1, none⟩ = some (.int .i64 (pre4 L 1 1)) := l.cellIs (qfn_get _ (by omega))
      go_simp
      have l3 : blk (w2.setCell ⟨w.heap.size, 1, none⟩ (.int .i64 (L 1))) w.heap.size (qfn (pre4 L 2)) 22 := l.set' (qfn_set (by omega) (by simp [pre4]) (by intro j hj hne; exact pre4_step hne))
      have m3 : blk (w2.setCell ⟨w.heap.size, 1, none⟩ (.int .i64 (L 1))) (w.heap.size + 1) (qfn (pre4 M 1)) 22 := m.setOther (by simp) _
      have b3 : Below w.heap.size w2 (w2.setCell ⟨w.heap.size, 1, none⟩ (.int .i64 (L 1))) := (Below.refl _ _).setCell (by simp) _
      refine hK _ _ b3 ⟨l3, m3⟩ ?_
      replace hB := hB.trans (h2.trans b3)
      have h23 := h2.trans b3
      clear hK K fz cz l m l3 m3 b3
      generalize w2.setCell ⟨w.heap.size, 1, none⟩ (.int .i64 (L 1)) = w3 at *
      refine wpZ_take 18 (.pointer (some ⟨w.heap.size + 1, 1, none⟩)) rfl rfl (by kernel_rfl) rfl (fun w1 h1 => by go_simp; exact ⟨rfl, Below.refl _ _⟩) ?_
      simp only [Act.put, List.setIfInBounds_toArray, List.set_cons_zero, List.set_cons_succ]
      refine wpZ_one 19 rfl rfl (by kernel_rfl) [true, false] [true, true] rfl rfl (fun w4 h4 g4 K hK => ?_)
      have l : blk w4 w.heap.size (qfn (pre4 L 2)) 22 := g4.1
      have m : blk w4 (w.heap.size + 1) (qfn (pre4 M 1)) 22 := g4.2
      clear g4
      have fz : w4.frozen? ⟨w.heap.size + 1, 1, none⟩ = false := m.free _
      have cz : w4.cell? ⟨w.heap.size + 1, 1, none⟩ = some (.int .i64 (pre4 M 1 1)) := m.cellIs (qfn_get _ (by omega))
      go_simp
      have m5 : blk (w4.setCell ⟨w.heap.size + 1, 1, none⟩ (.int .i64 (M 1))) (w.heap.size + 1) (qfn (pre4 M 2)) 22 := m.set' (qfn_set (by omega) (by simp [pre4]) (by intro j hj hne; exact pre4_step hne))
      have l5 : blk (w4.setCell ⟨w.heap.size + 1, 1, none⟩ (.int .i64 (M 1))) w.heap.size (qfn (pre4 L 2)) 22 := l.setOther (by simp) _
      have b5 : Below w.heap.size w4 (w4.setCell ⟨w.heap.size + 1, 1, none⟩ (.int .i64 (M 1))) := (Below.refl _ _).setCell (by simp) _
      refine hK _ _ b5 ⟨l5, m5⟩ ?_
      replace hB := hB.trans (h4.trans b5)
      have h25 := h23.trans (h4.trans b5)
      clear hK K fz cz l m l5 m5 b5
      generalize w4.setCell ⟨w.heap.size + 1, 1, none⟩ (.int .i64 (M 1)) = w5 at *
      refine wpZ_end (by kernel_rfl) [true, true] rfl (fun w6 h6 g6 => ?_)
      have l : blk w6 w.heap.size (qfn (pre4 L 2)) 22 := g6.1
      have m : blk w6 (w.heap.size + 1) (qfn (pre4 M 2)) 22 := g6.2
      clear g6
      have h26 := h25.trans h6
      replace hs := hs.below h26 hs0
      replace p := p.below h26 p0
      replace q := q.below h26 q0
      replace hB := hB.trans h6
      go_wp2_with (fail)
      go_roundg 2
      case rel => exact ⟨2, by omega, rfl, hs, p, q, l, m, hB⟩
      case measure => omega
    · go_upto_region 5 with (fail)
      refine wp_region_Z 20 w.heap.size [17, 19] (fun bs wx => blk wx w.heap.size (qfn (pre4 L (cond (bs.getD 0 false) 3 2))) 22 ∧ blk wx (w.heap.size + 1) (qfn (pre4 M (cond (bs.getD 1 false) 3 2))) 22) rfl (by kernel_rfl) hB.size (fun bs w1 w2 h hm => ⟨h.1.below hm h.1.lt, h.2.below hm h.2.lt⟩) ⟨l.drew, m.drew⟩ ?_
      replace hs := hs.drew
      replace p := p.drew
      replace q := q.drew
      replace hB : Below w.heap.size w wr.drew := hB.drew
      clear l m
      generalize wr.drew = wd at *
      refine wpZ_take 0 (.int .i64 2) rfl rfl (by kernel_rfl) rfl (fun w1 h1 => by go_simp; exact ⟨rfl, Below.refl _ _⟩) ?_
      simp only [Act.put, List.setIfInBounds_toArray, List.set_cons_zero, List.set_cons_succ]
      refine wpZ_take 1 (.int .i64 2) rfl rfl (by kernel_rfl) rfl (fun w1 h1 => by go_simp; exact ⟨rfl, Below.refl _ _⟩) ?_
      simp only [Act.put, List.setIfInBounds_toArray, List.set_cons_zero, List.set_cons_succ]
      refine wpZ_take 2 (.int .i64 2) rfl rfl (by kernel_rfl) rfl (fun w1 h1 => by go_simp; exact ⟨rfl, Below.refl _ _⟩) ?_
      simp only [Act.put, List.setIfInBounds_toArray, List.set_cons_zero, List.set_cons_succ]
      refine wpZ_take 3 (.int .i64 2) rfl rfl (by kernel_rfl) rfl (fun w1 h1 => by go_simp; exact ⟨rfl, Below.refl _ _⟩) ?_
      simp only [Act.put, List.setIfInBounds_toArray, List.set_cons_zero, List.set_cons_succ]
      refine wpZ_take 4 (.pointer (some ⟨s, 8, none⟩)) rfl rfl (by kernel_rfl) rfl (fun w1 h1 => by go_simp; exact ⟨rfl, Below.refl _ _⟩) ?_
      simp only [Act.put, List.setIfInBounds_toArray, List.set_cons_zero, List.set_cons_succ]
      refine wpZ_take 5 (.pointer (some ⟨s, 10, none⟩)) rfl rfl (by kernel_rfl) rfl (fun w1 h1 => by go_simp; exact ⟨rfl, Below.refl _ _⟩) ?_
      simp only [Act.put, List.setIfInBounds_toArray, List.set_cons_zero, List.set_cons_succ]
      refine wpZ_take 6 (.int .i64 (1)) rfl rfl (by kernel_rfl) rfl (fun w1 h1 => by have hc : w1.cell? ⟨s, 10, none⟩ = some (.int .i64 (1)) := (hs.below h1 hs0).cellIs sgn_2_2; go_simp; exact ⟨rfl, Below.refl _ _⟩) ?_
      simp only [Act.put, List.setIfInBounds_toArray, List.set_cons_zero, List.set_cons_succ]
      refine wpZ_take 7 (.int .i64 2) rfl rfl (by kernel_rfl) rfl (fun w1 h1 => by go_simp; exact ⟨rfl, Below.refl _ _⟩) ?_
      simp only [Act.put, List.setIfInBounds_toArray, List.set_cons_zero, List.set_cons_succ]
      refine wpZ_take 8 (.pointer (some ⟨b, 2, none⟩)) rfl rfl (by kernel_rfl) rfl (fun w1 h1 => by go_simp; exact ⟨rfl, Below.refl _ _⟩) ?_
      simp only [Act.put, List.setIfInBounds_toArray, List.set_cons_zero, List.set_cons_succ]
      refine wpZ_take 9 (.int .i64 (f 2)) rfl rfl (by kernel_rfl) rfl (fun w1 h1 => by have hc : w1.cell? ⟨b, 2, none⟩ = some (.int .i64 (f 2)) := (p.below h1 p0).cellIs (qfn_get _ (by omega)); go_simp; exact ⟨rfl, Below.refl _ _⟩) ?_
      simp only [Act.put, List.setIfInBounds_toArray, List.set_cons_zero, List.set_cons_succ]
      refine wpZ_take 10 (.int .i64 (L 2)) rfl rfl (by kernel_rfl) rfl (fun w1 h1 => by go_simp; exact ⟨by first | rfl | (rw [← hL2]; exact congrArg (fun z => Value.int IntKind.i64 (IntKind.i64.wrap z)) (by omega)), Below.refl _ _⟩) ?_
      simp only [Act.put, List.setIfInBounds_toArray, List.set_cons_zero, List.set_cons_succ]
      refine wpZ_take 11 (.int .i64 2) rfl rfl (by kernel_rfl) rfl (fun w1 h1 => by go_simp; exact ⟨rfl, Below.refl _ _⟩) ?_
      simp only [Act.put, List.setIfInBounds_toArray, List.set_cons_zero, List.set_cons_succ]
      refine wpZ_take 12 (.int .i64 2) rfl rfl (by kernel_rfl) rfl (fun w1 h1 => by go_simp; exact ⟨rfl, Below.refl _ _⟩) ?_
      simp only [Act.put, List.setIfInBounds_toArray, List.set_cons_zero, List.set_cons_succ]
      refine wpZ_take 13 (.int .i64 0) rfl rfl (by kernel_rfl) rfl (fun w1 h1 => by go_simp; exact ⟨rfl, Below.refl _ _⟩) ?_
      simp only [Act.put, List.setIfInBounds_toArray, List.set_cons_zero, List.set_cons_succ]
      refine wpZ_take 14 (.pointer (some ⟨c, 0, none⟩)) rfl rfl (by kernel_rfl) rfl (fun w1 h1 => by go_simp; exact ⟨rfl, Below.refl _ _⟩) ?_
      simp only [Act.put, List.setIfInBounds_toArray, List.set_cons_zero, List.set_cons_succ]
      refine wpZ_take 15 (.int .i64 (M 2)) rfl rfl (by kernel_rfl) rfl (fun w1 h1 => by have hc : w1.cell? ⟨c, 0, none⟩ = some (.int .i64 (g 0)) := (q.below h1 q0).cellIs (qfn_get _ (by omega)); rw [← m2.out] at hc; go_simp; exact ⟨rfl, Below.refl _ _⟩) ?_
      simp only [Act.put, List.setIfInBounds_toArray, List.set_cons_zero, List.set_cons_succ]
      refine wpZ_take 16 (.pointer (some ⟨w.heap.size, 2, none⟩)) rfl rfl (by kernel_rfl) rfl (fun w1 h1 => by go_simp; exact ⟨rfl, Below.refl _ _⟩) ?_
      simp only [Act.put, List.setIfInBounds_toArray, List.set_cons_zero, List.set_cons_succ]
      refine wpZ_one 17 rfl rfl (by kernel_rfl) [false, false] [true, false] rfl rfl (fun w2 h2 g2 K hK => ?_)
      have l : blk w2 w.heap.size (qfn (pre4 L 2)) 22 := g2.1
      have m : blk w2 (w.heap.size + 1) (qfn (pre4 M 2)) 22 := g2.2
      clear g2
      have fz : w2.frozen? ⟨w.heap.size, 2, none⟩ = false := l.free _
      have cz : w2.cell? ⟨w.heap.size, 2, none⟩ = some (.int .i64 (pre4 L 2 2)) := l.cellIs (qfn_get _ (by omega))
      go_simp
      have l3 : blk (w2.setCell ⟨w.heap.size, 2, none⟩ (.int .i64 (L 2))) w.heap.size (qfn (pre4 L 3)) 22 := l.set' (qfn_set (by omega) (by simp [pre4]) (by intro j hj hne; exact pre4_step hne))
      have m3 : blk (w2.setCell ⟨w.heap.size, 2, none⟩ (.int .i64 (L 2))) (w.heap.size + 1) (qfn (pre4 M 2)) 22 := m.setOther (by simp) _
      have b3 : Below w.heap.size w2 (w2.setCell ⟨w.heap.size, 2, none⟩ (.int .i64 (L 2))) := (Below.refl _ _).setCell (by simp) _
      refine hK _ _ b3 ⟨l3, m3⟩ ?_
      replace hB := hB.trans (h2.trans b3)
      have h23 := h2.trans b3
      clear hK K fz cz l m l3 m3 b3
      generalize w2.setCell ⟨w.heap.size, 2, none⟩ (.int .i64 (L 2)) = w3 at *
      refine wpZ_take 18 (.pointer (some ⟨w.heap.size + 1, 2, none⟩)) rfl rfl (by kernel_rfl) rfl (fun w1 h1 => by go_simp; exact ⟨rfl, Below.refl _ _⟩) ?_
      simp only [Act.put, List.setIfInBounds_toArray, List.set_cons_zero, List.set_cons_succ]
      refine wpZ_one 19 rfl rfl (by kernel_rfl) [true, false] [true, true] rfl rfl (fun w4 h4 g4 K hK => ?_)
      have l : blk w4 w.heap.size (qfn (pre4 L 3)) 22 := g4.1
      have m : blk w4 (w.heap.size + 1) (qfn (pre4 M 2)) 22 := g4.2
      clear g4
      have fz : w4.frozen? ⟨w.heap.size + 1, 2, none⟩ = false := m.free _
      have cz : w4.cell? ⟨w.heap.size + 1, 2, none⟩ = some (.int .i64 (pre4 M 2 2)) := m.cellIs (qfn_get _ (by omega))
      go_simp
      have m5 : blk (w4.setCell ⟨w.heap.size + 1, 2, none⟩ (.int .i64 (M 2))) (w.heap.size + 1) (qfn (pre4 M 3)) 22 := m.set' (qfn_set (by omega) (by simp [pre4]) (by intro j hj hne; exact pre4_step hne))
      have l5 : blk (w4.setCell ⟨w.heap.size + 1, 2, none⟩ (.int .i64 (M 2))) w.heap.size (qfn (pre4 L 3)) 22 := l.setOther (by simp) _
      have b5 : Below w.heap.size w4 (w4.setCell ⟨w.heap.size + 1, 2, none⟩ (.int .i64 (M 2))) := (Below.refl _ _).setCell (by simp) _
      refine hK _ _ b5 ⟨l5, m5⟩ ?_
      replace hB := hB.trans (h4.trans b5)
      have h25 := h23.trans (h4.trans b5)
      clear hK K fz cz l m l5 m5 b5
      generalize w4.setCell ⟨w.heap.size + 1, 2, none⟩ (.int .i64 (M 2)) = w5 at *
      refine wpZ_end (by kernel_rfl) [true, true] rfl (fun w6 h6 g6 => ?_)
      have l : blk w6 w.heap.size (qfn (pre4 L 3)) 22 := g6.1
      have m : blk w6 (w.heap.size + 1) (qfn (pre4 M 3)) 22 := g6.2
      clear g6
      have h26 := h25.trans h6
      replace hs := hs.below h26 hs0
      replace p := p.below h26 p0
      replace q := q.below h26 q0
      replace hB := hB.trans h6
      go_wp2_with (fail)
      go_roundg 1
      case rel => exact ⟨3, by omega, rfl, hs, p, q, l, m, hB⟩
      case measure => omega
    · go_upto_region 5 with (fail)
      refine wp_region_Z 20 w.heap.size [17, 19] (fun bs wx => blk wx w.heap.size (qfn (pre4 L (cond (bs.getD 0 false) 4 3))) 22 ∧ blk wx (w.heap.size + 1) (qfn (pre4 M (cond (bs.getD 1 false) 4 3))) 22) rfl (by kernel_rfl) hB.size (fun bs w1 w2 h hm => ⟨h.1.below hm h.1.lt, h.2.below hm h.2.lt⟩) ⟨l.drew, m.drew⟩ ?_
      replace hs := hs.drew
      replace p := p.drew
      replace q := q.drew
      replace hB : Below w.heap.size w wr.drew := hB.drew
      clear l m
      generalize wr.drew = wd at *
      refine wpZ_take 0 (.int .i64 3) rfl rfl (by kernel_rfl) rfl (fun w1 h1 => by go_simp; exact ⟨rfl, Below.refl _ _⟩) ?_
      simp only [Act.put, List.setIfInBounds_toArray, List.set_cons_zero, List.set_cons_succ]
      refine wpZ_take 1 (.int .i64 3) rfl rfl (by kernel_rfl) rfl (fun w1 h1 => by go_simp; exact ⟨rfl, Below.refl _ _⟩) ?_
      simp only [Act.put, List.setIfInBounds_toArray, List.set_cons_zero, List.set_cons_succ]
      refine wpZ_take 2 (.int .i64 2) rfl rfl (by kernel_rfl) rfl (fun w1 h1 => by go_simp; exact ⟨rfl, Below.refl _ _⟩) ?_
      simp only [Act.put, List.setIfInBounds_toArray, List.set_cons_zero, List.set_cons_succ]
      refine wpZ_take 3 (.int .i64 3) rfl rfl (by kernel_rfl) rfl (fun w1 h1 => by go_simp; exact ⟨rfl, Below.refl _ _⟩) ?_
      simp only [Act.put, List.setIfInBounds_toArray, List.set_cons_zero, List.set_cons_succ]
      refine wpZ_take 4 (.pointer (some ⟨s, 8, none⟩)) rfl rfl (by kernel_rfl) rfl (fun w1 h1 => by go_simp; exact ⟨rfl, Below.refl _ _⟩) ?_
      simp only [Act.put, List.setIfInBounds_toArray, List.set_cons_zero, List.set_cons_succ]
      refine wpZ_take 5 (.pointer (some ⟨s, 11, none⟩)) rfl rfl (by kernel_rfl) rfl (fun w1 h1 => by go_simp; exact ⟨rfl, Below.refl _ _⟩) ?_
      simp only [Act.put, List.setIfInBounds_toArray, List.set_cons_zero, List.set_cons_succ]
      refine wpZ_take 6 (.int .i64 (1)) rfl rfl (by kernel_rfl) rfl (fun w1 h1 => by have hc : w1.cell? ⟨s, 11, none⟩ = some (.int .i64 (1)) := (hs.below h1 hs0).cellIs sgn_2_3; go_simp; exact ⟨rfl, Below.refl _ _⟩) ?_
      simp only [Act.put, List.setIfInBounds_toArray, List.set_cons_zero, List.set_cons_succ]
      refine wpZ_take 7 (.int .i64 3) rfl rfl (by kernel_rfl) rfl (fun w1 h1 => by go_simp; exact ⟨rfl, Below.refl _ _⟩) ?_
      simp only [Act.put, List.setIfInBounds_toArray, List.set_cons_zero, List.set_cons_succ]
      refine wpZ_take 8 (.pointer (some ⟨b, 3, none⟩)) rfl rfl (by kernel_rfl) rfl (fun w1 h1 => by go_simp; exact ⟨rfl, Below.refl _ _⟩) ?_
      simp only [Act.put, List.setIfInBounds_toArray, List.set_cons_zero, List.set_cons_succ]
      refine wpZ_take 9 (.int .i64 (f 3)) rfl rfl (by kernel_rfl) rfl (fun w1 h1 => by have hc : w1.cell? ⟨b, 3, none⟩ = some (.int .i64 (f 3)) := (p.below h1 p0).cellIs (qfn_get _ (by omega)); go_simp; exact ⟨rfl, Below.refl _ _⟩) ?_
      simp only [Act.put, List.setIfInBounds_toArray, List.set_cons_zero, List.set_cons_succ]
      refine wpZ_take 10 (.int .i64 (L 3)) rfl rfl (by kernel_rfl) rfl (fun w1 h1 => by go_simp; exact ⟨by first | rfl | (rw [← hL3]; exact congrArg (fun z => Value.int IntKind.i64 (IntKind.i64.wrap z)) (by omega)), Below.refl _ _⟩) ?_
      simp only [Act.put, List.setIfInBounds_toArray, List.set_cons_zero, List.set_cons_succ]
      refine wpZ_take 11 (.int .i64 2) rfl rfl (by kernel_rfl) rfl (fun w1 h1 => by go_simp; exact ⟨rfl, Below.refl _ _⟩) ?_
      simp only [Act.put, List.setIfInBounds_toArray, List.set_cons_zero, List.set_cons_succ]
      refine wpZ_take 12 (.int .i64 3) rfl rfl (by kernel_rfl) rfl (fun w1 h1 => by go_simp; exact ⟨rfl, Below.refl _ _⟩) ?_
      simp only [Act.put, List.setIfInBounds_toArray, List.set_cons_zero, List.set_cons_succ]
      refine wpZ_take 13 (.int .i64 1) rfl rfl (by kernel_rfl) rfl (fun w1 h1 => by go_simp; exact ⟨rfl, Below.refl _ _⟩) ?_
      simp only [Act.put, List.setIfInBounds_toArray, List.set_cons_zero, List.set_cons_succ]
      refine wpZ_take 14 (.pointer (some ⟨c, 1, none⟩)) rfl rfl (by kernel_rfl) rfl (fun w1 h1 => by go_simp; exact ⟨rfl, Below.refl _ _⟩) ?_
      simp only [Act.put, List.setIfInBounds_toArray, List.set_cons_zero, List.set_cons_succ]
      refine wpZ_take 15 (.int .i64 (M 3)) rfl rfl (by kernel_rfl) rfl (fun w1 h1 => by have hc : w1.cell? ⟨c, 1, none⟩ = some (.int .i64 (g 1)) := (q.below h1 q0).cellIs (qfn_get _ (by omega)); rw [← m3.out] at hc; go_simp; exact ⟨rfl, Below.refl _ _⟩) ?_
      simp only [Act.put, List.setIfInBounds_toArray, List.set_cons_zero, List.set_cons_succ]
      refine wpZ_take 16 (.pointer (some ⟨w.heap.size, 3, none⟩)) rfl rfl (by kernel_rfl) rfl (fun w1 h1 => by go_simp; exact ⟨rfl, Below.refl _ _⟩) ?_
      simp only [Act.put, List.setIfInBounds_toArray, List.set_cons_zero, List.set_cons_succ]
      refine wpZ_one 17 rfl rfl (by kernel_rfl) [false, false] [true, false] rfl rfl (fun w2 h2 g2 K hK => ?_)
      have l : blk w2 w.heap.size (qfn (pre4 L 3)) 22 := g2.1
      have m : blk w2 (w.heap.size + 1) (qfn (pre4 M 3)) 22 := g2.2
      clear g2
      have fz : w2.frozen? ⟨w.heap.size, 3, none⟩ = false := l.free _
      have cz : w2.cell? ⟨w.heap.size, 3, none⟩ = some (.int .i64 (pre4 L 3 3)) := l.cellIs (qfn_get _ (by omega))
      go_simp
      have l3 : blk (w2.setCell ⟨w.heap.size, 3, none⟩ (.int .i64 (L 3))) w.heap.size (qfn (pre4 L 4)) 22 := l.set' (qfn_set (by omega) (by simp [pre4]) (by intro j hj hne; exact pre4_step hne))
      have m3 : blk (w2.setCell ⟨w.heap.size, 3, none⟩ (.int .i64 (L 3))) (w.heap.size + 1) (qfn (pre4 M 3)) 22 := m.setOther (by simp) _
      have b3 : Below w.heap.size w2 (w2.setCell ⟨w.heap.size, 3, none⟩ (.int .i64 (L 3))) := (Below.refl _ _).setCell (by simp) _
      refine hK _ _ b3 ⟨l3, m3⟩ ?_
      replace hB := hB.trans (h2.trans b3)
      have h23 := h2.trans b3
      clear hK K fz cz l m l3 m3 b3
      generalize w2.setCell ⟨w.heap.size, 3, none⟩ (.int .i64 (L 3)) = w3 at *
      refine wpZ_take 18 (.pointer (some ⟨w.heap.size + 1, 3, none⟩)) rfl rfl (by kernel_rfl) rfl (fun w1 h1 => by go_simp; exact ⟨rfl, Below.refl _ _⟩) ?_
      simp only [Act.put, List.setIfInBounds_toArray, List.set_cons_zero, List.set_cons_succ]
      refine wpZ_one 19 rfl rfl (by kernel_rfl) [true, false] [true, true] rfl rfl (fun w4 h4 g4 K hK => ?_)
      have l : blk w4 w.heap.size (qfn (pre4 L 4)) 22 := g4.1
      have m : blk w4 (w.heap.size + 1) (qfn (pre4 M 3)) 22 := g4.2
      clear g4
      have fz : w4.frozen? ⟨w.heap.size + 1, 3, none⟩ = false := m.free _
      have cz : w4.cell? ⟨w.heap.size + 1, 3, none⟩ = some (.int .i64 (pre4 M 3 3)) := m.cellIs (qfn_get _ (by omega))
      go_simp
      have m5 : blk (w4.setCell ⟨w.heap.size + 1, 3, none⟩ (.int .i64 (M 3))) (w.heap.size + 1) (qfn (pre4 M 4)) 22 := m.set' (qfn_set (by omega) (by simp [pre4]) (by intro j hj hne; exact pre4_step hne))
      have l5 : blk (w4.setCell ⟨w.heap.size + 1, 3, none⟩ (.int .i64 (M 3))) w.heap.size (qfn (pre4 L 4)) 22 := l.setOther (by simp) _
      have b5 : Below w.heap.size w4 (w4.setCell ⟨w.heap.size + 1, 3, none⟩ (.int .i64 (M 3))) := (Below.refl _ _).setCell (by simp) _
      refine hK _ _ b5 ⟨l5, m5⟩ ?_
      replace hB := hB.trans (h4.trans b5)
      have h25 := h23.trans (h4.trans b5)
      clear hK K fz cz l m l5 m5 b5
      generalize w4.setCell ⟨w.heap.size + 1, 3, none⟩ (.int .i64 (M 3)) = w5 at *
      refine wpZ_end (by kernel_rfl) [true, true] rfl (fun w6 h6 g6 => ?_)
      have l : blk w6 w.heap.size (qfn (pre4 L 4)) 22 := g6.1
      have m : blk w6 (w.heap.size + 1) (qfn (pre4 M 4)) 22 := g6.2
      clear g6
      have h26 := h25.trans h6
      replace hs := hs.below h26 hs0
      replace p := p.below h26 p0
      replace q := q.below h26 q0
      replace hB := hB.trans h6
      go_wp2_with (fail)
      go_roundg 0
      case rel => exact ⟨4, by omega, rfl, hs, p, q, l, m, hB⟩
      case measure => omega
    · have e4 : qfn (pre4 L 4) = qfn L := qfn_congr fun i hi => by simp [pre4, hi]
      have e5 : qfn (pre4 M 4) = qfn M := qfn_congr fun i hi => by simp [pre4, hi]
      rw [e4] at l
      rw [e5] at m
      go_upto_region 7 with (fail)
      refine wp_region_Y 99 7 rfl (by kernel_rfl) ?_
      replace l := l.drew
      replace m := m.drew
      replace hB : Below w.heap.size w wr.drew := hB.drew
      generalize wr.drew = wo at *
      refine wpY_takeB 0 (.slice (some ⟨w.heap.size, 0, none⟩) 4 4) rfl rfl (by kernel_rfl) (fun w1 => by go_simp; exact ⟨rfl, Below.refl _ _⟩) ?_
      simp only [Act.put, List.setIfInBounds_toArray, List.set_cons_zero, List.set_cons_succ]
      refine wpY_takeB 1 (.slice (some ⟨w.heap.size + 1, 0, none⟩) 4 4) rfl rfl (by kernel_rfl) (fun w1 => by go_simp; exact ⟨rfl, Below.refl _ _⟩) ?_
      simp only [Act.put, List.setIfInBounds_toArray, List.set_cons_zero, List.set_cons_succ]
      refine wpY_takeA 2 (.tuple #[.int .i64 X, .int .i64 0]) rfl rfl (by kernel_rfl) (by kernel_rfl) (fun w1 h1 => ?_) ?_
      · go_simp
        refine (D.out _ _ _ (l.below h1 l.lt) (m.below h1 m.lt)).mono ?_
        rintro e w2 ⟨rfl, h2⟩
        exact ⟨rfl, h2⟩
      simp only [Act.put, List.setIfInBounds_toArray, List.set_cons_zero, List.set_cons_succ]
      refine wpY_takeB 3 (.int .i64 X) rfl rfl (by kernel_rfl) (fun w1 => by go_simp; exact ⟨rfl, Below.refl _ _⟩) ?_
      simp only [Act.put, List.setIfInBounds_toArray, List.set_cons_zero, List.set_cons_succ]
      refine wpY_takeB 4 (.int .i64 0) rfl rfl (by kernel_rfl) (fun w1 => by go_simp; exact ⟨rfl, Below.refl _ _⟩) ?_
      simp only [Act.put, List.setIfInBounds_toArray, List.set_cons_zero, List.set_cons_succ]
      refine wpY_takeB 5 (.int .i64 X) rfl rfl (by kernel_rfl) (fun w1 => by go_simp; exact ⟨rfl, Below.refl _ _⟩) ?_
      simp only [Act.put, List.setIfInBounds_toArray, List.set_cons_zero, List.set_cons_succ]
      refine wpY_takeB 6 (.int .i64 0) rfl rfl (by kernel_rfl) (fun w1 => by go_simp; exact ⟨rfl, Below.refl _ _⟩) ?_
      simp only [Act.put, List.setIfInBounds_toArray, List.set_cons_zero, List.set_cons_succ]
      refine wpY_end (by kernel_rfl) (fun w3 h3 => ?_)
      replace hB := hB.trans (h3.mono hB.size)
      go_wp2_with (fail)
      go_ret2
      exact ⟨rfl, hB⟩
set_option maxRecDepth 100000 in
set_option maxHeartbeats 4000000 in
theorem qprC3 (f g L : Nat → Int) (s b c : Nat) (w : World) (hs : blk w s sgnA 151) (p : blk w b (qfn f) 23) (q : blk w c (qfn g) 23) (hL0 : IntKind.i64.wrap ((1) * f 0) = L 0) (hL1 : IntKind.i64.wrap ((1) * f 1) = L 1) (hL2 : IntKind.i64.wrap ((-1) * f 2) = L 2) (hL3 : IntKind.i64.wrap ((1) * f 3) = L 3) (X : Int)
    (D : Hid (∀ x y w, blk w x (qfn L) 22 → blk w y (qfn (prM g 3)) 22 → Calls Try.prog 112 #[.slice (some ⟨x, 0, none⟩) 4 4, .slice (some ⟨y, 0, none⟩) 4 4] w fun e w' => e = .returned (.tuple #[.int .i64 X, .int .i64 0]) ∧ Below w.heap.size w w')) :
    Calls Try.prog 116 #[.int .i64 3, .pointer (some ⟨s, 0, none⟩), .pointer (some ⟨b, 0, none⟩), .pointer (some ⟨c, 0, none⟩)] w fun e w' => e = .returned (.tuple #[.int .i64 X, .int .i64 0]) ∧ Below w.heap.size w w' := by
  obtain ⟨M, hM⟩ : ∃ M, M = prM g 3 := ⟨_, rfl⟩
  have m0 : Hid (M 0 = g 3) := by show _ = _; rw [hM]; rfl
  have m1 : Hid (M 1 = g 2) := by show _ = _; rw [hM]; rfl
  have m2 : Hid (M 2 = g 1) := by show _ = _; rw [hM]; rfl
  have m3 : Hid (M 3 = g 0) := by show _ = _; rw [hM]; rfl
  rw [← hM] at D
  clear hM
  go_enter Try.func116, Try.ntmps116
  go_upto_region 2 with (fail)
  rw [zero_quat]
  have hs0 := hs.lt
  have p0 := p.lt
  have q0 := q.lt
  replace hs := (hs.alloc (.cells (qfn fun _ => 0) 22)).alloc (.cells (qfn fun _ => 0) 22)
  replace p := (p.alloc (.cells (qfn fun _ => 0) 22)).alloc (.cells (qfn fun _ => 0) 22)
  replace q := (q.alloc (.cells (qfn fun _ => 0) 22)).alloc (.cells (qfn fun _ => 0) 22)
  have l : blk ((w.alloc (.cells (qfn fun _ => 0) 22)).alloc (.cells (qfn fun _ => 0) 22)) w.heap.size (qfn fun _ => 0) 22 := (blk.new _ _ _).alloc _
  have m : blk ((w.alloc (.cells (qfn fun _ => 0) 22)).alloc (.cells (qfn fun _ => 0) 22)) (w.heap.size + 1) (qfn fun _ => 0) 22 := blk.new' (by simp)
  have hB : Below w.heap.size w ((w.alloc (.cells (qfn fun _ => 0) 22)).alloc (.cells (qfn fun _ => 0) 22)) := by go_grown
  generalize (w.alloc (.cells (qfn fun _ => 0) 22)).alloc (.cells (qfn fun _ => 0) 22) = w0 at *
  go_wp2_with (fail)
  go_loopg [10] 4 (fun g_ iv wr => ∃ k : Nat, g_ + k = 4 ∧ iv = .int .i64 k ∧ blk wr s sgnA 151 ∧ blk wr b (qfn f) 23 ∧ blk wr c (qfn g) 23 ∧ blk wr w.heap.size (qfn (pre4 L k)) 22 ∧ blk wr (w.heap.size + 1) (qfn (pre4 M k)) 22 ∧ Below w.heap.size w wr)
  case atStart => exact ⟨0, rfl, rfl, hs, p, q, by rw [show qfn (pre4 L 0) = qfn (fun _ => 0) from qfn_congr fun i _ => by simp [pre4]]; exact l, by rw [show qfn (pre4 M 0) = qfn (fun _ => 0) from qfn_congr fun i _ => by simp [pre4]]; exact m, hB⟩
  case round =>
    clear hs p q l m hB
    obtain ⟨k, hk, rfl, hs, p, q, l, m, hB⟩ := hrel
    have hcase : k = 0 ∨ k = 1 ∨ k = 2 ∨ k = 3 ∨ k = 4 := by omega
    rcases hcase with rfl | rfl | rfl | rfl | rfl
    · go_upto_region 5 with (fail)
      refine wp_region_Z 20 w.heap.size [17, 19] (fun bs wx => blk wx w.heap.size (qfn (pre4 L (cond (bs.getD 0 false) 1 0))) 22 ∧ blk wx (w.heap.size + 1) (qfn (pre4 M (cond (bs.getD 1 false) 1 0))) 22) rfl (by kernel_rfl) hB.size (fun bs w1 w2 h hm => ⟨h.1.below hm h.1.lt, h.2.below hm h.2.lt⟩) ⟨l.drew, m.drew⟩ ?_
      replace hs := hs.drew
      replace p := p.drew
      replace q := q.drew
      replace hB : Below w.heap.size w wr.drew := hB.drew
      clear l m
      generalize wr.drew = wd at *
      refine wpZ_take 0 (.int .i64 0) rfl rfl (by kernel_rfl) rfl (fun w1 h1 => by go_simp; exact ⟨rfl, Below.refl _ _⟩) ?_
      simp only [Act.put, List.setIfInBounds_toArray, List.set_cons_zero, List.set_cons_succ]
      refine wpZ_take 1 (.int .i64 0) rfl rfl (by kernel_rfl) rfl (fun w1 h1 => by go_simp; exact ⟨rfl, Below.refl _ _⟩) ?_
      simp only [Act.put, List.setIfInBounds_toArray, List.set_cons_zero, List.set_cons_succ]
      refine wpZ_take 2 (.int .i64 3) rfl rfl (by kernel_rfl) rfl (fun w1 h1 => by go_simp; exact ⟨rfl, Below.refl _ _⟩) ?_
      simp only [Act.put, List.setIfInBounds_toArray, List.set_cons_zero, List.set_cons_succ]
      refine wpZ_take 3 (.int .i64 0) rfl rfl (by kernel_rfl) rfl (fun w1 h1 => by go_simp; exact ⟨rfl, Below.refl _ _⟩) ?_
      simp only [Act.put, List.setIfInBounds_toArray, List.set_cons_zero, List.set_cons_succ]
      refine wpZ_take 4 (.pointer (some ⟨s, 12, none⟩)) rfl rfl (by kernel_rfl) rfl (fun w1 h1 => by go_simp; exact ⟨rfl, Below.refl _ _⟩) ?_
      simp only [Act.put, List.setIfInBounds_toArray, List.set_cons_zero, List.set_cons_succ]
      refine wpZ_take 5 (.pointer (some ⟨s, 12, none⟩)) rfl rfl (by kernel_rfl) rfl (fun w1 h1 => by go_simp; exact ⟨rfl, Below.refl _ _⟩) ?_
      simp only [Act.put, List.setIfInBounds_toArray, List.set_cons_zero, List.set_cons_succ]
      refine wpZ_take 6 (.int .i64 (1)) rfl rfl (by kernel_rfl) rfl (fun w1 h1 => by have hc : w1.cell? ⟨s, 12, none⟩ = some (.int .i64 (1)) := (hs.below h1 hs0).cellIs sgn_3_0; go_simp; exact ⟨rfl, Below.refl _ _⟩) ?_
      simp only [Act.put, List.setIfInBounds_toArray, List.set_cons_zero, List.set_cons_succ]
      refine wpZ_take 7 (.int .i64 0) rfl rfl (by kernel_rfl) rfl (fun w1 h1 => by go_simp; exact ⟨rfl, Below.refl _ _⟩) ?_
      simp only [Act.put, List.setIfInBounds_toArray, List.set_cons_zero, List.set_cons_succ]
      refine wpZ_take 8 (.pointer (some ⟨b, 0, none⟩)) rfl rfl (by kernel_rfl) rfl (fun w1 h1 => by go_simp; exact ⟨rfl, Below.refl _ _⟩) ?_
      simp only [Act.put, List.setIfInBounds_toArray, List.set_cons_zero, List.set_cons_succ]
      refine wpZ_take 9 (.int .i64 (f 0)) rfl rfl (by kernel_rfl) rfl (fun w1 h1 => by have hc : w1.cell? ⟨b, 0, none⟩ = some (.int .i64 (f 0)) := (p.below h1 p0).cellIs (qfn_get _ (by omega)); go_simp; exact ⟨rfl, Below.refl _ _⟩) ?_
      simp only [Act.put, List.setIfInBounds_toArray, List.set_cons_zero, List.set_cons_succ]
      refine wpZ_take 10 (.int .i64 (L 0)) rfl rfl (by kernel_rfl) rfl (fun w1 h1 => by go_simp; exact ⟨by first | rfl | (rw [← hL0]; exact congrArg (fun z => Value.int IntKind.i64 (IntKind.i64.wrap z)) (by omega)), Below.refl _ _⟩) ?_
      simp only [Act.put, List.setIfInBounds_toArray, List.set_cons_zero, List.set_cons_succ]
      refine wpZ_take 11 (.int .i64 3) rfl rfl (by kernel_rfl) rfl (fun w1 h1 => by go_simp; exact ⟨rfl, Below.refl _ _⟩) ?_
      simp only [Act.put, List.setIfInBounds_toArray, List.set_cons_zero, List.set_cons_succ]
      refine wpZ_take 12 (.int .i64 0) rfl rfl (by kernel_rfl) rfl (fun w1 h1 => by go_simp; exact ⟨rfl, Below.refl _ _⟩) ?_
      simp only [Act.put, List.setIfInBounds_toArray, List.set_cons_zero, List.set_cons_succ]
      refine wpZ_take 13 (.int .i64 3) rfl rfl (by kernel_rfl) rfl (fun w1 h1 => by go_simp; exact ⟨rfl, Below.refl _ _⟩) ?_
      simp only [Act.put, List.setIfInBounds_toArray, List.set_cons_zero, List.set_cons_succ]
      refine wpZ_take 14 (.pointer (some ⟨c, 3, none⟩)) rfl rfl (by kernel_rfl) rfl (fun w1 h1 => by go_simp; exact ⟨rfl, Below.refl _ _⟩) ?_
      simp only [Act.put, List.setIfInBounds_toArray, List.set_cons_zero, List.set_cons_succ]
      refine wpZ_take 15 (.int .i64 (M 0)) rfl rfl (by kernel_rfl) rfl (fun w1 h1 => by have hc : w1.cell? ⟨c, 3, none⟩ = some (.int .i64 (g 3)) := (q.below h1 q0).cellIs (qfn_get _ (by omega)); rw [← m0.out] at hc; go_simp; exact ⟨rfl, Below.refl _ _⟩) ?_
      simp only [Act.put, List.setIfInBounds_toArray, List.set_cons_zero, List.set_cons_succ]
      refine wpZ_take 16 (.pointer (some ⟨w.heap.size, 0, none⟩)) rfl rfl (by kernel_rfl) rfl (fun w1 h1 => by go_simp; exact ⟨rfl, Below.refl _ _⟩) ?_
      simp only [Act.put, List.setIfInBounds_toArray, List.set_cons_zero, List.set_cons_succ]
      refine wpZ_one 17 rfl rfl (by kernel_rfl) [false, false] [true, false] rfl rfl (fun w2 h2 g2 K hK => ?_)
      have l : blk w2 w.heap.size (qfn (pre4 L 0)) 22 := g2.1
      have m : blk w2 (w.heap.size + 1) (qfn (pre4 M 0)) 22 := g2.2
      clear g2
      have fz : w2.frozen? ⟨w.heap.size, 0, none⟩ = false := l.free _
      have cz : w2.cell? ⟨w.heap.size, 0, none⟩ = some (.int .i64 (pre4 L 0 0)) := l.cellIs (qfn_get _ (by omega))
      go_simp
      have l3 : blk (w2.setCell ⟨w.heap.size, 0, none⟩ (.int .i64 (L 0))) w.heap.size (qfn (pre4 L 1)) 22 := l.set' (qfn_set (by omega) (by simp [pre4]) (by intro j hj hne; exact pre4_step hne))
      have m3 : blk (w2.setCell ⟨w.heap.size, 0, none⟩ (.int .i64 (L 0))) (w.heap.size + 1) (qfn (pre4 M 0)) 22 := m.setOther (by simp) _
      have b3 : Below w.heap.size w2 (w2.setCell ⟨w.heap.size, 0, none⟩ (.int .i64 (L 0))) := (Below.refl _ _).setCell (by simp) _
      refine hK _ _ b3 ⟨l3, m3⟩ ?_
      replace hB := hB.trans (h2.trans b3)
      have h23 := h2.trans b3
      clear hK K fz cz l m l3 m3 b3
      generalize w2.setCell ⟨w.heap.size, 0, none⟩ (.int .i64 (L 0)) = w3 at *
      refine wpZ_take 18 (.pointer (some ⟨w.heap.size + 1, 0, none⟩)) rfl rfl (by kernel_rfl) rfl (fun w1 h1 => by go_simp; exact ⟨rfl, Below.refl _ _⟩) ?_
      simp only [Act.put, List.setIfInBounds_toArray, List.set_cons_zero, List.set_cons_succ]
      refine wpZ_one 19 rfl rfl (by kernel_rfl) [true, false] [true, true] rfl rfl (fun w4 h4 g4 K hK => ?_)
      have l : blk w4 w.heap.size (qfn (pre4 L 1)) 22 := g4.1
      have m : blk w4 (w.heap.size + 1) (qfn (pre4 M 0)) 22 := g4.2
      clear g4
      have fz : w4.frozen? ⟨w.heap.size + 1, 0, none⟩ = false := m.free _
      have cz : w4.cell? ⟨w.heap.size + 1, 0, none⟩ = some (.int .i64 (pre4 M 0 0)) := m.cellIs (qfn_get _ (by omega))
      go_simp
      have m5 : blk (w4.setCell ⟨w.heap.size + 1, 0, none⟩ (.int .i64 (M 0))) (w.heap.size + 1) (qfn (pre4 M 1)) 22 := m.set' (qfn_set (by omega) (by simp [pre4]) (by intro j hj hne; exact pre4_step hne))
      have l5 : blk (w4.setCell ⟨w.heap.size + 1, 0, none⟩ (.int .i64 (M 0))) w.heap.size (qfn (pre4 L 1)) 22 := l.setOther (by simp) _
      have b5 : Below w.heap.size w4 (w4.setCell ⟨w.heap.size + 1, 0, none⟩ (.int .i64 (M 0))) := (Below.refl _ _).setCell (by simp) _
      refine hK _ _ b5 ⟨l5, m5⟩ ?_
      replace hB := hB.trans (h4.trans b5)
      have h25 := h23.trans (h4.trans b5)
      clear hK K fz cz l m l5 m5 b5
      generalize w4.setCell ⟨w.heap.size + 1, 0, none⟩ (.int .i64 (M 0)) = w5 at *
      refine wpZ_end (by kernel_rfl) [true, true] rfl (fun w6 h6 g6 => ?_)
      have l : blk w6 w.heap.size (qfn (pre4 L 1)) 22 := g6.1
      have m : blk w6 (w.heap.size + 1) (qfn (pre4 M 1)) 22 := g6.2
      clear g6
      have h26 := h25.trans h6
      replace hs := hs.below h26 hs0
      replace p := p.below h26 p0
      replace q := q.below h26 q0
      replace hB := hB.trans h6
      go_wp2_with (fail)
      go_roundg 3
      case rel => exact ⟨1, by omega, rfl, hs, p, q, l, m, hB⟩
      case measure => omega
    · go_upto_region 5 with (fail)
      refine wp_region_Z 20 w.heap.size [17, 19] (fun bs wx => blk wx w.heap.size (qfn (pre4 L (cond (bs.getD 0 false) 2 1))) 22 ∧ blk wx (w.heap.size + 1) (qfn (pre4 M (cond (bs.getD 1 false) 2 1))) 22) rfl (by kernel_rfl) hB.size (fun bs w1 w2 h hm => ⟨h.1.below hm h.1.lt, h.2.below hm h.2.lt⟩) ⟨l.drew, m.drew⟩ ?_
      replace hs := hs.drew
      replace p := p.drew
      replace q := q.drew
      replace hB : Below w.heap.size w wr.drew := hB.drew
      clear l m
      generalize wr.drew = wd at *
      refine wpZ_take 0 (.int .i64 1) rfl rfl (by kernel_rfl) rfl (fun w1 h1 => by go_simp; exact ⟨rfl, Below.refl _ _⟩) ?_
      simp only [Act.put, List.setIfInBounds_toArray, List.set_cons_zero, List.set_cons_succ]
      refine wpZ_take 1 (.int .i64 1) rfl rfl (by kernel_rfl) rfl (fun w1 h1 => by go_simp; exact ⟨rfl, Below.refl _ _⟩) ?_
      simp only [Act.put, List.setIfInBounds_toArray, List.set_cons_zero, List.set_cons_succ]
      refine wpZ_take 2 (.int .i64 3) rfl rfl (by kernel_rfl) rfl (fun w1 h1 => by go_simp; exact ⟨rfl, Below.refl _ _⟩) ?_
      simp only [Act.put, List.setIfInBounds_toArray, List.set_cons_zero, List.set_cons_succ]
      refine wpZ_take 3 (.int .i64 1) rfl rfl (by kernel_rfl) rfl (fun w1 h1 => by go_simp; exact ⟨rfl, Below.refl _ _⟩) ?_
      simp only [Act.put, List.setIfInBounds_toArray, List.set_cons_zero, List.set_cons_succ]
      refine wpZ_take 4 (.pointer (some ⟨s, 12, none⟩)) rfl rfl (by kernel_rfl) rfl (fun w1 h1 => by go_simp; exact ⟨rfl, Below.refl _ _⟩) ?_
      simp only [Act.put, List.setIfInBounds_toArray, List.set_cons_zero, List.set_cons_succ]
      refine wpZ_take 5 (.pointer (some ⟨s, 13, none⟩)) rfl rfl (by kernel_rfl) rfl (fun w1 h1 => by go_simp; exact ⟨rfl, Below.refl _ _⟩) ?_
      simp only [Act.put, List.setIfInBounds_toArray, List.set_cons_zero, List.set_cons_succ]
      refine wpZ_take 6 (.int .i64 (1)) rfl rfl (by kernel_rfl) rfl (fun w1 h1 => by have hc : w1.cell? ⟨s, 13, none⟩ = some (.int .i64 (1)) := (hs.below h1 hs0).cellIs sgn_3_1; go_simp; exact ⟨rfl, Below.refl _ _⟩) ?_
      simp only [Act.put, List.setIfInBounds_toArray, List.set_cons_zero, List.set_cons_succ]
      refine wpZ_take 7 (.int .i64 1) rfl rfl (by kernel_rfl) rfl (fun w1 h1 => by go_simp; exact ⟨rfl, Below.refl _ _⟩) ?_
      simp only [Act.put, List.setIfInBounds_toArray, List.set_cons_zero, List.set_cons_succ]
      refine wpZ_take 8 (.pointer (some ⟨b, 1, none⟩)) rfl rfl (by kernel_rfl) rfl (fun w1 h1 => by go_simp; exact ⟨rfl, Below.refl _ _⟩) ?_
      simp only [Act.put, List.setIfInBounds_toArray, List.set_cons_zero, List.set_cons_succ]
      refine wpZ_take 9 (.int .i64 (f 1)) rfl rfl (by kernel_rfl) rfl (fun w1 h1 => by have hc : w1.cell? ⟨b, 1, none⟩ = some (.int .i64 (f 1)) := (p.below h1 p0).cellIs (qfn_get _ (by omega)); go_simp; exact ⟨rfl, Below.refl _ _⟩) ?_
      simp only [Act.put, List.setIfInBounds_toArray, List.set_cons_zero, List.set_cons_succ]
      refine wpZ_take 10 (.int .i64 (L 1)) rfl rfl (by kernel_rfl) rfl (fun w1 h1 => by go_simp; exact ⟨by first | rfl | (rw [← hL1]; exact congrArg (fun z => Value.int IntKind.i64 (IntKind.i64.wrap z)) (by omega)), Below.refl _ _⟩) ?_
      simp only [Act.put, List.setIfInBounds_toArray, List.set_cons_zero, List.set_cons_succ]
      refine wpZ_take 11 (.int .i64 3) rfl rfl (by kernel_rfl) rfl (fun w1 h1 => by go_simp; exact ⟨rfl, Below.refl _ _⟩) ?_
      simp only [Act.put, List.setIfInBounds_toArray, List.set_cons_zero, List.set_cons_succ]
      refine wpZ_take 12 (.int .i64 1) rfl rfl (by kernel_rfl) rfl (fun w1 h1 => by go_simp; exact ⟨rfl, Below.refl _ _⟩) ?_
      simp only [Act.put, List.setIfInBounds_toArray, List.set_cons_zero, List.set_cons_succ]
      refine wpZ_take 13 (.int .i64 2) rfl rfl (by kernel_rfl) rfl (fun w1 h1 => by go_simp; exact ⟨rfl, Below.refl _ _⟩) ?_
      simp only [Act.put, List.setIfInBounds_toArray, List.set_cons_zero, List.set_cons_succ]
      refine wpZ_take 14 (.pointer (some ⟨c, 2, none⟩)) rfl rfl (by kernel_rfl) rfl (fun w1 h1 => by go_simp; exact ⟨rfl, Below.refl _ _⟩) ?_
      simp only [Act.put, List.setIfInBounds_toArray, List.set_cons_zero, List.set_cons_succ]
      refine wpZ_take 15 (.int .i64 (M 1)) rfl rfl (by kernel_rfl) rfl (fun w1 h1 => by have hc : w1.cell? ⟨c, 2, none⟩ = some (.int .i64 (g 2)) := (q.below h1 q0).cellIs (qfn_get _ (by omega)); rw [← m1.out] at hc; go_simp; exact ⟨rfl, Below.refl _ _⟩) ?_
      simp only [Act.put, List.setIfInBounds_toArray, List.set_cons_zero, List.set_cons_succ]
      refine wpZ_take 16 (.pointer (some ⟨w.heap.size, 1, none⟩)) rfl rfl (by kernel_rfl) rfl (fun w1 h1 => by go_simp; exact ⟨rfl, Below.refl _ _⟩) ?_
      simp only [Act.put, List.setIfInBounds_toArray, List.set_cons_zero, List.set_cons_succ]
      refine wpZ_one 17 rfl rfl (by kernel_rfl) [false, false] [true, false] rfl rfl (fun w2 h2 g2 K hK => ?_)
      have l : blk w2 w.heap.size (qfn (pre4 L 1)) 22 := g2.1
      have m : blk w2 (w.heap.size + 1) (qfn (pre4 M 1)) 22 := g2.2
      clear g2
      have fz : w2.frozen? ⟨w.heap.size, 1, none⟩ = false := l.free _
      have cz : w2.cell? ⟨w.heap.size, 1, none⟩ = some (.int .i64 (pre4 L 1 1)) := l.cellIs (qfn_get _ (by omega))
      go_simp
      have l3 : blk (w2.setCell ⟨w.heap.size, 1, none⟩ (.int .i64 (L 1))) w.heap.size (qfn (pre4 L 2)) 22 := l.set' (qfn_set (by omega) (by simp [pre4]) (by intro j hj hne; exact pre4_step hne))
      have m3 : blk (w2.setCell ⟨w.heap.size, 1, none⟩ (.int .i64 (L 1))) (w.heap.size + 1) (qfn (pre4 M 1)) 22 := m.setOther (by simp) _
      have b3 : Below w.heap.size w2 (w2.setCell ⟨w.heap.size, 1, none⟩ (.int .i64 (L 1))) := (Below.refl _ _).setCell (by simp) _
      refine hK _ _ b3 ⟨l3, m3⟩ ?_
      replace hB := hB.trans (h2.trans b3)
      have h23 := h2.trans b3
      clear hK K fz cz l m l3 m3 b3
      generalize w2.setCell ⟨w.heap.size, 1, none⟩ (.int .i64 (L 1)) = w3 at *
      refine wpZ_take 18 (.pointer (some ⟨w.heap.size + 1, 1, none⟩)) rfl rfl (by kernel_rfl) rfl (fun w1 h1 => by go_simp; exact ⟨rfl, Below.refl _ _⟩) ?_
      simp only [Act.put, List.setIfInBounds_toArray, List.set_cons_zero, List.set_cons_succ]
      refine wpZ_one 19 rfl rfl (by kernel_rfl) [true, false] [true, true] rfl rfl (fun w4 h4 g4 K hK => ?_)
      have l : blk w4 w.heap.size (qfn (pre4 L 2)) 22 := g4.1
      have m : blk w4 (w.heap.size + 1) (qfn (pre4 M 1)) 22 := g4.2
      clear g4
      have fz : w4.frozen? ⟨w.heap.size + 1, 1, none⟩ = false := m.free _
      have cz : w4.cell? ⟨w.heap.size + 1, 1, none⟩ = some (.int .i64 (pre4 M 1 1)) := m.cellIs (qfn_get _ (by omega))
      go_simp
      have m5 : blk (w4.setCell ⟨w.heap.size + 1, 1, none⟩ (.int .i64 (M 1))) (w.heap.size + 1) (qfn (pre4 M 2)) 22 := m.set' (qfn_set (by omega) (by simp [pre4]) (by intro j hj hne; exact pre4_step hne))
      have l5 : blk (w4.setCell ⟨w.heap.size + 1, 1, none⟩ (.int .i64 (M 1))) w.heap.size (qfn (pre4 L 2)) 22 := l.setOther (by simp) _
      have b5 : Below w.heap.size w4 (w4.setCell ⟨w.heap.size + 1, 1, none⟩ (.int .i64 (M 1))) := (Below.refl _ _).setCell (by simp) _
      refine hK _ _ b5 ⟨l5, m5⟩ ?_
      replace hB := hB.trans (h4.trans b5)
      have h25 := h23.trans (h4.trans b5)
      clear hK K fz cz l m l5 m5 b5
      generalize w4.setCell ⟨w.heap.size + 1, 1, none⟩ (.int .i64 (M 1)) = w5 at *
      refine wpZ_end (by kernel_rfl) [true, true] rfl (fun w6 h6 g6 => ?_)
      have l : blk w6 w.heap.size (qfn (pre4 L 2)) 22 := g6.1
      have m : blk w6 (w.heap.size + 1) (qfn (pre4 M 2)) 22 := g6.2
      clear g6
      have h26 := h25.trans h6
      replace hs := hs.below h26 hs0
      replace p := p.below h26 p0
      replace q := q.below h26 q0
      replace hB := hB.trans h6
      go_wp2_with (fail)
      go_roundg 2
      case rel => exact ⟨2, by omega, rfl, hs, p, q, l, m, hB⟩
      case measure => omega
    · go_upto_region 5 with (fail)
      refine wp_region_Z 20 w.heap.size [17, 19] (fun bs wx => blk wx w.heap.size (qfn (pre4 L (cond (bs.getD 0 false) 3 2))) 22 ∧ blk wx (w.heap.size + 1) (qfn (pre4 M (cond (bs.getD 1 false) 3 2))) 22) rfl (by kernel_rfl) hB.size (fun bs w1 w2 h hm => ⟨h.1.below hm h.1.lt, h.2.below hm h.2.lt⟩) ⟨l.drew, m.drew⟩ ?_
      replace hs := hs.drew
      replace p := p.drew
      replace q := q.drew
      replace hB : Below w.heap.size w wr.drew := hB.drew
      clear l m
      generalize wr.drew = wd at *
      refine wpZ_take 0 (.int .i64 2) rfl rfl (by kernel_rfl) rfl (fun w1 h1 => by go_simp; exact ⟨rfl, Below.refl _ _⟩) ?_
      simp only [Act.put, List.setIfInBounds_toArray, List.set_cons_zero, List.set_cons_succ]
      refine wpZ_take 1 (.int .i64 2) rfl rfl (by kernel_rfl) rfl (fun w1 h1 => by go_simp; exact ⟨rfl, Below.refl _ _⟩) ?_
      simp only [Act.put, List.setIfInBounds_toArray, List.set_cons_zero, List.set_cons_succ]
      refine wpZ_take 2 (.int .i64 3) rfl rfl (by kernel_rfl) rfl (fun w1 h1 => by go_simp; exact ⟨rfl, Below.refl _ _⟩) ?_
      simp only [Act.put, List.setIfInBounds_toArray, List.set_cons_zero, List.set_cons_succ]
      refine wpZ_take 3 (.int .i64 2) rfl rfl (by kernel_rfl) rfl (fun w1 h1 => by go_simp; exact ⟨rfl, Below.refl _ _⟩) ?_
      simp only [Act.put, List.setIfInBounds_toArray, List.set_cons_zero, List.set_cons_succ]
      refine wpZ_take 4 (.pointer (some ⟨s, 12, none⟩)) rfl rfl (by kernel_rfl) rfl (fun w1 h1 => by go_simp; exact ⟨rfl, Below.refl _ _⟩) ?_
      simp only [Act.put, List.setIfInBounds_toArray, List.set_cons_zero, List.set_cons_succ]
      refine wpZ_take 5 (.pointer (some ⟨s, 14, none⟩)) rfl rfl (by kernel_rfl) rfl (fun w1 h1 => by go_simp; exact ⟨rfl, Below.refl _ _⟩) ?_
      simp only [Act.put, List.setIfInBounds_toArray, List.set_cons_zero, List.set_cons_succ]
      refine wpZ_take 6 (.int .i64 (-1)) rfl rfl (by kernel_rfl) rfl (fun w1 h1 => by have hc : w1.cell? ⟨s, 14, none⟩ = some (.int .i64 (-1)) := (hs.below h1 hs0).cellIs sgn_3_2; go_simp; exact ⟨rfl, Below.refl _ _⟩) ?_
      simp only [Act.put, List.setIfInBounds_toArray, List.set_cons_zero, List.set_cons_succ]
      refine wpZ_take 7 (.int .i64 2) rfl rfl (by kernel_rfl) rfl (fun w1 h1 => by go_simp; exact ⟨rfl, Below.refl _ _⟩) ?_
      simp only [Act.put, List.setIfInBounds_toArray, List.set_cons_zero, List.set_cons_succ]
      refine wpZ_take 8 (.pointer (some ⟨b, 2, none⟩)) rfl rfl (by kernel_rfl) rfl (fun w1 h1 => by go_simp; exact ⟨rfl, Below.refl _ _⟩) ?_
      simp only [Act.put, List.setIfInBounds_toArray, List.set_cons_zero, List.set_cons_succ]
      refine wpZ_take 9 (.int .i64 (f 2)) rfl rfl (by kernel_rfl) rfl (fun w1 h1 => by have hc : w1.cell? ⟨b, 2, none⟩ = some (.int .i64 (f 2)) := (p.below h1 p0).cellIs (qfn_get _ (by omega)); go_simp; exact ⟨rfl, Below.refl _ _⟩) ?_
      simp only [Act.put, List.setIfInBounds_toArray, List.set_cons_zero, List.set_cons_succ]
      refine wpZ_take 10 (.int .i64 (L 2)) rfl rfl (by kernel_rfl) rfl (fun w1 h1 => by go_simp; exact ⟨by first | rfl | (rw [← hL2]; exact congrArg (fun z => Value.int IntKind.i64 (IntKind.i64.wrap z)) (by omega)), Below.refl _ _⟩) ?_
      simp only [Act.put, List.setIfInBounds_toArray, List.set_cons_zero, List.set_cons_succ]
      refine wpZ_take 11 (.int .i64 3) rfl rfl (by kernel_rfl) rfl (fun w1 h1 => by go_simp; exact ⟨rfl, Below.refl _ _⟩) ?_
      simp only [Act.put, List.setIfInBounds_toArray, List.set_cons_zero, List.set_cons_succ]
      refine wpZ_take 12 (.int .i64 2) rfl rfl (by kernel_rfl) rfl (fun w1 h1 => by go_simp; exact ⟨rfl, Below.refl _ _⟩) ?_
      simp only [Act.put, List.setIfInBounds_toArray, List.set_cons_zero, List.set_cons_succ]
      refine wpZ_take 13 (.int .i64 1) rfl rfl (by kernel_rfl) rfl (fun w1 h1 => by go_simp; exact ⟨rfl, Below.refl _ _⟩) ?_
      simp only [Act.put, List.setIfInBounds_toArray, List.set_cons_zero, List.set_cons_succ]
      refine wpZ_take 14 (.pointer (some ⟨c, 1, none⟩)) rfl rfl (by kernel_rfl) rfl (fun w1 h1 => by go_simp; exact ⟨rfl, Below.refl _ _⟩) ?_
      simp only [Act.put, List.setIfInBounds_toArray, List.set_cons_zero, List.set_cons_succ]
      refine wpZ_take 15 (.int .i64 (M 2)) rfl rfl (by kernel_rfl) rfl (fun w1 h1 => by have hc : w1.cell? ⟨c, 1, none⟩ = some (.int .i64 (g 1)) := (q.below h1 q0).cellIs (qfn_get _ (by omega)); rw [← m2.out] at hc; go_simp; exact ⟨rfl, Below.refl _ _⟩) ?_
      simp only [Act.put, List.setIfInBounds_toArray, List.set_cons_zero, List.set_cons_succ]
      refine wpZ_take 16 (.pointer (some ⟨w.heap.size, 2, none⟩)) rfl rfl (by kernel_rfl) rfl (fun w1 h1 => by go_simp; exact ⟨rfl, Below.refl _ _⟩) ?_
      simp only [Act.put, List.setIfInBounds_toArray, List.set_cons_zero, List.set_cons_succ]
      refine wpZ_one 17 rfl rfl (by kernel_rfl) [false, false] [true, false] rfl rfl (fun w2 h2 g2 K hK => ?_)
      have l : blk w2 w.heap.size (qfn (pre4 L 2)) 22 := g2.1
      have m : blk w2 (w.heap.size + 1) (qfn (pre4 M 2)) 22 := g2.2
      clear g2
      have fz : w2.frozen? ⟨w.heap.size, 2, none⟩ = false := l.free _
      have cz : w2.cell? ⟨w.heap.size, 2, none⟩ = some (.int .i64 (pre4 L 2 2)) := l.cellIs (qfn_get _ (by omega))
      go_simp
      have l3 : blk (w2.setCell ⟨w.heap.size, 2, none⟩ (.int .i64 (L 2))) w.heap.size (qfn (pre4 L 3)) 22 := l.set' (qfn_set (by omega) (by simp [pre4]) (by intro j hj hne; exact pre4_step hne))
      have m3 : blk (w2.setCell ⟨w.heap.size, 2, none⟩ (.int .i64 (L 2))) (w.heap.size + 1) (qfn (pre4 M 2)) 22 := m.setOther (by simp) _
      have b3 : Below w.heap.size w2 (w2.setCell ⟨w.heap.size, 2, none⟩ (.int .i64 (L 2))) := (Below.refl _ _).setCell (by simp) _
      refine hK _ _ b3 ⟨l3, m3⟩ ?_
      replace hB := hB.trans (h2.trans b3)
      have h23 := h2.trans b3
      clear hK K fz cz l m l3 m3 b3
      generalize w2.setCell ⟨w.heap.size, 2, none⟩ (.int .i64 (L 2)) = w3 at *
      refine wpZ_take 18 (.pointer (some ⟨w.heap.size + 1, 2, none⟩)) rfl rfl (by kernel_rfl) rfl (fun w1 h1 => by go_simp; exact ⟨rfl, Below.refl _ _⟩) ?_
      simp only [Act.put, List.setIfInBounds_toArray, List.set_cons_zero, List.set_cons_succ]
      refine wpZ_one 19 rfl rfl (by kernel_rfl) [true, false] [true, true] rfl rfl (fun w4 h4 g4 K hK => ?_)
      have l : blk w4 w.heap.size (qfn (pre4 L 3)) 22 := g4.1
      have m : blk w4 (w.heap.size + 1) (qfn (pre4 M 2)) 22 := g4.2
      clear g4
      have fz : w4.frozen? ⟨w.heap.size + 1, 2, none⟩ = false := m.free _
      have cz : w4.cell? ⟨w.heap.size + 1, 2, none⟩ = some (.int .i64 (pre4 M 2 2)) := m.cellIs (qfn_get _ (by omega))
      go_simp
      have m5 : blk (w4.setCell ⟨w.heap.size + 1, 2, none⟩ (.int .i64 (M 2))) (w.heap.size + 1) (qfn (pre4 M 3)) 22 := m.set' (qfn_set (by omega) (by simp [pre4]) (by intro j hj hne; exact pre4_step hne))
      have l5 : blk (w4.setCell ⟨w.heap.size + 1, 2, none⟩ (.int .i64 (M 2))) w.heap.size (qfn (pre4 L 3)) 22 := l.setOther (by simp) _
      have b5 : Below w.heap.size w4 (w4.setCell ⟨w.heap.size + 1, 2, none⟩ (.int .i64 (M 2))) := (Below.refl _ _).setCell (by simp) _
      refine hK _ _ b5 ⟨l5, m5⟩ ?_
      replace hB := hB.trans (h4.trans b5)
      have h25 := h23.trans (h4.trans b5)
      clear hK K fz cz l m l5 m5 b5
      generalize w4.setCell ⟨w.heap.size + 1, 2, none⟩ (.int .i64 (M 2)) = w5 at *
      refine wpZ_end (by kernel_rfl) [true, true] rfl (fun w6 h6 g6 => ?_)
      have l : blk w6 w.heap.size (qfn (pre4 L 3)) 22 := g6.1
      have m : blk w6 (w.heap.size + 1) (qfn (pre4 M 3)) 22 := g6.2
      clear g6
      have h26 := h25.trans h6
      replace hs := hs.below h26 hs0
      replace p := p.below h26 p0
      replace q := q.below h26 q0
      replace hB := hB.trans h6
      go_wp2_with (fail)
      go_roundg 1
      case rel => exact ⟨3, by omega, rfl, hs, p, q, l, m, hB⟩
      case measure => omega
    · go_upto_region 5 with (fail)
      refine wp_region_Z 20 w.heap.size [17, 19] (fun bs wx => blk wx w.heap.size (qfn (pre4 L (cond (bs.getD 0 false) 4 3))) 22 ∧ blk wx (w.heap.size + 1) (qfn (pre4 M (cond (bs.getD 1 false) 4 3))) 22) rfl (by kernel_rfl) hB.size (fun bs w1 w2 h hm => ⟨h.1.below hm h.1.lt, h.2.below hm h.2.lt⟩) ⟨l.drew, m.drew⟩ ?_
      replace hs := hs.drew
      replace p := p.drew
      replace q := q.drew
      replace hB : Below w.heap.size w wr.drew := hB.drew
      clear l m
      generalize wr.drew = wd at *
      refine wpZ_take 0 (.int .i64 3) rfl rfl (by kernel_rfl) rfl (fun w1 h1 => by go_simp; exact ⟨rfl, Below.refl _ _⟩) ?_
      simp only [Act.put, List.setIfInBounds_toArray, List.set_cons_zero, List.set_cons_succ]
      refine wpZ_take 1 (.int .i64 3) rfl rfl (by kernel_rfl) rfl (fun w1 h1 => by go_simp; exact ⟨rfl, Below.refl _ _⟩) ?_
      simp only [Act.put, List.setIfInBounds_toArray, List.set_cons_zero, List.set_cons_succ]
      refine wpZ_take 2 (.int .i64 3) rfl rfl (by kernel_rfl) rfl (fun w1 h1 => by go_simp; exact ⟨rfl, Below.refl _ _⟩) ?_
      simp only [Act.put, List.setIfInBounds_toArray, List.set_cons_zero, List.set_cons_succ]
      refine wpZ_take 3 (.int .i64 3) rfl rfl (by kernel_rfl) rfl (fun w1 h1 => by go_simp; exact ⟨rfl, Below.refl _ _⟩) ?_
      simp only [Act.put, List.setIfInBounds_toArray, List.set_cons_zero, List.set_cons_succ]
      refine wpZ_take 4 (.pointer (some ⟨s, 12, none⟩)) rfl rfl (by kernel_rfl) rfl (fun w1 h1 => by go_simp; exact ⟨rfl, Below.refl _ _⟩) ?_
      simp only [Act.put, List.setIfInBounds_toArray, List.set_cons_zero, List.set_cons_succ]
      refine wpZ_take 5 (.pointer (some ⟨s, 15, none⟩)) rfl rfl (by kernel_rfl) rfl (fun w1 h1 => by go_simp; exact ⟨rfl, Below.refl _ _⟩) ?_
      simp only [Act.put, List.setIfInBounds_toArray, List.set_cons_zero, List.set_cons_succ]
      refine wpZ_take 6 (.int .i64 (1)) rfl rfl (by kernel_rfl) rfl (fun w1 h1 => by have hc : w1.cell? ⟨s, 15, none⟩ = some (.int .i64 (1)) := (hs.below h1 hs0).cellIs sgn_3_3; go_simp; exact ⟨rfl, Below.refl _ _⟩) ?_
      simp only [Act.put, List.setIfInBounds_toArray, List.set_cons_zero, List.set_cons_succ]
      refine wpZ_take 7 (.int .i64 3) rfl rfl (by kernel_rfl) rfl (fun w1 h1 => by go_simp; exact ⟨rfl, Below.refl _ _⟩) ?_
      simp only [Act.put, List.setIfInBounds_toArray, List.set_cons_zero, List.set_cons_succ]
      refine wpZ_take 8 (.pointer (some ⟨b, 3, none⟩)) rfl rfl (by kernel_rfl) rfl (fun w1 h1 => by go_simp; exact ⟨rfl, Below.refl _ _⟩) ?_
      simp only [Act.put, List.setIfInBounds_toArray, List.set_cons_zero, List.set_cons_succ]
      refine wpZ_take 9 (.int .i64 (f 3)) rfl rfl (by kernel_rfl) rfl (fun w1 h1 => by have hc : w1.cell? ⟨b, 3, none⟩ = some (.int .i64 (f 3)) := (p.below h1 p0).cellIs (qfn_get _ (by omega)); go_simp; exact ⟨rfl, Below.refl _ _⟩) ?_
      simp only [Act.put, List.setIfInBounds_toArray, List.set_cons_zero, List.set_cons_succ]
      refine wpZ_take 10 (.int .i64 (L 3)) rfl rfl (by kernel_rfl) rfl (fun w1 h1 => by go_simp; exact ⟨by first | rfl | (rw [← hL3]; exact congrArg (fun z => Value.int IntKind.i64 (IntKind.i64.wrap z)) (by omega)), Below.refl _ _⟩) ?_
      simp only [Act.put, List.setIfInBounds_toArray, List.set_cons_zero, List.set_cons_succ]
      refine wpZ_take 11 (.int .i64 3) rfl rfl (by kernel_rfl) rfl (fun w1 h1 => by go_simp; exact ⟨rfl, Below.refl _ _⟩) ?_
      simp only [Act.put, List.setIfInBounds_toArray, List.set_cons_zero, List.set_cons_succ]
      refine wpZ_take 12 (.int .i64 3) rfl rfl (by kernel_rfl) rfl (fun w1 h1 => by go_simp; exact ⟨rfl, Below.refl _ _⟩) ?_
      simp only [Act.put, List.setIfInBounds_toArray, List.set_cons_zero, List.set_cons_succ]
      refine wpZ_take 13 (.int .i64 0) rfl rfl (by kernel_rfl) rfl (fun w1 h1 => by go_simp; exact ⟨rfl, Below.refl _ _⟩) ?_
      simp only [Act.put, List.setIfInBounds_toArray, List.set_cons_zero, List.set_cons_succ]
      refine wpZ_take 14 (.pointer (some ⟨c, 0, none⟩)) rfl rfl (by kernel_rfl) rfl (fun w1 h1 => by go_simp; exact ⟨rfl, Below.refl _ _⟩) ?_
      simp only [Act.put, List.setIfInBounds_toArray, List.set_cons_zero, List.set_cons_succ]
      refine wpZ_take 15 (.int .i64 (M 3)) rfl rfl (by kernel_rfl) rfl (fun w1 h1 => by have hc : w1.cell? ⟨c, 0, none⟩ = some (.int .i64 (g 0)) := (q.below h1 q0).cellIs (qfn_get _ (by omega)); rw [← m3.out] at hc; go_simp; exact ⟨rfl, Below.refl _ _⟩) ?_
      simp only [Act.put, List.setIfInBounds_toArray, List.set_cons_zero, List.set_cons_succ]
      refine wpZ_take 16 (.pointer (some ⟨w.heap.size, 3, none⟩)) rfl rfl (by kernel_rfl) rfl (fun w1 h1 => by go_simp; exact ⟨rfl, Below.refl _ _⟩) ?_
      simp only [Act.put, List.setIfInBounds_toArray, List.set_cons_zero, List.set_cons_succ]
      refine wpZ_one 17 rfl rfl (by kernel_rfl) [false, false] [true, false] rfl rfl (fun w2 h2 g2 K hK => ?_)
      have l : blk w2 w.heap.size (qfn (pre4 L 3)) 22 := g2.1
      have m : blk w2 (w.heap.size + 1) (qfn (pre4 M 3)) 22 := g2.2
      clear g2
      have fz : w2.frozen? ⟨w.heap.size, 3, none⟩ = false := l.free _
      have cz : w2.cell? ⟨w.heap.size, 3, none⟩ = some (.int .i64 (pre4 L 3 3)) := l.cellIs (qfn_get _ (by omega))
      go_simp
      have l3 : blk (w2.setCell ⟨w.heap.size, 3, none⟩ (.int .i64 (L 3))) w.heap.size (qfn (pre4 L 4)) 22 := l.set' (qfn_set (by omega) (by simp [pre4]) (by intro j hj hne; exact pre4_step hne))
      have m3 : blk (w2.setCell ⟨w.heap.size, 3, none⟩ (.int .i64 (L 3))) (w.heap.size + 1) (qfn (pre4 M 3)) 22 := m.setOther (by simp) _
      have b3 : Below w.heap.size w2 (w2.setCell ⟨w.heap.size, 3, none⟩ (.int .i64 (L 3))) := (Below.refl _ _).setCell (by simp) _
      refine hK _ _ b3 ⟨l3, m3⟩ ?_
      replace hB := hB.trans (h2.trans b3)
      have h23 := h2.trans b3
      clear hK K fz cz l m l3 m3 b3
      generalize w2.setCell ⟨w.heap.size, 3, none⟩ (.int .i64 (L 3)) = w3 at *
      refine wpZ_take 18 (.pointer (some ⟨w.heap.size + 1, 3, none⟩)) rfl rfl (by kernel_rfl) rfl (fun w1 h1 => by go_simp; exact ⟨rfl, Below.refl _ _⟩) ?_
      simp only [Act.put, List.setIfInBounds_toArray, List.set_cons_zero, List.set_cons_succ]
      refine wpZ_one 19 rfl rfl (by kernel_rfl) [true, false] [true, true] rfl rfl (fun w4 h4 g4 K hK => ?_)
      have l : blk w4 w.heap.size (qfn (pre4 L 4)) 22 := g4.1
      have m : blk w4 (w.heap.size + 1) (qfn (pre4 M 3)) 22 := g4.2
      clear g4
      have fz : w4.frozen? ⟨w.heap.size + 1, 3, none⟩ = false := m.free _
      have cz : w4.cell? ⟨w.heap.size + 1, 3, none⟩ = some (.int .i64 (pre4 M 3 3)) := m.cellIs (qfn_get _ (by omega))
      go_simp
      have m5 : blk (w4.setCell ⟨w.heap.size + 1, 3, none⟩ (.int .i64 (M 3))) (w.heap.size + 1) (qfn (pre4 M 4)) 22 := m.set' (qfn_set (by omega) (by simp [pre4]) (by intro j hj hne; exact pre4_step hne))
      have l5 : blk (w4.setCell ⟨w.heap.size + 1, 3, none⟩ (.int .i64 (M 3))) w.heap.size (qfn (pre4 L 4)) 22 := l.setOther (by simp) _
      have b5 : Below w.heap.size w4 (w4.setCell ⟨w.heap.size + 1, 3, none⟩ (.int .i64 (M 3))) := (Below.refl _ _).setCell (by simp) _
      refine hK _ _ b5 ⟨l5, m5⟩ ?_
      replace hB := hB.trans (h4.trans b5)
      have h25 := h23.trans (h4.trans b5)
      clear hK K fz cz l m l5 m5 b5
      generalize w4.setCell ⟨w.heap.size + 1, 3, none⟩ (.int .i64 (M 3)) = w5 at *
      refine wpZ_end (by kernel_rfl) [true, true] rfl (fun w6 h6 g6 => ?_)
      have l : blk w6 w.heap.size (qfn (pre4 L 4)) 22 := g6.1
      have m : blk w6 (w.heap.size + 1) (qfn (pre4 M 4)) 22 := g6.2
      clear g6
      have h26 := h25.trans h6
      replace hs := hs.below h26 hs0
      replace p := p.below h26 p0
      replace q := q.below h26 q0
      replace hB := hB.trans h6
      go_wp2_with (fail)
      go_roundg 0
      case rel => exact ⟨4, by omega, rfl, hs, p, q, l, m, hB⟩
      case measure => omega
    · have e4 : qfn (pre4 L 4) = qfn L := qfn_congr fun i hi => by simp [pre4, hi]
      have e5 : qfn (pre4 M 4) = qfn M := qfn_congr fun i hi => by simp [pre4, hi]
      rw [e4] at l
      rw [e5] at m
      go_upto_region 7 with (fail)
      refine wp_region_Y 99 7 rfl (by kernel_rfl) ?_
      replace l := l.drew
      replace m := m.drew
      replace hB : Below w.heap.size w wr.drew := hB.drew
      generalize wr.drew = wo at *
      refine wpY_takeB 0 (.slice (some ⟨w.heap.size, 0, none⟩) 4 4) rfl rfl (by kernel_rfl) (fun w1 => by go_simp; exact ⟨rfl, Below.refl _ _⟩) ?_
      simp only [Act.put, List.setIfInBounds_toArray, List.set_cons_zero, List.set_cons_succ]
      refine wpY_takeB 1 (.slice (some ⟨w.heap.size + 1, 0, none⟩) 4 4) rfl rfl (by kernel_rfl) (fun w1 => by go_simp; exact ⟨rfl, Below.refl _ _⟩) ?_
      simp only [Act.put, List.setIfInBounds_toArray, List.set_cons_zero, List.set_cons_succ]
      refine wpY_takeA 2 (.tuple #[.int .i64 X, .int .i64 0]) rfl rfl (by kernel_rfl) (by kernel_rfl) (fun w1 h1 => ?_) ?_
      · go_simp
        refine (D.out _ _ _ (l.below h1 l.lt) (m.below h1 m.lt)).mono ?_
        rintro e w2 ⟨rfl, h2⟩
        exact ⟨rfl, h2⟩
      simp only [Act.put, List.setIfInBounds_toArray, List.set_cons_zero, List.set_cons_succ]
      refine wpY_takeB 3 (.int .i64 X) rfl rfl (by kernel_rfl) (fun w1 => by go_simp; exact ⟨rfl, Below.refl _ _⟩) ?_
      simp only [Act.put, List.setIfInBounds_toArray, List.set_cons_zero, List.set_cons_succ]
      refine wpY_takeB 4 (.int .i64 0) rfl rfl (by kernel_rfl) (fun w1 => by go_simp; exact ⟨rfl, Below.refl _ _⟩) ?_
      simp only [Act.put, List.setIfInBounds_toArray, List.set_cons_zero, List.set_cons_succ]
      refine wpY_takeB 5 (.int .i64 X) rfl rfl (by kernel_rfl) (fun w1 => by go_simp; exact ⟨rfl, Below.refl _ _⟩) ?_
      simp only [Act.put, List.setIfInBounds_toArray, List.set_cons_zero, List.set_cons_succ]
      refine wpY_takeB 6 (.int .i64 0) rfl rfl (by kernel_rfl) (fun w1 => by go_simp; exact ⟨rfl, Below.refl _ _⟩) ?_
      simp only [Act.put, List.setIfInBounds_toArray, List.set_cons_zero, List.set_cons_succ]
      refine wpY_end (by kernel_rfl) (fun w3 h3 => ?_)
      replace hB := hB.trans (h3.mono hB.size)
      go_wp2_with (fail)
      go_ret2
      exact ⟨rfl, hB⟩
theorem qprC_any (f g : Nat → Int) (s b c : Nat) (w : World) (hf : okQ f = true) (hg : okQ g = true) (hs : blk w s sgnA 151) (p : blk w b (qfn f) 23) (q : blk w c (qfn g) 23) (i : Nat) (hi : i < 4) :
    Calls Try.prog 116 #[.int .i64 i, .pointer (some ⟨s, 0, none⟩), .pointer (some ⟨b, 0, none⟩), .pointer (some ⟨c, 0, none⟩)] w fun e w' => e = .returned (.tuple #[.int .i64 (qprX f g i), .int .i64 0]) ∧ Below w.heap.size w w' := by
  have b1 : ∀ k, k < 4 → IntKind.i64.wrap (1 * f k) = f k := fun k hk => by have := okQ_I hf k hk; rw [IntKind.wrap_i64]; have := this.1; have := (okQ_I hf k hk).2; omega
  have b2 : ∀ k, k < 4 → IntKind.i64.wrap ((-1) * f k) = -f k := fun k hk => by have h := (vb_iff _).1 ((okQ_iff f).1 hf k hk); rw [IntKind.wrap_i64]; omega
  have : i = 0 ∨ i = 1 ∨ i = 2 ∨ i = 3 := by omega
  rcases this with rfl | rfl | rfl | rfl
  · exact qprC0 f g (prL f 0) s b c w hs p q (b1 0 (by omega)) (b2 1 (by omega)) (b2 2 (by omega)) (b2 3 (by omega)) _ (fun x y w h1 h2 => dot4_any _ _ x y w _ (prL_ok hf (by omega)) (prM_ok hg (by omega)) h1 h2)
  · exact qprC1 f g (prL f 1) s b c w hs p q (b1 0 (by omega)) (b1 1 (by omega)) (b1 2 (by omega)) (b2 3 (by omega)) _ (fun x y w h1 h2 => dot4_any _ _ x y w _ (prL_ok hf (by omega)) (prM_ok hg (by omega)) h1 h2)
  · exact qprC2 f g (prL f 2) s b c w hs p q (b1 0 (by omega)) (b2 1 (by omega)) (b1 2 (by omega)) (b1 3 (by omega)) _ (fun x y w h1 h2 => dot4_any _ _ x y w _ (prL_ok hf (by omega)) (prM_ok hg (by omega)) h1 h2)
  · exact qprC3 f g (prL f 3) s b c w hs p q (b1 0 (by omega)) (b1 1 (by omega)) (b2 2 (by omega)) (b1 3 (by omega)) _ (fun x y w h1 h2 => dot4_any _ _ x y w _ (prL_ok hf (by omega)) (prM_ok hg (by omega)) h1 h2)
end Go.Proofs.Ytjnocbjngojigaa
