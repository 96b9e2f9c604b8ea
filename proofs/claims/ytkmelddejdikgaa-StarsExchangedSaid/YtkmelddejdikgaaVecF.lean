/-
  Sines and cosines of package fixed and of its specification: what they return. The same of the specification of vectors: dot, two, Dot, Norm, result, Cross. Vector products, in the package and in its specification. Vector products as a whole, in the package and in its specification.
-/
import Derived.Test.YtkmelddejdikgaaHyp
import Derived.Test.YtkmelddejdikgaaVecA
import Derived.Test.YtkmelddejdikgaaBase
set_option linter.unusedSimpArgs false
set_option linter.unusedVariables false
namespace Go.Proofs.Ytkmelddejdikgaa
open Go.RowKit PM Dt
/-- A product. -/
def mulV (a b : Int) : Int := ratioV a b 1073741824
theorem fitV_I (q : Int) : I64 (fitV q) := by
  unfold fitV inI I64
  split
  · rename_i h; simp at h; omega
  · omega
/-- The sum of k terms, the last first. -/
def psum (y : Int) (t : Nat → Int) : Nat → Int
  | 0 => 0
  | k + 1 => mulV y (wrap64 (t (4 - k) - psum y t k))
theorem wrap64_I {a : Int} (h : I64 a) : wrap64 a = a := by unfold I64 at h; unfold wrap64; omega
attribute [irreducible] psum mulV
end Go.Proofs.Ytkmelddejdikgaa
namespace Go.Proofs.Ytkmelddejdikgaa
open Go.RowKit PM Dt
theorem list_J2 {a b : Int} (ha : I64 a) (hb : I64 b) : ∀ k, k < [a, b].length → I64 ([a, b].getD k 0) := by
  intro k hk
  rcases k with _ | _ | k
  · exact ha
  · exact hb
  · simp at hk; omega
theorem intsJ2 {w : World} {b : Nat} {a c : Int} {t : TypeId} (h : blk w b #[.int .i64 a, .int .i64 c] t) : Ints w (.slice (some ⟨b, 0, none⟩) 2 2) [a, c] :=
  Or.inr ⟨by simp, b, 0, 2, rfl, h.lt, fun k hk => by
    rcases k with _ | _ | k
    · exact h.cellIs rfl
    · exact h.cellIs rfl
    · simp at hk; omega⟩
/-- The nearest integer of (a b - c d) / 2^30. -/
def twoV (a b c d : Int) : Int := rnd (dotS [a, -c] [b, d])
theorem vb_neg {a : Int} (h : vb a = true) : vb (-a) = true := (vb_iff _).2 (by have := (vb_iff a).1 h; omega)
theorem two_fit {a b c d : Int} (ha : vb a = true) (hb : vb b = true) (hc : vb c = true) (hd : vb d = true) : dotV [a, -c] [b, d] = twoV a b c d ∧ dotE [a, -c] [b, d] = 0 := by
  have a0 := vb_prod ha hb
  have a1 := vb_prod (vb_neg hc) hd
  have e : dotS [a, -c] [b, d] = a * b + (-c * d + 0) := by rw [dotS_cons, dotS_cons, dotS_nil]
  have := dotOK (S := dotS [a, -c] [b, d]) (by rw [e]; omega) (by rw [e]; omega)
  unfold dotV dotE twoV
  rw [if_neg (by simp), if_neg (by simp)]
  exact this
theorem two_dot (a b c d : Int) (x y : Nat) (w : World) (ha : vb a = true) (hb : vb b = true) (hc : vb c = true) (hd : vb d = true) (p : blk w x #[.int .i64 a, .int .i64 (-c)] 2) (q : blk w y #[.int .i64 b, .int .i64 d] 2) :
    Calls Try.prog 60 #[.slice (some ⟨x, 0, none⟩) 2 2, .slice (some ⟨y, 0, none⟩) 2 2] w fun e w' => e = .returned (.tuple #[.int .i64 (twoV a b c d), .int .i64 0]) ∧ Below w.heap.size w w' :=
  (dot_any [a, -c] [b, d] _ _ w (intsJ2 p) (intsJ2 q) (list_J2 (vb_I ha) (vb_I (vb_neg hc))) (list_J2 (vb_I hb) (vb_I hd))).mono fun e w' h => ⟨h.1.trans (by rw [(two_fit ha hb hc hd).1, (two_fit ha hb hc hd).2]), h.2⟩
set_option maxRecDepth 100000 in
set_option maxHeartbeats 2000000 in
theorem vdot_any (f g : Nat → Int) (w : World) : Calls Try.prog 77 #[.agg (vfn f), .agg (vfn g)] w fun e w' => e = .returned (.tuple #[.int .i64 (vdotV f g), .int .i64 (vdotE f g)]) ∧ Below w.heap.size w w' := by
  have V1 := Lib.hid (fun w => valid_any f w)
  have V2 := Lib.hid (fun w => valid_any g w)
  have D := Lib.hid (fun h1 h2 => fun x y w p q => dot3_any f g x y w h1 h2 p q)
  unfold vdotV vdotE
  obtain ⟨bf, hf⟩ : ∃ b, okV f = b := ⟨_, rfl⟩
  obtain ⟨bg, hg⟩ : ∃ b, okV g = b := ⟨_, rfl⟩
  rw [hf] at V1 D ⊢
  rw [hg] at V2 D ⊢
  clear hf hg
  obtain ⟨X, hX⟩ : ∃ X, X = rnd (d3 f g) := ⟨_, rfl⟩
  rw [← hX] at D ⊢
  clear hX
  go_enter Try.func77, Try.ntmps77
  go_upto_region 1 with (fail)
  have p : blk ((w.alloc (.cells (vfn f) 31)).alloc (.cells (vfn g) 31)) w.heap.size (vfn f) 31 := (blk.new _ _ _).alloc _
  have q : blk ((w.alloc (.cells (vfn f) 31)).alloc (.cells (vfn g) 31)) (w.heap.size + 1) (vfn g) 31 := blk.new' (by simp)
  have hB : Below w.heap.size w ((w.alloc (.cells (vfn f) 31)).alloc (.cells (vfn g) 31)) := by go_grown
  generalize (w.alloc (.cells (vfn f) 31)).alloc (.cells (vfn g) 31) = w0 at *
  cases bf
  · go_wp2_with (first | (refine wpList_load_rowG ?hw _ _ rfl _ rfl _ _ _ _ p Try.underlying31 rfl ?hi ?_; (case hw => (first | rfl | (simp [Region.wanted, yielded]; done))); (case hi => (rw [vfn_size]; kernel_rfl))) | (refine wpList_load_rowG ?hw _ _ rfl _ rfl _ _ _ _ q Try.underlying31 rfl ?hi ?_; (case hw => (first | rfl | (simp [Region.wanted, yielded]; done))); (case hi => (rw [vfn_size]; kernel_rfl))) | (go_at_call 78; with_reducible refine (V1.out _).mono ?_; rintro e w1 ⟨rfl, hb⟩; replace hB := hB.trans (hb.mono hB.size); replace p := p.below hb p.lt; replace q := q.below hb q.lt; clear hb) | (go_at_call 78; with_reducible refine (V2.out _).mono ?_; rintro e w1 ⟨rfl, hb⟩; replace hB := hB.trans (hb.mono hB.size); replace p := p.below hb p.lt; replace q := q.below hb q.lt; clear hb))
    go_ret2
    exact ⟨rfl, hB⟩
  cases bg
  · go_wp2_with (first | (refine wpList_load_rowG ?hw _ _ rfl _ rfl _ _ _ _ p Try.underlying31 rfl ?hi ?_; (case hw => (first | rfl | (simp [Region.wanted, yielded]; done))); (case hi => (rw [vfn_size]; kernel_rfl))) | (refine wpList_load_rowG ?hw _ _ rfl _ rfl _ _ _ _ q Try.underlying31 rfl ?hi ?_; (case hw => (first | rfl | (simp [Region.wanted, yielded]; done))); (case hi => (rw [vfn_size]; kernel_rfl))) | (go_at_call 78; with_reducible refine (V1.out _).mono ?_; rintro e w1 ⟨rfl, hb⟩; replace hB := hB.trans (hb.mono hB.size); replace p := p.below hb p.lt; replace q := q.below hb q.lt; clear hb) | (go_at_call 78; with_reducible refine (V2.out _).mono ?_; rintro e w1 ⟨rfl, hb⟩; replace hB := hB.trans (hb.mono hB.size); replace p := p.below hb p.lt; replace q := q.below hb q.lt; clear hb))
    go_ret2
    exact ⟨rfl, hB⟩
  replace D := Lib.hid (D.out rfl rfl)
  go_upto_region 3 with (first | (refine wpList_load_rowG ?hw _ _ rfl _ rfl _ _ _ _ p Try.underlying31 rfl ?hi ?_; (case hw => (first | rfl | (simp [Region.wanted, yielded]; done))); (case hi => (rw [vfn_size]; kernel_rfl))) | (refine wpList_load_rowG ?hw _ _ rfl _ rfl _ _ _ _ q Try.underlying31 rfl ?hi ?_; (case hw => (first | rfl | (simp [Region.wanted, yielded]; done))); (case hi => (rw [vfn_size]; kernel_rfl))) | (go_at_call 78; with_reducible refine (V1.out _).mono ?_; rintro e w1 ⟨rfl, hb⟩; replace hB := hB.trans (hb.mono hB.size); replace p := p.below hb p.lt; replace q := q.below hb q.lt; clear hb) | (go_at_call 78; with_reducible refine (V2.out _).mono ?_; rintro e w1 ⟨rfl, hb⟩; replace hB := hB.trans (hb.mono hB.size); replace p := p.below hb p.lt; replace q := q.below hb q.lt; clear hb))
  refine wp_region_Y 99 7 rfl (by kernel_rfl) ?_
  replace p := p.drew
  replace q := q.drew
  replace hB : Below w.heap.size w _ := hB.drew
  generalize w1.drew = wo at *
  refine wpY_takeB 0 (.slice (some ⟨w.heap.size, 0, none⟩) 3 3) rfl rfl (by kernel_rfl) (fun w1 => by go_simp; exact ⟨rfl, Below.refl _ _⟩) ?_
  simp only [Act.put, List.setIfInBounds_toArray, List.set_cons_zero, List.set_cons_succ]
  refine wpY_takeB 1 (.slice (some ⟨w.heap.size + 1, 0, none⟩) 3 3) rfl rfl (by kernel_rfl) (fun w1 => by go_simp; exact ⟨rfl, Below.refl _ _⟩) ?_
  simp only [Act.put, List.setIfInBounds_toArray, List.set_cons_zero, List.set_cons_succ]
  refine wpY_takeA 2 (.tuple #[.int .i64 X, .int .i64 0]) rfl rfl (by kernel_rfl) (by kernel_rfl) (fun w1 h1 => ?_) ?_
  · go_simp
    refine (D.out _ _ _ (p.below h1 p.lt) (q.below h1 q.lt)).mono ?_
    rintro e w2 ⟨rfl, h2⟩
    exact ⟨rfl, h2⟩
  simp only [Act.put, List.setIfInBounds_toArray, List.set_cons_zero, List.set_cons_succ]
  refine wpY_takeB 3 (.int .i64 X) rfl rfl (by kernel_rfl) (fun w1 => by go_simp; exact ⟨rfl, Below.refl _ _⟩) ?_
  simp only [Act.put, List.setIfInBounds_toArray, List.set_cons_zero, List.set_cons_succ]
  refine wpY_takeB 4 (.int .i64 0) rfl rfl (by kernel_rfl) (fun w1 => by go_simp; exact ⟨rfl, Below.refl _ _⟩) ?_
  simp only [Act.put, List.setIfInBounds_toArray, List.set_cons_zero, List.set_cons_succ]
  refine wpY_takeB 5 (.int .i64 X) rfl rfl (by kernel_rfl) (fun w1 => by go_simp; exact ⟨rfl, Below.refl _ _⟩) ?_
  simp only [Act.put, List.setIfInBounds_toArray, List.set_cons_zero, List.set_cons_succ]
  refine wpY_takeB 6 (.int .i64 0) rfl rfl (by kernel_rfl) (fun w1 => by go_simp; exact ⟨rfl, Below.refl _ _⟩) ?_
  simp only [Act.put, List.setIfInBounds_toArray, List.set_cons_zero, List.set_cons_succ]
  refine wpY_end (by kernel_rfl) (fun w3 h3 => ?_)
  replace hB := hB.trans (h3.mono hB.size)
  go_wp2_with (fail)
  go_ret2
  exact ⟨rfl, hB⟩
def normV (f : Nat → Int) : Int := if okV f then fitV (hypQ [f 0, f 1, f 2]) else 0
def normE (f : Nat → Int) : Int := if okV f then fitE (hypQ [f 0, f 1, f 2]) else 2
set_option maxRecDepth 100000 in
set_option maxHeartbeats 1000000 in
theorem vnorm_any (f : Nat → Int) (w : World) : Calls Try.prog 36 #[.agg (vfn f)] w fun e w' => e = .returned (.tuple #[.int .i64 (normV f), .int .i64 (normE f)]) ∧ Below w.heap.size w w' := by
  have V1 := Lib.hid (fun w => valid_any f w)
  have D := Lib.hid (fun (h : okV f = true) (b : Nat) (w : World) (p : blk w b (vfn f) 31) => hypot_any [f 0, f 1, f 2] _ w (ints3 p) (list_I3 (okV_I h)))
  rw [show (if 8 < [f 0, f 1, f 2].length then (0 : Int) else fitV (hypQ [f 0, f 1, f 2])) = fitV (hypQ [f 0, f 1, f 2]) from if_neg (by simp), show (if 8 < [f 0, f 1, f 2].length then (2 : Int) else fitE (hypQ [f 0, f 1, f 2])) = fitE (hypQ [f 0, f 1, f 2]) from if_neg (by simp)] at D
  unfold normV normE
  obtain ⟨bf, hf⟩ : ∃ b, okV f = b := ⟨_, rfl⟩
  rw [hf] at V1 D ⊢
  clear hf
  generalize fitV (hypQ [f 0, f 1, f 2]) = X at *
  generalize fitE (hypQ [f 0, f 1, f 2]) = E at *
  go_enter Try.func36, Try.ntmps36
  go_upto_region 1 with (fail)
  have p : blk (w.alloc (.cells (vfn f) 31)) w.heap.size (vfn f) 31 := blk.new _ _ _
  have hB : Below w.heap.size w (w.alloc (.cells (vfn f) 31)) := by go_grown
  generalize w.alloc (.cells (vfn f) 31) = w0 at *
  cases bf
  · go_wp2_with (first | (refine wpList_load_rowG ?hw _ _ rfl _ rfl _ _ _ _ p Try.underlying31 rfl ?hi ?_; (case hw => (first | rfl | (simp [Region.wanted, yielded]; done))); (case hi => (rw [vfn_size]; kernel_rfl))) | (go_at_call 78; refine (V1.out _).mono ?_; rintro e w1 ⟨rfl, hb⟩; replace hB := hB.trans (hb.mono hB.size); replace p := p.below hb p.lt; clear hb))
    go_ret2
    exact ⟨rfl, hB⟩
  · replace D := Lib.hid (D.out rfl)
    go_wp2_with (first
      | (refine wpList_load_rowG ?hw _ _ rfl _ rfl _ _ _ _ p Try.underlying31 rfl ?hi ?_; (case hw => (first | rfl | (simp [Region.wanted, yielded]; done))); (case hi => (rw [vfn_size]; kernel_rfl)))
      | (go_at_call 78; refine (V1.out _).mono ?_; rintro e w1 ⟨rfl, hb⟩; replace hB := hB.trans (hb.mono hB.size); replace p := p.below hb p.lt; clear hb)
      | (go_at_call 80; refine (D.out _ _ p).mono ?_; rintro e w2 ⟨rfl, rfl⟩))
    go_ret2
    exact ⟨rfl, hB⟩
end Go.Proofs.Ytkmelddejdikgaa
namespace Go.Proofs.Ytkmelddejdikgaa
open Go.RowKit PM Dt
/-- A component of the vector product. -/
def crossX (f g : Nat → Int) (i : Nat) : Int := twoV (f ((i + 1) % 3)) (g ((i + 2) % 3)) (f ((i + 2) % 3)) (g ((i + 1) % 3))
set_option maxRecDepth 100000 in
set_option maxHeartbeats 1000000 in
theorem crossC0 (f g : Nat → Int) (b c : Nat) (w : World) (p : blk w b (vfn f) 31) (q : blk w c (vfn g) 31) (hw1 : wrap64 (-f 2) = -f 2) (X : Int)
    (D : Hid (∀ x y w, blk w x #[.int .i64 (f 1), .int .i64 (-f 2)] 2 → blk w y #[.int .i64 (g 2), .int .i64 (g 1)] 2 → Calls Try.prog 60 #[.slice (some ⟨x, 0, none⟩) 2 2, .slice (some ⟨y, 0, none⟩) 2 2] w fun e w' => e = .returned (.tuple #[.int .i64 X, .int .i64 0]) ∧ Below w.heap.size w w')) :
    Calls Try.prog 127 #[.int .i64 0, .pointer (some ⟨b, 0, none⟩), .pointer (some ⟨c, 0, none⟩)] w fun e w' => e = .returned (.tuple #[.int .i64 X, .int .i64 0]) ∧ Below w.heap.size w w' := by
  have hw2 : IntKind.i64.wrap (-f 2) = -f 2 := by rw [IntKind.wrap_i64]; unfold wrap64 at hw1; exact hw1
  go_enter Try.func127, Try.ntmps127
  go_upto_region 2 with (fail)
  have hB : More w w := Below.refl _ _
  refine wp_region_X 18 (by kernel_rfl) (by kernel_rfl) ?_
  replace p := p.drew
  replace q := q.drew
  replace hB : More w w.drew := hB.drew
  generalize hwo : w.drew = wo at *
  refine wpX_take 0 (.int .i64 1) rfl rfl (by kernel_rfl) (fun w1 h1 => by go_simp; exact ⟨rfl, Below.refl _ _⟩) ?_
  simp only [Act.put, List.setIfInBounds_toArray, List.set_cons_zero, List.set_cons_succ]
  refine wpX_take 1 (.pointer (some ⟨b, 1, none⟩)) rfl rfl (by kernel_rfl) (fun w1 h1 => by go_simp; exact ⟨rfl, Below.refl _ _⟩) ?_
  simp only [Act.put, List.setIfInBounds_toArray, List.set_cons_zero, List.set_cons_succ]
  refine wpX_take 2 (.int .i64 (f 1)) rfl rfl (by kernel_rfl) (fun w1 h1 => by have hc : w1.cell? ⟨b, 1, none⟩ = some (.int .i64 (f 1)) := (p.below h1 p.lt).cellIs (vfn_get _ (by omega)); go_simp; exact ⟨rfl, Below.refl _ _⟩) ?_
  simp only [Act.put, List.setIfInBounds_toArray, List.set_cons_zero, List.set_cons_succ]
  refine wpX_take 3 (.int .i64 2) rfl rfl (by kernel_rfl) (fun w1 h1 => by go_simp; exact ⟨rfl, Below.refl _ _⟩) ?_
  simp only [Act.put, List.setIfInBounds_toArray, List.set_cons_zero, List.set_cons_succ]
  refine wpX_take 4 (.pointer (some ⟨b, 2, none⟩)) rfl rfl (by kernel_rfl) (fun w1 h1 => by go_simp; exact ⟨rfl, Below.refl _ _⟩) ?_
  simp only [Act.put, List.setIfInBounds_toArray, List.set_cons_zero, List.set_cons_succ]
  refine wpX_take 5 (.int .i64 (f 2)) rfl rfl (by kernel_rfl) (fun w1 h1 => by have hc : w1.cell? ⟨b, 2, none⟩ = some (.int .i64 (f 2)) := (p.below h1 p.lt).cellIs (vfn_get _ (by omega)); go_simp; exact ⟨rfl, Below.refl _ _⟩) ?_
  simp only [Act.put, List.setIfInBounds_toArray, List.set_cons_zero, List.set_cons_succ]
  refine wpX_take 6 (.int .i64 (-f 2)) rfl rfl (by kernel_rfl) (fun w1 h1 => by go_simp; exact ⟨by first | rfl | rw [hw2], Below.refl _ _⟩) ?_
  simp only [Act.put, List.setIfInBounds_toArray, List.set_cons_zero, List.set_cons_succ]
  refine wpX_take 8 (.int .i64 2) rfl rfl (by kernel_rfl) (fun w1 h1 => by go_simp; exact ⟨rfl, Below.refl _ _⟩) ?_
  simp only [Act.put, List.setIfInBounds_toArray, List.set_cons_zero, List.set_cons_succ]
  refine wpX_take 9 (.pointer (some ⟨c, 2, none⟩)) rfl rfl (by kernel_rfl) (fun w1 h1 => by go_simp; exact ⟨rfl, Below.refl _ _⟩) ?_
  simp only [Act.put, List.setIfInBounds_toArray, List.set_cons_zero, List.set_cons_succ]
  refine wpX_take 10 (.int .i64 (g 2)) rfl rfl (by kernel_rfl) (fun w1 h1 => by have hc : w1.cell? ⟨c, 2, none⟩ = some (.int .i64 (g 2)) := (q.below h1 q.lt).cellIs (vfn_get _ (by omega)); go_simp; exact ⟨rfl, Below.refl _ _⟩) ?_
  simp only [Act.put, List.setIfInBounds_toArray, List.set_cons_zero, List.set_cons_succ]
  refine wpX_take 11 (.int .i64 1) rfl rfl (by kernel_rfl) (fun w1 h1 => by go_simp; exact ⟨rfl, Below.refl _ _⟩) ?_
  simp only [Act.put, List.setIfInBounds_toArray, List.set_cons_zero, List.set_cons_succ]
  refine wpX_take 12 (.pointer (some ⟨c, 1, none⟩)) rfl rfl (by kernel_rfl) (fun w1 h1 => by go_simp; exact ⟨rfl, Below.refl _ _⟩) ?_
  simp only [Act.put, List.setIfInBounds_toArray, List.set_cons_zero, List.set_cons_succ]
  refine wpX_take 13 (.int .i64 (g 1)) rfl rfl (by kernel_rfl) (fun w1 h1 => by have hc : w1.cell? ⟨c, 1, none⟩ = some (.int .i64 (g 1)) := (q.below h1 q.lt).cellIs (vfn_get _ (by omega)); go_simp; exact ⟨rfl, Below.refl _ _⟩) ?_
  simp only [Act.put, List.setIfInBounds_toArray, List.set_cons_zero, List.set_cons_succ]
  refine wpX_two 7 14 rfl rfl rfl rfl (by omega) (by omega) (by kernel_rfl) ?_ ?_
  · intro w1 h1 K hK
    go_simp
    refine hK _ _ ((Below.refl _ _).alloc (Nat.le_refl _) _) ?_
    have hB2 : More w (w1.alloc (.cells #[.int .i64 (f 1), .int .i64 (-f 2)] 2)) := More.trans hB (More.trans h1 (Below.alloc (Below.refl _ _) (Nat.le_refl _) _))
    have n1 := blk.new w1 #[.int .i64 (f 1), .int .i64 (-f 2)] 2
    clear hK K h1
    generalize w1.heap.size = b1 at *
    generalize w1.alloc (.cells #[.int .i64 (f 1), .int .i64 (-f 2)] 2) = w2 at *
    refine wpX_one 14 rfl rfl (by omega) (by kernel_rfl) (fun w3 h3 K hK => ?_)
    go_simp
    refine hK _ _ ((Below.refl _ _).alloc (Nat.le_refl _) _) ?_
    replace hB2 : More w (w3.alloc (.cells #[.int .i64 (g 2), .int .i64 (g 1)] 2)) := More.trans hB2 (More.trans h3 (Below.alloc (Below.refl _ _) (Nat.le_refl _) _))
    replace n1 := (n1.below h3 n1.lt).alloc (.cells #[.int .i64 (g 2), .int .i64 (g 1)] 2)
    have n2 := blk.new w3 #[.int .i64 (g 2), .int .i64 (g 1)] 2
    clear hK K h3
    generalize w3.heap.size = b2 at *
    generalize w3.alloc (.cells #[.int .i64 (g 2), .int .i64 (g 1)] 2) = w4 at *
    refine wpX_take 15 (.tuple #[.int .i64 X, .int .i64 0]) rfl rfl (by kernel_rfl) (fun w1 h1 => ?_) ?_
    · go_simp
      refine (D.out _ _ _ (n1.below h1 n1.lt) (n2.below h1 n2.lt)).mono ?_
      rintro e w5 ⟨rfl, h5⟩
      exact ⟨rfl, h5⟩
    simp only [Act.put, List.setIfInBounds_toArray, List.set_cons_zero, List.set_cons_succ]
    refine wpX_take 16 (.int .i64 X) rfl rfl (by kernel_rfl) (fun w1 h1 => by go_simp; exact ⟨rfl, Below.refl _ _⟩) ?_
    simp only [Act.put, List.setIfInBounds_toArray, List.set_cons_zero, List.set_cons_succ]
    refine wpX_take 17 (.int .i64 0) rfl rfl (by kernel_rfl) (fun w1 h1 => by go_simp; exact ⟨rfl, Below.refl _ _⟩) ?_
    simp only [Act.put, List.setIfInBounds_toArray, List.set_cons_zero, List.set_cons_succ]
    refine wpX_tail (by kernel_rfl) (fun wt ht => ?_)
    simp only [List.drop_succ_cons, List.drop_zero]
    replace hB2 := More.trans hB2 ht
    go_wp2_with (fail)
    go_ret2
    exact ⟨rfl, hB2⟩
  · intro w1 h1 K hK
    go_simp
    refine hK _ _ ((Below.refl _ _).alloc (Nat.le_refl _) _) ?_
    have hB2 : More w (w1.alloc (.cells #[.int .i64 (g 2), .int .i64 (g 1)] 2)) := More.trans hB (More.trans h1 (Below.alloc (Below.refl _ _) (Nat.le_refl _) _))
    have n1 := blk.new w1 #[.int .i64 (g 2), .int .i64 (g 1)] 2
    clear hK K h1
    generalize w1.heap.size = b1 at *
    generalize w1.alloc (.cells #[.int .i64 (g 2), .int .i64 (g 1)] 2) = w2 at *
    refine wpX_one 7 rfl rfl (by omega) (by kernel_rfl) (fun w3 h3 K hK => ?_)
    go_simp
    refine hK _ _ ((Below.refl _ _).alloc (Nat.le_refl _) _) ?_
    replace hB2 : More w (w3.alloc (.cells #[.int .i64 (f 1), .int .i64 (-f 2)] 2)) := More.trans hB2 (More.trans h3 (Below.alloc (Below.refl _ _) (Nat.le_refl _) _))
    replace n1 := (n1.below h3 n1.lt).alloc (.cells #[.int .i64 (f 1), .int .i64 (-f 2)] 2)
    have n2 := blk.new w3 #[.int .i64 (f 1), .int .i64 (-f 2)] 2
    clear hK K h3
    generalize w3.heap.size = b2 at *
    generalize w3.alloc (.cells #[.int .i64 (f 1), .int .i64 (-f 2)] 2) = w4 at *
    refine wpX_take 15 (.tuple #[.int .i64 X, .int .i64 0]) rfl rfl (by kernel_rfl) (fun w1 h1 => ?_) ?_
    · go_simp
      refine (D.out _ _ _ (n2.below h1 n2.lt) (n1.below h1 n1.lt)).mono ?_
      rintro e w5 ⟨rfl, h5⟩
      exact ⟨rfl, h5⟩
    simp only [Act.put, List.setIfInBounds_toArray, List.set_cons_zero, List.set_cons_succ]
    refine wpX_take 16 (.int .i64 X) rfl rfl (by kernel_rfl) (fun w1 h1 => by go_simp; exact ⟨rfl, Below.refl _ _⟩) ?_
    simp only [Act.put, List.setIfInBounds_toArray, List.set_cons_zero, List.set_cons_succ]
    refine wpX_take 17 (.int .i64 0) rfl rfl (by kernel_rfl) (fun w1 h1 => by go_simp; exact ⟨rfl, Below.refl _ _⟩) ?_
    simp only [Act.put, List.setIfInBounds_toArray, List.set_cons_zero, List.set_cons_succ]
    refine wpX_tail (by kernel_rfl) (fun wt ht => ?_)
    simp only [List.drop_succ_cons, List.drop_zero]
    replace hB2 := More.trans hB2 ht
    go_wp2_with (fail)
    go_ret2
    exact ⟨rfl, hB2⟩
set_option maxRecDepth 100000 in
set_option maxHeartbeats 1000000 in
theorem crossC1 (f g : Nat → Int) (b c : Nat) (w : World) (p : blk w b (vfn f) 31) (q : blk w c (vfn g) 31) (hw1 : wrap64 (-f 0) = -f 0) (X : Int)
    (D : Hid (∀ x y w, blk w x #[.int .i64 (f 2), .int .i64 (-f 0)] 2 → blk w y #[.int .i64 (g 0), .int .i64 (g 2)] 2 → Calls Try.prog 60 #[.slice (some ⟨x, 0, none⟩) 2 2, .slice (some ⟨y, 0, none⟩) 2 2] w fun e w' => e = .returned (.tuple #[.int .i64 X, .int .i64 0]) ∧ Below w.heap.size w w')) :
    Calls Try.prog 127 #[.int .i64 1, .pointer (some ⟨b, 0, none⟩), .pointer (some ⟨c, 0, none⟩)] w fun e w' => e = .returned (.tuple #[.int .i64 X, .int .i64 0]) ∧ Below w.heap.size w w' := by
  have hw2 : IntKind.i64.wrap (-f 0) = -f 0 := by rw [IntKind.wrap_i64]; unfold wrap64 at hw1; exact hw1
  go_enter Try.func127, Try.ntmps127
  go_upto_region 2 with (fail)
  have hB : More w w := Below.refl _ _
  refine wp_region_X 18 (by kernel_rfl) (by kernel_rfl) ?_
  replace p := p.drew
  replace q := q.drew
  replace hB : More w w.drew := hB.drew
  generalize hwo : w.drew = wo at *
  refine wpX_take 0 (.int .i64 2) rfl rfl (by kernel_rfl) (fun w1 h1 => by go_simp; exact ⟨rfl, Below.refl _ _⟩) ?_
  simp only [Act.put, List.setIfInBounds_toArray, List.set_cons_zero, List.set_cons_succ]
  refine wpX_take 1 (.pointer (some ⟨b, 2, none⟩)) rfl rfl (by kernel_rfl) (fun w1 h1 => by go_simp; exact ⟨rfl, Below.refl _ _⟩) ?_
  simp only [Act.put, List.setIfInBounds_toArray, List.set_cons_zero, List.set_cons_succ]
  refine wpX_take 2 (.int .i64 (f 2)) rfl rfl (by kernel_rfl) (fun w1 h1 => by have hc : w1.cell? ⟨b, 2, none⟩ = some (.int .i64 (f 2)) := (p.below h1 p.lt).cellIs (vfn_get _ (by omega)); go_simp; exact ⟨rfl, Below.refl _ _⟩) ?_
  simp only [Act.put, List.setIfInBounds_toArray, List.set_cons_zero, List.set_cons_succ]
  refine wpX_take 3 (.int .i64 0) rfl rfl (by kernel_rfl) (fun w1 h1 => by go_simp; exact ⟨rfl, Below.refl _ _⟩) ?_
  simp only [Act.put, List.setIfInBounds_toArray, List.set_cons_zero, List.set_cons_succ]
  refine wpX_take 4 (.pointer (some ⟨b, 0, none⟩)) rfl rfl (by kernel_rfl) (fun w1 h1 => by go_simp; exact ⟨rfl, Below.refl _ _⟩) ?_
  simp only [Act.put, List.setIfInBounds_toArray, List.set_cons_zero, List.set_cons_succ]
  refine wpX_take 5 (.int .i64 (f 0)) rfl rfl (by kernel_rfl) (fun w1 h1 => by have hc : w1.cell? ⟨b, 0, none⟩ = some (.int .i64 (f 0)) := (p.below h1 p.lt).cellIs (vfn_get _ (by omega)); go_simp; exact ⟨rfl, Below.refl _ _⟩) ?_
  simp only [Act.put, List.setIfInBounds_toArray, List.set_cons_zero, List.set_cons_succ]
  refine wpX_take 6 (.int .i64 (-f 0)) rfl rfl (by kernel_rfl) (fun w1 h1 => by go_simp; exact ⟨by first | rfl | rw [hw2], Below.refl _ _⟩) ?_
  simp only [Act.put, List.setIfInBounds_toArray, List.set_cons_zero, List.set_cons_succ]
  refine wpX_take 8 (.int .i64 0) rfl rfl (by kernel_rfl) (fun w1 h1 => by go_simp; exact ⟨rfl, Below.refl _ _⟩) ?_
  simp only [Act.put, List.setIfInBounds_toArray, List.set_cons_zero, List.set_cons_succ]
  refine wpX_take 9 (.pointer (some ⟨c, 0, none⟩)) rfl rfl (by kernel_rfl) (fun w1 h1 => by go_simp; exact ⟨rfl, Below.refl _ _⟩) ?_
  simp only [Act.put, List.setIfInBounds_toArray, List.set_cons_zero, List.set_cons_succ]
  refine wpX_take 10 (.int .i64 (g 0)) rfl rfl (by kernel_rfl) (fun w1 h1 => by have hc : w1.cell? ⟨c, 0, none⟩ = some (.int .i64 (g 0)) := (q.below h1 q.lt).cellIs (vfn_get _ (by omega)); go_simp; exact ⟨rfl, Below.refl _ _⟩) ?_
  simp only [Act.put, List.setIfInBounds_toArray, List.set_cons_zero, List.set_cons_succ]
  refine wpX_take 11 (.int .i64 2) rfl rfl (by kernel_rfl) (fun w1 h1 => by go_simp; exact ⟨rfl, Below.refl _ _⟩) ?_
  simp only [Act.put, List.setIfInBounds_toArray, List.set_cons_zero, List.set_cons_succ]
  refine wpX_take 12 (.pointer (some ⟨c, 2, none⟩)) rfl rfl (by kernel_rfl) (fun w1 h1 => by go_simp; exact ⟨rfl, Below.refl _ _⟩) ?_
  simp only [Act.put, List.setIfInBounds_toArray, List.set_cons_zero, List.set_cons_succ]
  refine wpX_take 13 (.int .i64 (g 2)) rfl rfl (by kernel_rfl) (fun w1 h1 => by have hc : w1.cell? ⟨c, 2, none⟩ = some (.int .i64 (g 2)) := (q.below h1 q.lt).cellIs (vfn_get _ (by omega)); go_simp; exact ⟨rfl, Below.refl _ _⟩) ?_
  simp only [Act.put, List.setIfInBounds_toArray, List.set_cons_zero, List.set_cons_succ]
  refine wpX_two 7 14 rfl rfl rfl rfl (by omega) (by omega) (by kernel_rfl) ?_ ?_
  · intro w1 h1 K hK
    go_simp
    refine hK _ _ ((Below.refl _ _).alloc (Nat.le_refl _) _) ?_
    have hB2 : More w (w1.alloc (.cells #[.int .i64 (f 2), .int .i64 (-f 0)] 2)) := More.trans hB (More.trans h1 (Below.alloc (Below.refl _ _) (Nat.le_refl _) _))
    have n1 := blk.new w1 #[.int .i64 (f 2), .int .i64 (-f 0)] 2
    clear hK K h1
    generalize w1.heap.size = b1 at *
    generalize w1.alloc (.cells #[.int .i64 (f 2), .int .i64 (-f 0)] 2) = w2 at *
    refine wpX_one 14 rfl rfl (by omega) (by kernel_rfl) (fun w3 h3 K hK => ?_)
    go_simp
    refine hK _ _ ((Below.refl _ _).alloc (Nat.le_refl _) _) ?_
    replace hB2 : More w (w3.alloc (.cells #[.int .i64 (g 0), .int .i64 (g 2)] 2)) := More.trans hB2 (More.trans h3 (Below.alloc (Below.refl _ _) (Nat.le_refl _) _))
    replace n1 := (n1.below h3 n1.lt).alloc (.cells #[.int .i64 (g 0), .int .i64 (g 2)] 2)
    have n2 := blk.new w3 #[.int .i64 (g 0), .int .i64 (g 2)] 2
    clear hK K h3
    generalize w3.heap.size = b2 at *
    generalize w3.alloc (.cells #[.int .i64 (g 0), .int .i64 (g 2)] 2) = w4 at *
    refine wpX_take 15 (.tuple #[.int .i64 X, .int .i64 0]) rfl rfl (by kernel_rfl) (fun w1 h1 => ?_) ?_
    · go_simp
      refine (D.out _ _ _ (n1.below h1 n1.lt) (n2.below h1 n2.lt)).mono ?_
      rintro e w5 ⟨rfl, h5⟩
      exact ⟨rfl, h5⟩
    simp only [Act.put, List.setIfInBounds_toArray, List.set_cons_zero, List.set_cons_succ]
    refine wpX_take 16 (.int .i64 X) rfl rfl (by kernel_rfl) (fun w1 h1 => by go_simp; exact ⟨rfl, Below.refl _ _⟩) ?_
    simp only [Act.put, List.setIfInBounds_toArray, List.set_cons_zero, List.set_cons_succ]
    refine wpX_take 17 (.int .i64 0) rfl rfl (by kernel_rfl) (fun w1 h1 => by go_simp; exact ⟨rfl, Below.refl _ _⟩) ?_
    simp only [Act.put, List.setIfInBounds_toArray, List.set_cons_zero, List.set_cons_succ]
    refine wpX_tail (by kernel_rfl) (fun wt ht => ?_)
    simp only [List.drop_succ_cons, List.drop_zero]
    replace hB2 := More.trans hB2 ht
    go_wp2_with (fail)
    go_ret2
    exact ⟨rfl, hB2⟩
  · intro w1 h1 K hK
    go_simp
    refine hK _ _ ((Below.refl _ _).alloc (Nat.le_refl _) _) ?_
    have hB2 : More w (w1.alloc (.cells #[.int .i64 (g 0), .int .i64 (g 2)] 2)) := More.trans hB (More.trans h1 (Below.alloc (Below.refl _ _) (Nat.le_refl _) _))
    have n1 := blk.new w1 #[.int .i64 (g 0), .int .i64 (g 2)] 2
    clear hK K h1
    generalize w1.heap.size = b1 at *
    generalize w1.alloc (.cells #[.int .i64 (g 0), .int .i64 (g 2)] 2) = w2 at *
    refine wpX_one 7 rfl rfl (by omega) (by kernel_rfl) (fun w3 h3 K hK => ?_)
    go_simp
    refine hK _ _ ((Below.refl _ _).alloc (Nat.le_refl _) _) ?_
    replace hB2 : More w (w3.alloc (.cells #[.int .i64 (f 2), .int .i64 (-f 0)] 2)) := More.trans hB2 (More.trans h3 (Below.alloc (Below.refl _ _) (Nat.le_refl _) _))
    replace n1 := (n1.below h3 n1.lt).alloc (.cells #[.int .i64 (f 2), .int .i64 (-f 0)] 2)
    have n2 := blk.new w3 #[.int .i64 (f 2), .int .i64 (-f 0)] 2
    clear hK K h3
    generalize w3.heap.size = b2 at *
    generalize w3.alloc (.cells #[.int .i64 (f 2), .int .i64 (-f 0)] 2) = w4 at *
    refine wpX_take 15 (.tuple #[.int .i64 X, .int .i64 0]) rfl rfl (by kernel_rfl) (fun w1 h1 => ?_) ?_
    · go_simp
      refine (D.out _ _ _ (n2.below h1 n2.lt) (n1.below h1 n1.lt)).mono ?_
      rintro e w5 ⟨rfl, h5⟩
      exact ⟨rfl, h5⟩
    simp only [Act.put, List.setIfInBounds_toArray, List.set_cons_zero, List.set_cons_succ]
    refine wpX_take 16 (.int .i64 X) rfl rfl (by kernel_rfl) (fun w1 h1 => by go_simp; exact ⟨rfl, Below.refl _ _⟩) ?_
    simp only [Act.put, List.setIfInBounds_toArray, List.set_cons_zero, List.set_cons_succ]
    refine wpX_take 17 (.int .i64 0) rfl rfl (by kernel_rfl) (fun w1 h1 => by go_simp; exact ⟨rfl, Below.refl _ _⟩) ?_
    simp only [Act.put, List.setIfInBounds_toArray, List.set_cons_zero, List.set_cons_succ]
    refine wpX_tail (by kernel_rfl) (fun wt ht => ?_)
    simp only [List.drop_succ_cons, List.drop_zero]
    replace hB2 := More.trans hB2 ht
    go_wp2_with (fail)
    go_ret2
    exact ⟨rfl, hB2⟩
set_option maxRecDepth 100000 in
set_option maxHeartbeats 1000000 in
theorem crossC2 (f g : Nat → Int) (b c : Nat) (w : World) (p : blk w b (vfn f) 31) (q : blk w c (vfn g) 31) (hw1 : wrap64 (-f 1) = -f 1) (X : Int)
    (D : Hid (∀ x y w, blk w x #[.int .i64 (f 0), .int .i64 (-f 1)] 2 → blk w y #[.int .i64 (g 1), .int .i64 (g 0)] 2 → Calls Try.prog 60 #[.slice (some ⟨x, 0, none⟩) 2 2, .slice (some ⟨y, 0, none⟩) 2 2] w fun e w' => e = .returned (.tuple #[.int .i64 X, .int .i64 0]) ∧ Below w.heap.size w w')) :
    Calls Try.prog 127 #[.int .i64 2, .pointer (some ⟨b, 0, none⟩), .pointer (some ⟨c, 0, none⟩)] w fun e w' => e = .returned (.tuple #[.int .i64 X, .int .i64 0]) ∧ Below w.heap.size w w' := by
  have hw2 : IntKind.i64.wrap (-f 1) = -f 1 := by rw [IntKind.wrap_i64]; unfold wrap64 at hw1; exact hw1
  go_enter Try.func127, Try.ntmps127
  go_upto_region 2 with (fail)
  have hB : More w w := Below.refl _ _
  refine wp_region_X 18 (by kernel_rfl) (by kernel_rfl) ?_
  replace p := p.drew
  replace q := q.drew
  replace hB : More w w.drew := hB.drew
  generalize hwo : w.drew = wo at *
  refine wpX_take 0 (.int .i64 0) rfl rfl (by kernel_rfl) (fun w1 h1 => by go_simp; exact ⟨rfl, Below.refl _ _⟩) ?_
  simp only [Act.put, List.setIfInBounds_toArray, List.set_cons_zero, List.set_cons_succ]
  refine wpX_take 1 (.pointer (some ⟨b, 0, none⟩)) rfl rfl (by kernel_rfl) (fun w1 h1 => by go_simp; exact ⟨rfl, Below.refl _ _⟩) ?_
  simp only [Act.put, List.setIfInBounds_toArray, List.set_cons_zero, List.set_cons_succ]
  refine wpX_take 2 (.int .i64 (f 0)) rfl rfl (by kernel_rfl) (fun w1 h1 => by have hc : w1.cell? ⟨b, 0, none⟩ = some (.int .i64 (f 0)) := (p.below h1 p.lt).cellIs (vfn_get _ (by omega)); go_simp; exact ⟨rfl, Below.refl _ _⟩) ?_
  simp only [Act.put, List.setIfInBounds_toArray, List.set_cons_zero, List.set_cons_succ]
  refine wpX_take 3 (.int .i64 1) rfl rfl (by kernel_rfl) (fun w1 h1 => by go_simp; exact ⟨rfl, Below.refl _ _⟩) ?_
  simp only [Act.put, List.setIfInBounds_toArray, List.set_cons_zero, List.set_cons_succ]
  refine wpX_take 4 (.pointer (some ⟨b, 1, none⟩)) rfl rfl (by kernel_rfl) (fun w1 h1 => by go_simp; exact ⟨rfl, Below.refl _ _⟩) ?_
  simp only [Act.put, List.setIfInBounds_toArray, List.set_cons_zero, List.set_cons_succ]
  refine wpX_take 5 (.int .i64 (f 1)) rfl rfl (by kernel_rfl) (fun w1 h1 => by have hc : w1.cell? ⟨b, 1, none⟩ = some (.int .i64 (f 1)) := (p.below h1 p.lt).cellIs (vfn_get _ (by omega)); go_simp; exact ⟨rfl, Below.refl _ _⟩) ?_
  simp only [Act.put, List.setIfInBounds_toArray, List.set_cons_zero, List.set_cons_succ]
  refine wpX_take 6 (.int .i64 (-f 1)) rfl rfl (by kernel_rfl) (fun w1 h1 => by go_simp; exact ⟨by first | rfl | rw [hw2], Below.refl _ _⟩) ?_
  simp only [Act.put, List.setIfInBounds_toArray, List.set_cons_zero, List.set_cons_succ]
  refine wpX_take 8 (.int .i64 1) rfl rfl (by kernel_rfl) (fun w1 h1 => by go_simp; exact ⟨rfl, Below.refl _ _⟩) ?_
  simp only [Act.put, List.setIfInBounds_toArray, List.set_cons_zero, List.set_cons_succ]
  refine wpX_take 9 (.pointer (some ⟨c, 1, none⟩)) rfl rfl (by kernel_rfl) (fun w1 h1 => by go_simp; exact ⟨rfl, Below.refl _ _⟩) ?_
  simp only [Act.put, List.setIfInBounds_toArray, List.set_cons_zero, List.set_cons_succ]
  refine wpX_take 10 (.int .i64 (g 1)) rfl rfl (by kernel_rfl) (fun w1 h1 => by have hc : w1.cell? ⟨c, 1, none⟩ = some (.int .i64 (g 1)) := (q.below h1 q.lt).cellIs (vfn_get _ (by omega)); go_simp; exact ⟨rfl, Below.refl _ _⟩) ?_
  simp only [Act.put, List.setIfInBounds_toArray, List.set_cons_zero, List.set_cons_succ]
  refine wpX_take 11 (.int .i64 0) rfl rfl (by kernel_rfl) (fun w1 h1 => by go_simp; exact ⟨rfl, Below.refl _ _⟩) ?_
  simp only [Act.put, List.setIfInBounds_toArray, List.set_cons_zero, List.set_cons_succ]
  refine wpX_take 12 (.pointer (some ⟨c, 0, none⟩)) rfl rfl (by kernel_rfl) (fun w1 h1 => by go_simp; exact ⟨rfl, Below.refl _ _⟩) ?_
  simp only [Act.put, List.setIfInBounds_toArray, List.set_cons_zero, List.set_cons_succ]
  refine wpX_take 13 (.int .i64 (g 0)) rfl rfl (by kernel_rfl) (fun w1 h1 => by have hc : w1.cell? ⟨c, 0, none⟩ = some (.int .i64 (g 0)) := (q.below h1 q.lt).cellIs (vfn_get _ (by omega)); go_simp; exact ⟨rfl, Below.refl _ _⟩) ?_
  simp only [Act.put, List.setIfInBounds_toArray, List.set_cons_zero, List.set_cons_succ]
  refine wpX_two 7 14 rfl rfl rfl rfl (by omega) (by omega) (by kernel_rfl) ?_ ?_
  · intro w1 h1 K hK
    go_simp
    refine hK _ _ ((Below.refl _ _).alloc (Nat.le_refl _) _) ?_
    have hB2 : More w (w1.alloc (.cells #[.int .i64 (f 0), .int .i64 (-f 1)] 2)) := More.trans hB (More.trans h1 (Below.alloc (Below.refl _ _) (Nat.le_refl _) _))
    have n1 := blk.new w1 #[.int .i64 (f 0), .int .i64 (-f 1)] 2
    clear hK K h1
    generalize w1.heap.size = b1 at *
    generalize w1.alloc (.cells #[.int .i64 (f 0), .int .i64 (-f 1)] 2) = w2 at *
    refine wpX_one 14 rfl rfl (by omega) (by kernel_rfl) (fun w3 h3 K hK => ?_)
    go_simp
    refine hK _ _ ((Below.refl _ _).alloc (Nat.le_refl _) _) ?_
    replace hB2 : More w (w3.alloc (.cells #[.int .i64 (g 1), .int .i64 (g 0)] 2)) := More.trans hB2 (More.trans h3 (Below.alloc (Below.refl _ _) (Nat.le_refl _) _))
    replace n1 := (n1.below h3 n1.lt).alloc (.cells #[.int .i64 (g 1), .int .i64 (g 0)] 2)
    have n2 := blk.new w3 #[.int .i64 (g 1), .int .i64 (g 0)] 2
    clear hK K h3
    generalize w3.heap.size = b2 at *
    generalize w3.alloc (.cells #[.int .i64 (g 1), .int .i64 (g 0)] 2) = w4 at *
    refine wpX_take 15 (.tuple #[.int .i64 X, .int .i64 0]) rfl rfl (by kernel_rfl) (fun w1 h1 => ?_) ?_
    · go_simp
      refine (D.out _ _ _ (n1.below h1 n1.lt) (n2.below h1 n2.lt)).mono ?_
      rintro e w5 ⟨rfl, h5⟩
      exact ⟨rfl, h5⟩
    simp only [Act.put, List.setIfInBounds_toArray, List.set_cons_zero, List.set_cons_succ]
    refine wpX_take 16 (.int .i64 X) rfl rfl (by kernel_rfl) (fun w1 h1 => by go_simp; exact ⟨rfl, Below.refl _ _⟩) ?_
    simp only [Act.put, List.setIfInBounds_toArray, List.set_cons_zero, List.set_cons_succ]
    refine wpX_take 17 (.int .i64 0) rfl rfl (by kernel_rfl) (fun w1 h1 => by go_simp; exact ⟨rfl, Below.refl _ _⟩) ?_
    simp only [Act.put, List.setIfInBounds_toArray, List.set_cons_zero, List.set_cons_succ]
    refine wpX_tail (by kernel_rfl) (fun wt ht => ?_)
    simp only [List.drop_succ_cons, List.drop_zero]
    replace hB2 := More.trans hB2 ht
    go_wp2_with (fail)
    go_ret2
    exact ⟨rfl, hB2⟩
  · intro w1 h1 K hK
    go_simp
    refine hK _ _ ((Below.refl _ _).alloc (Nat.le_refl _) _) ?_
    have hB2 : More w (w1.alloc (.cells #[.int .i64 (g 1), .int .i64 (g 0)] 2)) := More.trans hB (More.trans h1 (Below.alloc (Below.refl _ _) (Nat.le_refl _) _))
    have n1 := blk.new w1 #[.int .i64 (g 1), .int .i64 (g 0)] 2
    clear hK K h1
    generalize w1.heap.size = b1 at *
    generalize w1.alloc (.cells #[.int .i64 (g 1), .int .i64 (g 0)] 2) = w2 at *
    refine wpX_one 7 rfl rfl (by omega) (by kernel_rfl) (fun w3 h3 K hK => ?_)
    go_simp
    refine hK _ _ ((Below.refl _ _).alloc (Nat.le_refl _) _) ?_
    replace hB2 : More w (w3.alloc (.cells #[.int .i64 (f 0), .int .i64 (-f 1)] 2)) := More.trans hB2 (More.trans h3 (Below.alloc (Below.refl _ _) (Nat.le_refl _) _))
    replace n1 := (n1.below h3 n1.lt).alloc (.cells #[.int .i64 (f 0), .int .i64 (-f 1)] 2)
    have n2 := blk.new w3 #[.int .i64 (f 0), .int .i64 (-f 1)] 2
    clear hK K h3
    generalize w3.heap.size = b2 at *
    generalize w3.alloc (.cells #[.int .i64 (f 0), .int .i64 (-f 1)] 2) = w4 at *
    refine wpX_take 15 (.tuple #[.int .i64 X, .int .i64 0]) rfl rfl (by kernel_rfl) (fun w1 h1 => ?_) ?_
    · go_simp
      refine (D.out _ _ _ (n2.below h1 n2.lt) (n1.below h1 n1.lt)).mono ?_
      rintro e w5 ⟨rfl, h5⟩
      exact ⟨rfl, h5⟩
    simp only [Act.put, List.setIfInBounds_toArray, List.set_cons_zero, List.set_cons_succ]
    refine wpX_take 16 (.int .i64 X) rfl rfl (by kernel_rfl) (fun w1 h1 => by go_simp; exact ⟨rfl, Below.refl _ _⟩) ?_
    simp only [Act.put, List.setIfInBounds_toArray, List.set_cons_zero, List.set_cons_succ]
    refine wpX_take 17 (.int .i64 0) rfl rfl (by kernel_rfl) (fun w1 h1 => by go_simp; exact ⟨rfl, Below.refl _ _⟩) ?_
    simp only [Act.put, List.setIfInBounds_toArray, List.set_cons_zero, List.set_cons_succ]
    refine wpX_tail (by kernel_rfl) (fun wt ht => ?_)
    simp only [List.drop_succ_cons, List.drop_zero]
    replace hB2 := More.trans hB2 ht
    go_wp2_with (fail)
    go_ret2
    exact ⟨rfl, hB2⟩
theorem crossC_any (f g : Nat → Int) (b c : Nat) (w : World) (hf : okV f = true) (hg : okV g = true) (p : blk w b (vfn f) 31) (q : blk w c (vfn g) 31) (i : Nat) (hi : i < 3) :
    Calls Try.prog 127 #[.int .i64 i, .pointer (some ⟨b, 0, none⟩), .pointer (some ⟨c, 0, none⟩)] w fun e w' => e = .returned (.tuple #[.int .i64 (crossX f g i), .int .i64 0]) ∧ Below w.heap.size w w' := by
  have vf := (okV_iff f).1 hf
  have vg := (okV_iff g).1 hg
  have : i = 0 ∨ i = 1 ∨ i = 2 := by omega
  rcases this with rfl | rfl | rfl
  · exact crossC0 f g b c w p q (wrap64_I (vb_I (vb_neg (vf 2 (by omega))))) _ (fun x y w h1 h2 => two_dot _ _ _ _ x y w (vf 1 (by omega)) (vg 2 (by omega)) (vf 2 (by omega)) (vg 1 (by omega)) h1 h2)
  · exact crossC1 f g b c w p q (wrap64_I (vb_I (vb_neg (vf 0 (by omega))))) _ (fun x y w h1 h2 => two_dot _ _ _ _ x y w (vf 2 (by omega)) (vg 0 (by omega)) (vf 0 (by omega)) (vg 2 (by omega)) h1 h2)
  · exact crossC2 f g b c w p q (wrap64_I (vb_I (vb_neg (vf 1 (by omega))))) _ (fun x y w h1 h2 => two_dot _ _ _ _ x y w (vf 0 (by omega)) (vg 1 (by omega)) (vf 1 (by omega)) (vg 0 (by omega)) h1 h2)
end Go.Proofs.Ytkmelddejdikgaa
namespace Go.Proofs.Ytkmelddejdikgaa
open Go.RowKit PM Dt
/-- The vector product, and the error's number. -/
def vcrossF (f g : Nat → Int) : Nat → Int := if okV f && okV g then (if okV (crossX f g) then crossX f g else fun _ => 0) else fun _ => 0
def vcrossE (f g : Nat → Int) : Int := if okV f && okV g then (if okV (crossX f g) then 0 else 7) else 2
theorem good_zero (x : Nat → Int) : goodE x (fun _ => 0) = okV x := by unfold goodE okV; simp
def resF (x : Nat → Int) : Nat → Int := if okV x then x else fun _ => 0
def resE (x : Nat → Int) : Int := if okV x then 0 else 7
theorem each_res (x : Nat → Int) : eachF x (fun _ => 0) = resF x ∧ eachE x (fun _ => 0) = resE x := by
  unfold eachF eachE resF resE; rw [good_zero]; exact ⟨rfl, rfl⟩
set_option maxRecDepth 100000 in
set_option maxHeartbeats 2000000 in
theorem vcross_any (f g : Nat → Int) (w : World) : Calls Try.prog 64 #[.agg (vfn f), .agg (vfn g)] w fun e w' => e = .returned (.tuple #[.agg (vfn (vcrossF f g)), .int .i64 (vcrossE f g)]) ∧ Below w.heap.size w w' := by
  have V1 := Lib.hid (fun w => valid_any f w)
  have V2 := Lib.hid (fun w => valid_any g w)
  have hk : ∃ F E, (okV f = true → okV g = true → F = resF (crossX f g) ∧ E = resE (crossX f g)) ∧ vcrossF f g = (if okV f && okV g then F else fun _ => 0) ∧ vcrossE f g = (if okV f && okV g then E else 2) := ⟨_, _, fun _ _ => ⟨rfl, rfl⟩, rfl, rfl⟩
  obtain ⟨F, E, hk, e1, e2⟩ := hk
  rw [e1, e2]
  clear e1 e2
  have HK := Lib.hid hk
  clear hk
  obtain ⟨bf, hf⟩ : ∃ b, okV f = b := ⟨_, rfl⟩
  obtain ⟨bg, hg⟩ : ∃ b, okV g = b := ⟨_, rfl⟩
  rw [hf] at V1 HK ⊢
  rw [hg] at V2 HK ⊢
  have HF := Lib.hid hf
  have HG := Lib.hid hg
  clear hf hg
  go_enter Try.func64, Try.ntmps64
  go_upto_region 1 with (fail)
  rw [zero_vec]
  have p : blk (((w.alloc (.cells (vfn f) 31)).alloc (.cells (vfn g) 31)).alloc (.cells (vfn fun _ => 0) 31)) w.heap.size (vfn f) 31 := ((blk.new _ _ _).alloc _).alloc _
  have q : blk (((w.alloc (.cells (vfn f) 31)).alloc (.cells (vfn g) 31)).alloc (.cells (vfn fun _ => 0) 31)) (w.heap.size + 1) (vfn g) 31 := (blk.new' (by simp)).alloc _
  have r : blk (((w.alloc (.cells (vfn f) 31)).alloc (.cells (vfn g) 31)).alloc (.cells (vfn fun _ => 0) 31)) (w.heap.size + 1 + 1) (vfn fun _ => 0) 31 := blk.new' (by simp)
  have hB : Below w.heap.size w (((w.alloc (.cells (vfn f) 31)).alloc (.cells (vfn g) 31)).alloc (.cells (vfn fun _ => 0) 31)) := by go_grown
  generalize ((w.alloc (.cells (vfn f) 31)).alloc (.cells (vfn g) 31)).alloc (.cells (vfn fun _ => 0) 31) = w0 at *
  cases bf
  · go_wp2_with (first
      | (refine wpList_load_rowG ?hw _ _ rfl _ rfl _ _ _ _ p Try.underlying31 rfl ?hi ?_; (case hw => (first | rfl | (simp [Region.wanted, yielded]; done))); (case hi => (rw [vfn_size]; kernel_rfl)))
      | (refine wpList_load_rowG ?hw _ _ rfl _ rfl _ _ _ _ q Try.underlying31 rfl ?hi ?_; (case hw => (first | rfl | (simp [Region.wanted, yielded]; done))); (case hi => (rw [vfn_size]; kernel_rfl)))
      | (go_at_call 78; with_reducible refine (V1.out _).mono ?_; rintro e w1 ⟨rfl, hb⟩; replace hB := hB.trans (hb.mono hB.size); replace p := p.below hb p.lt; replace q := q.below hb q.lt; replace r := r.below hb r.lt; clear hb)
      | (go_at_call 78; with_reducible refine (V2.out _).mono ?_; rintro e w1 ⟨rfl, hb⟩; replace hB := hB.trans (hb.mono hB.size); replace p := p.below hb p.lt; replace q := q.below hb q.lt; replace r := r.below hb r.lt; clear hb)
      | (go_at_call 81; refine (each_no _ _).mono ?_; rintro e w2 ⟨rfl, hb⟩; replace hB := hB.trans (hb.mono hB.size); replace r := r.below hb r.lt; clear hb)
      | (refine wpList_store_row rfl _ _ _ rfl _ rfl _ rfl _ _ r (by rw [vfn_size]; kernel_rfl) (by simp only [vfn_size]) (vfn_one _) ?_))
    refine bodyPost_ret (results_vec rfl _ _ _ _ _ _ _ rfl (r.row (vfn (fun _ => 0))) Try.underlying31 rfl (by rw [vfn_size]; kernel_rfl)) rfl ?_; refine ⟨?_, Below.setRow hB (by omega) _⟩
    rfl
  cases bg
  · go_wp2_with (first
      | (refine wpList_load_rowG ?hw _ _ rfl _ rfl _ _ _ _ p Try.underlying31 rfl ?hi ?_; (case hw => (first | rfl | (simp [Region.wanted, yielded]; done))); (case hi => (rw [vfn_size]; kernel_rfl)))
      | (refine wpList_load_rowG ?hw _ _ rfl _ rfl _ _ _ _ q Try.underlying31 rfl ?hi ?_; (case hw => (first | rfl | (simp [Region.wanted, yielded]; done))); (case hi => (rw [vfn_size]; kernel_rfl)))
      | (go_at_call 78; with_reducible refine (V1.out _).mono ?_; rintro e w1 ⟨rfl, hb⟩; replace hB := hB.trans (hb.mono hB.size); replace p := p.below hb p.lt; replace q := q.below hb q.lt; replace r := r.below hb r.lt; clear hb)
      | (go_at_call 78; with_reducible refine (V2.out _).mono ?_; rintro e w1 ⟨rfl, hb⟩; replace hB := hB.trans (hb.mono hB.size); replace p := p.below hb p.lt; replace q := q.below hb q.lt; replace r := r.below hb r.lt; clear hb)
      | (go_at_call 81; refine (each_no _ _).mono ?_; rintro e w2 ⟨rfl, hb⟩; replace hB := hB.trans (hb.mono hB.size); replace r := r.below hb r.lt; clear hb)
      | (refine wpList_store_row rfl _ _ _ rfl _ rfl _ rfl _ _ r (by rw [vfn_size]; kernel_rfl) (by simp only [vfn_size]) (vfn_one _) ?_))
    refine bodyPost_ret (results_vec rfl _ _ _ _ _ _ _ rfl (r.row (vfn (fun _ => 0))) Try.underlying31 rfl (by rw [vfn_size]; kernel_rfl)) rfl ?_; refine ⟨?_, Below.setRow hB (by omega) _⟩
    rfl
  obtain ⟨hF, hE⟩ := HK.out rfl rfl
  have HFE := Lib.hid (And.intro hF hE)
  clear HK hF hE
  go_wp2_with (first
      | (refine wpList_load_rowG ?hw _ _ rfl _ rfl _ _ _ _ p Try.underlying31 rfl ?hi ?_; (case hw => (first | rfl | (simp [Region.wanted, yielded]; done))); (case hi => (rw [vfn_size]; kernel_rfl)))
      | (refine wpList_load_rowG ?hw _ _ rfl _ rfl _ _ _ _ q Try.underlying31 rfl ?hi ?_; (case hw => (first | rfl | (simp [Region.wanted, yielded]; done))); (case hi => (rw [vfn_size]; kernel_rfl)))
      | (go_at_call 78; with_reducible refine (V1.out _).mono ?_; rintro e w1 ⟨rfl, hb⟩; replace hB := hB.trans (hb.mono hB.size); replace p := p.below hb p.lt; replace q := q.below hb q.lt; replace r := r.below hb r.lt; clear hb)
      | (go_at_call 78; with_reducible refine (V2.out _).mono ?_; rintro e w1 ⟨rfl, hb⟩; replace hB := hB.trans (hb.mono hB.size); replace p := p.below hb p.lt; replace q := q.below hb q.lt; replace r := r.below hb r.lt; clear hb)
      | (go_at_call 81; refine (eachCross_any (crossX f g) (fun _ => 0) _ _ _ (fun i hi wx hx => crossC_any f g _ _ wx HF.out HG.out (p.below hx p.lt) (q.below hx q.lt) i hi)).mono ?_; rintro e w2 ⟨rfl, hb⟩; rw [(each_res _).1, (each_res _).2, ← HFE.out.1, ← HFE.out.2]; replace hB := hB.trans (hb.mono hB.size); replace r := r.below hb r.lt; clear hb)
      | (refine wpList_store_row rfl _ _ _ rfl _ rfl _ rfl _ _ r (by rw [vfn_size]; kernel_rfl) (by simp only [vfn_size]) (vfn_one _) ?_))
  refine bodyPost_ret (results_vec rfl _ _ _ _ _ _ _ rfl (r.row (vfn F)) Try.underlying31 rfl (by rw [vfn_size]; kernel_rfl)) rfl ?_; refine ⟨?_, Below.setRow hB (by omega) _⟩
  rfl
end Go.Proofs.Ytkmelddejdikgaa
