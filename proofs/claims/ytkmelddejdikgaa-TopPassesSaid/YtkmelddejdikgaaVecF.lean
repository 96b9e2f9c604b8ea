/-
  The same of the specification of vectors: dot, two, Dot, Norm, result, Cross. Vector products, in the package and in its specification. Vector products as a whole, in the package and in its specification.
-/
import Derived.Test.YtkmelddejdikgaaVecA
import Derived.Test.YtkmelddejdikgaaBase
import Derived.Test.YtkmelddejdikgaaWave
set_option linter.unusedSimpArgs false
set_option linter.unusedVariables false
namespace Go.Proofs.Ytkmelddejdikgaa
open Go.RowKit PM Dt
theorem list_J2 {a b : Int} (ha : I64 a) (hb : I64 b) : ∀ k, k < [a, b].length → I64 ([a, b].getD k 0) := by
  intro k hk
  rcases k with _ | _ | k
  · exact ha
  · exact hb
  · simp at hk; omega
theorem intsJ2 {w : World} {b : Nat} {a c : Int} {t : TypeId} (h : blk w b #[.int .i64 a, .int .i64 c] t) : Ints w (.slice (some ⟨b, 0, none⟩) 2 2) [a, c] :=
  Or.inr ⟨by simp, b, 0, 2, rfl, h.lt, fun k hk => by
    rcases k with _ | _ | k
    · exact h.cellIs rfl
    · exact h.cellIs rfl
    · simp at hk; omega⟩
set_option maxRecDepth 100000 in
set_option maxHeartbeats 2000000 in
theorem vdot_any (f g : Nat → Int) (w : World) : Calls Try.prog 77 #[.agg (vfn f), .agg (vfn g)] w fun e w' => e = .returned (.tuple #[.int .i64 (vdotV f g), .int .i64 (vdotE f g)]) ∧ Below w.heap.size w w' := by
  have V1 := Lib.hid (fun w => valid_any f w)
  have V2 := Lib.hid (fun w => valid_any g w)
  have D := Lib.hid (fun h1 h2 => fun x y w p q => dot3_any f g x y w h1 h2 p q)
  unfold vdotV vdotE
  obtain ⟨bf, hf⟩ : ∃ b, okV f = b := ⟨_, rfl⟩
  obtain ⟨bg, hg⟩ : ∃ b, okV g = b := ⟨_, rfl⟩
  rw [hf] at V1 D ⊢
  rw [hg] at V2 D ⊢
  clear hf hg
  obtain ⟨X, hX⟩ : ∃ X, X = rnd (d3 f g) := ⟨_, rfl⟩
  rw [← hX] at D ⊢
  clear hX
  go_enter Try.func77, Try.ntmps77
  go_upto_region 1 with (fail)
  have p : blk ((w.alloc (.cells (vfn f) 31)).alloc (.cells (vfn g) 31)) w.heap.size (vfn f) 31 := (blk.new _ _ _).alloc _
  have q : blk ((w.alloc (.cells (vfn f) 31)).alloc (.cells (vfn g) 31)) (w.heap.size + 1) (vfn g) 31 := blk.new' (by simp)
  have hB : Below w.heap.size w ((w.alloc (.cells (vfn f) 31)).alloc (.cells (vfn g) 31)) := by go_grown
  generalize (w.alloc (.cells (vfn f) 31)).alloc (.cells (vfn g) 31) = w0 at *
  cases bf
  · go_wp2_with (first | (refine wpList_load_rowG ?hw _ _ rfl _ rfl _ _ _ _ p Try.underlying31 rfl ?hi ?_; (case hw => (first | rfl | (simp [Region.wanted, yielded]; done))); (case hi => (rw [vfn_size]; kernel_rfl))) | (refine wpList_load_rowG ?hw _ _ rfl _ rfl _ _ _ _ q Try.underlying31 rfl ?hi ?_; (case hw => (first | rfl | (simp [Region.wanted, yielded]; done))); (case hi => (rw [vfn_size]; kernel_rfl))) | (go_at_call 78; with_reducible refine (V1.out _).mono ?_; rintro e w1 ⟨rfl, hb⟩; replace hB := hB.trans (hb.mono hB.size); replace p := p.below hb p.lt; replace q := q.below hb q.lt; clear hb) | (go_at_call 78; with_reducible refine (V2.out _).mono ?_; rintro e w1 ⟨rfl, hb⟩; replace hB := hB.trans (hb.mono hB.size); replace p := p.below hb p.lt; replace q := q.below hb q.lt; clear hb))
    go_ret2
    exact ⟨rfl, hB⟩
  cases bg
  · go_wp2_with (first | (refine wpList_load_rowG ?hw _ _ rfl _ rfl _ _ _ _ p Try.underlying31 rfl ?hi ?_; (case hw => (first | rfl | (simp [Region.wanted, yielded]; done))); (case hi => (rw [vfn_size]; kernel_rfl))) | (refine wpList_load_rowG ?hw _ _ rfl _ rfl _ _ _ _ q Try.underlying31 rfl ?hi ?_; (case hw => (first | rfl | (simp [Region.wanted, yielded]; done))); (case hi => (rw [vfn_size]; kernel_rfl))) | (go_at_call 78; with_reducible refine (V1.out _).mono ?_; rintro e w1 ⟨rfl, hb⟩; replace hB := hB.trans (hb.mono hB.size); replace p := p.below hb p.lt; replace q := q.below hb q.lt; clear hb) | (go_at_call 78; with_reducible refine (V2.out _).mono ?_; rintro e w1 ⟨rfl, hb⟩; replace hB := hB.trans (hb.mono hB.size); replace p := p.below hb p.lt; replace q := q.below hb q.lt; clear hb))
    go_ret2
    exact ⟨rfl, hB⟩
  replace D := Lib.hid (D.out rfl rfl)
  go_upto_region 3 with (first | (refine wpList_load_rowG ?hw _ _ rfl _ rfl _ _ _ _ p Try.underlying31 rfl ?hi ?_; (case hw => (first | rfl | (simp [Region.wanted, yielded]; done))); (case hi => (rw [vfn_size]; kernel_rfl))) | (refine wpList_load_rowG ?hw _ _ rfl _ rfl _ _ _ _ q Try.underlying31 rfl ?hi ?_; (case hw => (first | rfl | (simp [Region.wanted, yielded]; done))); (case hi => (rw [vfn_size]; kernel_rfl))) | (go_at_call 78; with_reducible refine (V1.out _).mono ?_; rintro e w1 ⟨rfl, hb⟩; replace hB := hB.trans (hb.mono hB.size); replace p := p.below hb p.lt; replace q := q.below hb q.lt; clear hb) | (go_at_call 78; with_reducible refine (V2.out _).mono ?_; rintro e w1 ⟨rfl, hb⟩; replace hB := hB.trans (hb.mono hB.size); replace p := p.below hb p.lt; replace q := q.below hb q.lt; clear hb))
  refine wp_region_Y 99 7 rfl (by kernel_rfl) ?_
  replace p := p.drew
  replace q := q.drew
  replace hB : Below w.heap.size w _ := hB.drew
  generalize w1.drew = wo at *
  refine wpY_takeB 0 (.slice (some ⟨w.heap.size, 0, none⟩) 3 3) rfl rfl (by kernel_rfl) (fun w1 => by go_simp; exact ⟨rfl, Below.refl _ _⟩) ?_
  simp only [Act.put, List.setIfInBounds_toArray, List.set_cons_zero, List.set_cons_succ]
  refine wpY_takeB 1 (.slice (some ⟨w.heap.size + 1, 0, none⟩) 3 3) rfl rfl (by kernel_rfl) (fun w1 => by go_simp; exact ⟨rfl, Below.refl _ _⟩) ?_
  simp only [Act.put, List.setIfInBounds_toArray, List.set_cons_zero, List.set_cons_succ]
  refine wpY_takeA 2 (.tuple #[.int .i64 X, .int .i64 0]) rfl rfl (by kernel_rfl) (by kernel_rfl) (fun w1 h1 => ?_) ?_
  · go_simp
    refine (D.out _ _ _ (p.below h1 p.lt) (q.below h1 q.lt)).mono ?_
    rintro e w2 ⟨rfl, h2⟩
    exact ⟨rfl, h2⟩
  simp only [Act.put, List.setIfInBounds_toArray, List.set_cons_zero, List.set_cons_succ]
  refine wpY_takeB 3 (.int .i64 X) rfl rfl (by kernel_rfl) (fun w1 => by go_simp; exact ⟨rfl, Below.refl _ _⟩) ?_
  simp only [Act.put, List.setIfInBounds_toArray, List.set_cons_zero, List.set_cons_succ]
  refine wpY_takeB 4 (.int .i64 0) rfl rfl (by kernel_rfl) (fun w1 => by go_simp; exact ⟨rfl, Below.refl _ _⟩) ?_
  simp only [Act.put, List.setIfInBounds_toArray, List.set_cons_zero, List.set_cons_succ]
  refine wpY_takeB 5 (.int .i64 X) rfl rfl (by kernel_rfl) (fun w1 => by go_simp; exact ⟨rfl, Below.refl _ _⟩) ?_
  simp only [Act.put, List.setIfInBounds_toArray, List.set_cons_zero, List.set_cons_succ]
  refine wpY_takeB 6 (.int .i64 0) rfl rfl (by kernel_rfl) (fun w1 => by go_simp; exact ⟨rfl, Below.refl _ _⟩) ?_
  simp only [Act.put, List.setIfInBounds_toArray, List.set_cons_zero, List.set_cons_succ]
  refine wpY_end (by kernel_rfl) (fun w3 h3 => ?_)
  replace hB := hB.trans (h3.mono hB.size)
  go_wp2_with (fail)
  go_ret2
  exact ⟨rfl, hB⟩
end Go.Proofs.Ytkmelddejdikgaa
namespace Go.Proofs.Ytkmelddejdikgaa
open Go.RowKit PM Dt
end Go.Proofs.Ytkmelddejdikgaa
namespace Go.Proofs.Ytkmelddejdikgaa
open Go.RowKit PM Dt
end Go.Proofs.Ytkmelddejdikgaa
