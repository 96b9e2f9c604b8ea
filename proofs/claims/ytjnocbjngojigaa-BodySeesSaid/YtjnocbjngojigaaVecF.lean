/-
  Sines and cosines of package fixed and of its specification: what they return. The same of the specification of vectors: dot, two, Dot, Norm, result, Cross. Vector products, in the package and in its specification. Vector products as a whole, in the package and in its specification.
-/
import Derived.Test.YtjnocbjngojigaaHyp
import Derived.Test.YtjnocbjngojigaaVecA
import Derived.Test.YtjnocbjngojigaaBase
set_option linter.unusedSimpArgs false
set_option linter.unusedVariables false
namespace Go.Proofs.Ytjnocbjngojigaa
open Go.RowKit PM Dt
/-- A product. -/
def mulV (a b : Int) : Int := ratioV a b 1073741824
theorem fitV_I (q : Int) : I64 (fitV q) := by
  unfold fitV inI I64
  split
  · rename_i h; simp at h; omega
  · omega
/-- The sum of k terms, the last first. -/
def psum (y : Int) (t : Nat → Int) : Nat → Int
  | 0 => 0
  | k + 1 => mulV y (wrap64 (t (4 - k) - psum y t k))
attribute [irreducible] psum mulV
end Go.Proofs.Ytjnocbjngojigaa
namespace Go.Proofs.Ytjnocbjngojigaa
open Go.RowKit PM Dt
theorem list_J2 {a b : Int} (ha : I64 a) (hb : I64 b) : ∀ k, k < [a, b].length → I64 ([a, b].getD k 0) := by
  intro k hk
  rcases k with _ | _ | k
  · exact ha
  · exact hb
  · simp at hk; omega
theorem intsJ2 {w : World} {b : Nat} {a c : Int} {t : TypeId} (h : blk w b #[.int .i64 a, .int .i64 c] t) : Ints w (.slice (some ⟨b, 0, none⟩) 2 2) [a, c] :=
  Or.inr ⟨by simp, b, 0, 2, rfl, h.lt, fun k hk => by
    rcases k with _ | _ | k
    · exact h.cellIs rfl
    · exact h.cellIs rfl
    · simp at hk; omega⟩
theorem vb_neg {a : Int} (h : vb a = true) : vb (-a) = true := (vb_iff _).2 (by have := (vb_iff a).1 h; omega)
set_option maxRecDepth 100000 in
set_option maxHeartbeats 1000000 in
theorem rd_any (f g : Nat → Int) (w : World) (hf : okV f = true) (hg : okV g = true) : Calls Try.prog 126 #[.agg (vfn f), .agg (vfn g)] w fun e w' => e = .returned (.int .i64 (rnd (d3 f g))) ∧ Below w.heap.size w w' := by
  have D := Lib.hid (fun x y w p q => rdot3_any f g x y w hf hg p q)
  clear hf hg
  obtain ⟨X, hX⟩ : ∃ X, X = rnd (d3 f g) := ⟨_, rfl⟩
  rw [← hX] at D ⊢
  clear hX
  go_enter Try.func126, Try.ntmps126
  go_upto_region 1 with (fail)
  have p : blk ((w.alloc (.cells (vfn f) 25)).alloc (.cells (vfn g) 25)) w.heap.size (vfn f) 25 := (blk.new _ _ _).alloc _
  have q : blk ((w.alloc (.cells (vfn f) 25)).alloc (.cells (vfn g) 25)) (w.heap.size + 1) (vfn g) 25 := blk.new' (by simp)
  have hB : Below w.heap.size w ((w.alloc (.cells (vfn f) 25)).alloc (.cells (vfn g) 25)) := by go_grown
  generalize (w.alloc (.cells (vfn f) 25)).alloc (.cells (vfn g) 25) = w0 at *
  refine wp_region_Y 99 8 rfl (by kernel_rfl) ?_
  replace p := p.drew
  replace q := q.drew
  replace hB : Below w.heap.size w w0.drew := hB.drew
  generalize w0.drew = wo at *
  refine wpY_takeB 0 (.slice (some ⟨w.heap.size, 0, none⟩) 3 3) rfl rfl (by kernel_rfl) (fun w1 => by go_simp; exact ⟨rfl, Below.refl _ _⟩) ?_
  simp only [Act.put, List.setIfInBounds_toArray, List.set_cons_zero, List.set_cons_succ]
  refine wpY_takeB 1 (.slice (some ⟨w.heap.size + 1, 0, none⟩) 3 3) rfl rfl (by kernel_rfl) (fun w1 => by go_simp; exact ⟨rfl, Below.refl _ _⟩) ?_
  simp only [Act.put, List.setIfInBounds_toArray, List.set_cons_zero, List.set_cons_succ]
  refine wpY_takeA 2 (.tuple #[.int .i64 X, .int .i64 0]) rfl rfl (by kernel_rfl) (by kernel_rfl) (fun w1 h1 => ?_) ?_
  · go_simp
    refine (D.out _ _ _ (p.below h1 p.lt) (q.below h1 q.lt)).mono ?_
    rintro e w2 ⟨rfl, h2⟩
    exact ⟨rfl, h2⟩
  simp only [Act.put, List.setIfInBounds_toArray, List.set_cons_zero, List.set_cons_succ]
  refine wpY_takeB 3 (.tuple #[.int .i64 X, .int .i64 0]) rfl rfl (by kernel_rfl) (fun w1 => by go_simp; exact ⟨rfl, Below.refl _ _⟩) ?_
  simp only [Act.put, List.setIfInBounds_toArray, List.set_cons_zero, List.set_cons_succ]
  refine wpY_takeB 4 (.int .i64 X) rfl rfl (by kernel_rfl) (fun w1 => by go_simp; exact ⟨rfl, Below.refl _ _⟩) ?_
  simp only [Act.put, List.setIfInBounds_toArray, List.set_cons_zero, List.set_cons_succ]
  refine wpY_takeB 5 (.int .i64 0) rfl rfl (by kernel_rfl) (fun w1 => by go_simp; exact ⟨rfl, Below.refl _ _⟩) ?_
  simp only [Act.put, List.setIfInBounds_toArray, List.set_cons_zero, List.set_cons_succ]
  refine wpY_takeB 6 (.int .i64 X) rfl rfl (by kernel_rfl) (fun w1 => by go_simp; exact ⟨rfl, Below.refl _ _⟩) ?_
  simp only [Act.put, List.setIfInBounds_toArray, List.set_cons_zero, List.set_cons_succ]
  refine wpY_takeB 7 (.int .i64 0) rfl rfl (by kernel_rfl) (fun w1 => by go_simp; exact ⟨rfl, Below.refl _ _⟩) ?_
  simp only [Act.put, List.setIfInBounds_toArray, List.set_cons_zero, List.set_cons_succ]
  refine wpY_end (by kernel_rfl) (fun w3 h3 => ?_)
  replace hB := hB.trans (h3.mono hB.size)
  go_wp2_with (fail)
  go_ret
  exact ⟨rfl, hB⟩
end Go.Proofs.Ytjnocbjngojigaa
namespace Go.Proofs.Ytjnocbjngojigaa
open Go.RowKit PM Dt
end Go.Proofs.Ytjnocbjngojigaa
namespace Go.Proofs.Ytjnocbjngojigaa
open Go.RowKit PM Dt
theorem good_zero (x : Nat → Int) : goodE x (fun _ => 0) = okV x := by unfold goodE okV; simp
def resF (x : Nat → Int) : Nat → Int := if okV x then x else fun _ => 0
def resE (x : Nat → Int) : Int := if okV x then 0 else 7
theorem each_res (x : Nat → Int) : eachF x (fun _ => 0) = resF x ∧ eachE x (fun _ => 0) = resE x := by
  unfold eachF eachE resF resE; rw [good_zero]; exact ⟨rfl, rfl⟩
set_option maxRecDepth 100000 in
set_option maxHeartbeats 1000000 in
theorem result_any (x : Nat → Int) (w : World) : Calls Try.prog 125 #[.agg (vfn x)] w fun e w' => e = .returned (.tuple #[.agg (vfn (resF x)), .int .i64 (resE x)]) ∧ Below w.heap.size w w' := by
  have V1 := Lib.hid (fun w => rvalid_any x w)
  unfold resF resE
  obtain ⟨bf, hf⟩ : ∃ b, okV x = b := ⟨_, rfl⟩
  rw [hf] at V1 ⊢
  clear hf
  go_enter Try.func125, Try.ntmps125
  go_upto_region 1 with (fail)
  rw [zero_vec]
  have p : blk ((w.alloc (.cells (vfn x) 25)).alloc (.cells (vfn fun _ => 0) 25)) w.heap.size (vfn x) 25 := (blk.new _ _ _).alloc _
  have q : blk ((w.alloc (.cells (vfn x) 25)).alloc (.cells (vfn fun _ => 0) 25)) (w.heap.size + 1) (vfn fun _ => 0) 25 := blk.new' (by simp)
  have hB : Below w.heap.size w ((w.alloc (.cells (vfn x) 25)).alloc (.cells (vfn fun _ => 0) 25)) := by go_grown
  generalize (w.alloc (.cells (vfn x) 25)).alloc (.cells (vfn fun _ => 0) 25) = w0 at *
  cases bf
  · go_wp2_with (first
      | (refine wpList_load_rowG ?hw _ _ rfl _ rfl _ _ _ _ p Try.underlying25 rfl ?hi ?_; (case hw => (first | rfl | (simp [Region.wanted, yielded]; done))); (case hi => (rw [vfn_size]; kernel_rfl)))
      | (go_at_call 121; refine (V1.out _).mono ?_; rintro e w1 ⟨rfl, hb⟩; replace hB := hB.trans (hb.mono hB.size); replace p := p.below hb p.lt; replace q := q.below hb q.lt; clear hb)
      | (rw [zero_vec]; refine wpList_store_row rfl _ _ _ rfl _ rfl _ rfl _ _ q (by rw [vfn_size]; kernel_rfl) (by simp only [vfn_size]) (vfn_one _) ?_))
    refine bodyPost_ret (results_vec rfl _ _ _ _ _ _ _ rfl (q.row (vfn (fun _ => 0))) Try.underlying25 rfl (by rw [vfn_size]; kernel_rfl)) rfl ?_; refine ⟨?_, Below.setRow hB (by omega) _⟩
    rfl
  · go_wp2_with (first
      | (refine wpList_load_rowG ?hw _ _ rfl _ rfl _ _ _ _ p Try.underlying25 rfl ?hi ?_; (case hw => (first | rfl | (simp [Region.wanted, yielded]; done))); (case hi => (rw [vfn_size]; kernel_rfl)))
      | (go_at_call 121; refine (V1.out _).mono ?_; rintro e w1 ⟨rfl, hb⟩; replace hB := hB.trans (hb.mono hB.size); replace p := p.below hb p.lt; replace q := q.below hb q.lt; clear hb)
      | (refine wpList_store_row rfl _ _ _ rfl _ rfl _ rfl _ _ q (by rw [vfn_size]; kernel_rfl) (by simp only [vfn_size]) (vfn_one _) ?_))
    refine bodyPost_ret (results_vec rfl _ _ _ _ _ _ _ rfl (q.row (vfn x)) Try.underlying25 rfl (by rw [vfn_size]; kernel_rfl)) rfl ?_; refine ⟨?_, Below.setRow hB (by omega) _⟩
    rfl
end Go.Proofs.Ytjnocbjngojigaa
