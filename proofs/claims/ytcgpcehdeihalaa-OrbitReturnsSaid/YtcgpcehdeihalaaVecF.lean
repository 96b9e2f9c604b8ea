/-
  The same of the specification of vectors: dot, two, Dot, Norm, result, Cross. Vector products, in the package and in its specification. Vector products as a whole, in the package and in its specification.
-/
import Derived.Test.YtcgpcehdeihalaaVecA
import Derived.Test.YtcgpcehdeihalaaBase
import Derived.Test.YtcgpcehdeihalaaWave
set_option linter.unusedSimpArgs false
set_option linter.unusedVariables false
namespace Go.Proofs.Ytcgpcehdeihalaa
open Go.RowKit PM Dt
theorem list_J2 {a b : Int} (ha : I64 a) (hb : I64 b) : ∀ k, k < [a, b].length → I64 ([a, b].getD k 0) := by
  intro k hk
  rcases k with _ | _ | k
  · exact ha
  · exact hb
  · simp at hk; omega
theorem intsJ2 {w : World} {b : Nat} {a c : Int} {t : TypeId} (h : blk w b #[.int .i64 a, .int .i64 c] t) : Ints w (.slice (some ⟨b, 0, none⟩) 2 2) [a, c] :=
  Or.inr ⟨by simp, b, 0, 2, rfl, h.lt, fun k hk => by
    rcases k with _ | _ | k
    · exact h.cellIs rfl
    · exact h.cellIs rfl
    · simp at hk; omega⟩
/-- The nearest integer of (a b - c d) / 2^30. -/
def twoV (a b c d : Int) : Int := rnd (dotS [a, -c] [b, d])
theorem vb_neg {a : Int} (h : vb a = true) : vb (-a) = true := (vb_iff _).2 (by have := (vb_iff a).1 h; omega)
theorem two_fit {a b c d : Int} (ha : vb a = true) (hb : vb b = true) (hc : vb c = true) (hd : vb d = true) : dotV [a, -c] [b, d] = twoV a b c d ∧ dotE [a, -c] [b, d] = 0 := by
  have a0 := vb_prod ha hb
  have a1 := vb_prod (vb_neg hc) hd
  have e : dotS [a, -c] [b, d] = a * b + (-c * d + 0) := by rw [dotS_cons, dotS_cons, dotS_nil]
  have := dotOK (S := dotS [a, -c] [b, d]) (by rw [e]; omega) (by rw [e]; omega)
  unfold dotV dotE twoV
  rw [if_neg (by simp), if_neg (by simp)]
  exact this
theorem two_dot (a b c d : Int) (x y : Nat) (w : World) (ha : vb a = true) (hb : vb b = true) (hc : vb c = true) (hd : vb d = true) (p : blk w x #[.int .i64 a, .int .i64 (-c)] 2) (q : blk w y #[.int .i64 b, .int .i64 d] 2) :
    Calls Try.prog 76 #[.slice (some ⟨x, 0, none⟩) 2 2, .slice (some ⟨y, 0, none⟩) 2 2] w fun e w' => e = .returned (.tuple #[.int .i64 (twoV a b c d), .int .i64 0]) ∧ Below w.heap.size w w' :=
  (dot_any [a, -c] [b, d] _ _ w (intsJ2 p) (intsJ2 q) (list_J2 (vb_I ha) (vb_I (vb_neg hc))) (list_J2 (vb_I hb) (vb_I hd))).mono fun e w' h => ⟨h.1.trans (by rw [(two_fit ha hb hc hd).1, (two_fit ha hb hc hd).2]), h.2⟩
theorem two_rdot (a b c d : Int) (x y : Nat) (w : World) (ha : vb a = true) (hb : vb b = true) (hc : vb c = true) (hd : vb d = true) (p : blk w x #[.int .i64 a, .int .i64 (-c)] 2) (q : blk w y #[.int .i64 b, .int .i64 d] 2) :
    Calls Try.prog 100 #[.slice (some ⟨x, 0, none⟩) 2 2, .slice (some ⟨y, 0, none⟩) 2 2] w fun e w' => e = .returned (.tuple #[.int .i64 (twoV a b c d), .int .i64 0]) ∧ Below w.heap.size w w' :=
  (rdot_any [a, -c] [b, d] _ _ w (intsJ2 p) (intsJ2 q) (list_J2 (vb_I ha) (vb_I (vb_neg hc))) (list_J2 (vb_I hb) (vb_I hd))).mono fun e w' h => ⟨h.1.trans (by rw [(two_fit ha hb hc hd).1, (two_fit ha hb hc hd).2]), h.2⟩
set_option maxRecDepth 100000 in
set_option maxHeartbeats 1000000 in
theorem rd_any (f g : Nat → Int) (w : World) (hf : okV f = true) (hg : okV g = true) : Calls Try.prog 101 #[.agg (vfn f), .agg (vfn g)] w fun e w' => e = .returned (.int .i64 (rnd (d3 f g))) ∧ Below w.heap.size w w' := by
  have D := Lib.hid (fun x y w p q => rdot3_any f g x y w hf hg p q)
  clear hf hg
  obtain ⟨X, hX⟩ : ∃ X, X = rnd (d3 f g) := ⟨_, rfl⟩
  rw [← hX] at D ⊢
  clear hX
  go_enter Try.func101, Try.ntmps101
  go_upto_region 1 with (fail)
  have p : blk ((w.alloc (.cells (vfn f) 25)).alloc (.cells (vfn g) 25)) w.heap.size (vfn f) 25 := (blk.new _ _ _).alloc _
  have q : blk ((w.alloc (.cells (vfn f) 25)).alloc (.cells (vfn g) 25)) (w.heap.size + 1) (vfn g) 25 := blk.new' (by simp)
  have hB : Below w.heap.size w ((w.alloc (.cells (vfn f) 25)).alloc (.cells (vfn g) 25)) := by go_grown
  generalize (w.alloc (.cells (vfn f) 25)).alloc (.cells (vfn g) 25) = w0 at *
  refine wp_region_Y 99 8 rfl (by kernel_rfl) ?_
  replace p := p.drew
  replace q := q.drew
  replace hB : Below w.heap.size w w0.drew := hB.drew
  generalize w0.drew = wo at *
  refine wpY_takeB 0 (.slice (some ⟨w.heap.size, 0, none⟩) 3 3) rfl rfl (by kernel_rfl) (fun w1 => by go_simp; exact ⟨rfl, Below.refl _ _⟩) ?_
  simp only [Act.put, List.setIfInBounds_toArray, List.set_cons_zero, List.set_cons_succ]
  refine wpY_takeB 1 (.slice (some ⟨w.heap.size + 1, 0, none⟩) 3 3) rfl rfl (by kernel_rfl) (fun w1 => by go_simp; exact ⟨rfl, Below.refl _ _⟩) ?_
  simp only [Act.put, List.setIfInBounds_toArray, List.set_cons_zero, List.set_cons_succ]
  refine wpY_takeA 2 (.tuple #[.int .i64 X, .int .i64 0]) rfl rfl (by kernel_rfl) (by kernel_rfl) (fun w1 h1 => ?_) ?_
  · go_simp
    refine (D.out _ _ _ (p.below h1 p.lt) (q.below h1 q.lt)).mono ?_
    rintro e w2 ⟨rfl, h2⟩
    exact ⟨rfl, h2⟩
  simp only [Act.put, List.setIfInBounds_toArray, List.set_cons_zero, List.set_cons_succ]
  refine wpY_takeB 3 (.tuple #[.int .i64 X, .int .i64 0]) rfl rfl (by kernel_rfl) (fun w1 => by go_simp; exact ⟨rfl, Below.refl _ _⟩) ?_
  simp only [Act.put, List.setIfInBounds_toArray, List.set_cons_zero, List.set_cons_succ]
  refine wpY_takeB 4 (.int .i64 X) rfl rfl (by kernel_rfl) (fun w1 => by go_simp; exact ⟨rfl, Below.refl _ _⟩) ?_
  simp only [Act.put, List.setIfInBounds_toArray, List.set_cons_zero, List.set_cons_succ]
  refine wpY_takeB 5 (.int .i64 0) rfl rfl (by kernel_rfl) (fun w1 => by go_simp; exact ⟨rfl, Below.refl _ _⟩) ?_
  simp only [Act.put, List.setIfInBounds_toArray, List.set_cons_zero, List.set_cons_succ]
  refine wpY_takeB 6 (.int .i64 X) rfl rfl (by kernel_rfl) (fun w1 => by go_simp; exact ⟨rfl, Below.refl _ _⟩) ?_
  simp only [Act.put, List.setIfInBounds_toArray, List.set_cons_zero, List.set_cons_succ]
  refine wpY_takeB 7 (.int .i64 0) rfl rfl (by kernel_rfl) (fun w1 => by go_simp; exact ⟨rfl, Below.refl _ _⟩) ?_
  simp only [Act.put, List.setIfInBounds_toArray, List.set_cons_zero, List.set_cons_succ]
  refine wpY_end (by kernel_rfl) (fun w3 h3 => ?_)
  replace hB := hB.trans (h3.mono hB.size)
  go_wp2_with (fail)
  go_ret
  exact ⟨rfl, hB⟩
set_option maxRecDepth 100000 in
set_option maxHeartbeats 2000000 in
theorem vdot_any (f g : Nat → Int) (w : World) : Calls Try.prog 38 #[.agg (vfn f), .agg (vfn g)] w fun e w' => e = .returned (.tuple #[.int .i64 (vdotV f g), .int .i64 (vdotE f g)]) ∧ Below w.heap.size w w' := by
  have V1 := Lib.hid (fun w => valid_any f w)
  have V2 := Lib.hid (fun w => valid_any g w)
  have D := Lib.hid (fun h1 h2 => fun x y w p q => dot3_any f g x y w h1 h2 p q)
  unfold vdotV vdotE
  obtain ⟨bf, hf⟩ : ∃ b, okV f = b := ⟨_, rfl⟩
  obtain ⟨bg, hg⟩ : ∃ b, okV g = b := ⟨_, rfl⟩
  rw [hf] at V1 D ⊢
  rw [hg] at V2 D ⊢
  clear hf hg
  obtain ⟨X, hX⟩ : ∃ X, X = rnd (d3 f g) := ⟨_, rfl⟩
  rw [← hX] at D ⊢
  clear hX
  go_enter Try.func38, Try.ntmps38
  go_upto_region 1 with (fail)
  have p : blk ((w.alloc (.cells (vfn f) 25)).alloc (.cells (vfn g) 25)) w.heap.size (vfn f) 25 := (blk.new _ _ _).alloc _
  have q : blk ((w.alloc (.cells (vfn f) 25)).alloc (.cells (vfn g) 25)) (w.heap.size + 1) (vfn g) 25 := blk.new' (by simp)
  have hB : Below w.heap.size w ((w.alloc (.cells (vfn f) 25)).alloc (.cells (vfn g) 25)) := by go_grown
  generalize (w.alloc (.cells (vfn f) 25)).alloc (.cells (vfn g) 25) = w0 at *
  cases bf
  · go_wp2_with (first | (refine wpList_load_rowG ?hw _ _ rfl _ rfl _ _ _ _ p Try.underlying25 rfl ?hi ?_; (case hw => (first | rfl | (simp [Region.wanted, yielded]; done))); (case hi => (rw [vfn_size]; kernel_rfl))) | (refine wpList_load_rowG ?hw _ _ rfl _ rfl _ _ _ _ q Try.underlying25 rfl ?hi ?_; (case hw => (first | rfl | (simp [Region.wanted, yielded]; done))); (case hi => (rw [vfn_size]; kernel_rfl))) | (go_at_call 53; with_reducible refine (V1.out _).mono ?_; rintro e w1 ⟨rfl, hb⟩; replace hB := hB.trans (hb.mono hB.size); replace p := p.below hb p.lt; replace q := q.below hb q.lt; clear hb) | (go_at_call 53; with_reducible refine (V2.out _).mono ?_; rintro e w1 ⟨rfl, hb⟩; replace hB := hB.trans (hb.mono hB.size); replace p := p.below hb p.lt; replace q := q.below hb q.lt; clear hb))
    go_ret2
    exact ⟨rfl, hB⟩
  cases bg
  · go_wp2_with (first | (refine wpList_load_rowG ?hw _ _ rfl _ rfl _ _ _ _ p Try.underlying25 rfl ?hi ?_; (case hw => (first | rfl | (simp [Region.wanted, yielded]; done))); (case hi => (rw [vfn_size]; kernel_rfl))) | (refine wpList_load_rowG ?hw _ _ rfl _ rfl _ _ _ _ q Try.underlying25 rfl ?hi ?_; (case hw => (first | rfl | (simp [Region.wanted, yielded]; done))); (case hi => (rw [vfn_size]; kernel_rfl))) | (go_at_call 53; with_reducible refine (V1.out _).mono ?_; rintro e w1 ⟨rfl, hb⟩; replace hB := hB.trans (hb.mono hB.size); replace p := p.below hb p.lt; replace q := q.below hb q.lt; clear hb) | (go_at_call 53; with_reducible refine (V2.out _).mono ?_; rintro e w1 ⟨rfl, hb⟩; replace hB := hB.trans (hb.mono hB.size); replace p := p.below hb p.lt; replace q := q.below hb q.lt; clear hb))
    go_ret2
    exact ⟨rfl, hB⟩
  replace D := Lib.hid (D.out rfl rfl)
  go_upto_region 3 with (first | (refine wpList_load_rowG ?hw _ _ rfl _ rfl _ _ _ _ p Try.underlying25 rfl ?hi ?_; (case hw => (first | rfl | (simp [Region.wanted, yielded]; done))); (case hi => (rw [vfn_size]; kernel_rfl))) | (refine wpList_load_rowG ?hw _ _ rfl _ rfl _ _ _ _ q Try.underlying25 rfl ?hi ?_; (case hw => (first | rfl | (simp [Region.wanted, yielded]; done))); (case hi => (rw [vfn_size]; kernel_rfl))) | (go_at_call 53; with_reducible refine (V1.out _).mono ?_; rintro e w1 ⟨rfl, hb⟩; replace hB := hB.trans (hb.mono hB.size); replace p := p.below hb p.lt; replace q := q.below hb q.lt; clear hb) | (go_at_call 53; with_reducible refine (V2.out _).mono ?_; rintro e w1 ⟨rfl, hb⟩; replace hB := hB.trans (hb.mono hB.size); replace p := p.below hb p.lt; replace q := q.below hb q.lt; clear hb))
  refine wp_region_Y 99 7 rfl (by kernel_rfl) ?_
  replace p := p.drew
  replace q := q.drew
  replace hB : Below w.heap.size w _ := hB.drew
  generalize w1.drew = wo at *
  refine wpY_takeB 0 (.slice (some ⟨w.heap.size, 0, none⟩) 3 3) rfl rfl (by kernel_rfl) (fun w1 => by go_simp; exact ⟨rfl, Below.refl _ _⟩) ?_
  simp only [Act.put, List.setIfInBounds_toArray, List.set_cons_zero, List.set_cons_succ]
  refine wpY_takeB 1 (.slice (some ⟨w.heap.size + 1, 0, none⟩) 3 3) rfl rfl (by kernel_rfl) (fun w1 => by go_simp; exact ⟨rfl, Below.refl _ _⟩) ?_
  simp only [Act.put, List.setIfInBounds_toArray, List.set_cons_zero, List.set_cons_succ]
  refine wpY_takeA 2 (.tuple #[.int .i64 X, .int .i64 0]) rfl rfl (by kernel_rfl) (by kernel_rfl) (fun w1 h1 => ?_) ?_
  · go_simp
    refine (D.out _ _ _ (p.below h1 p.lt) (q.below h1 q.lt)).mono ?_
    rintro e w2 ⟨rfl, h2⟩
    exact ⟨rfl, h2⟩
  simp only [Act.put, List.setIfInBounds_toArray, List.set_cons_zero, List.set_cons_succ]
  refine wpY_takeB 3 (.int .i64 X) rfl rfl (by kernel_rfl) (fun w1 => by go_simp; exact ⟨rfl, Below.refl _ _⟩) ?_
  simp only [Act.put, List.setIfInBounds_toArray, List.set_cons_zero, List.set_cons_succ]
  refine wpY_takeB 4 (.int .i64 0) rfl rfl (by kernel_rfl) (fun w1 => by go_simp; exact ⟨rfl, Below.refl _ _⟩) ?_
  simp only [Act.put, List.setIfInBounds_toArray, List.set_cons_zero, List.set_cons_succ]
  refine wpY_takeB 5 (.int .i64 X) rfl rfl (by kernel_rfl) (fun w1 => by go_simp; exact ⟨rfl, Below.refl _ _⟩) ?_
  simp only [Act.put, List.setIfInBounds_toArray, List.set_cons_zero, List.set_cons_succ]
  refine wpY_takeB 6 (.int .i64 0) rfl rfl (by kernel_rfl) (fun w1 => by go_simp; exact ⟨rfl, Below.refl _ _⟩) ?_
  simp only [Act.put, List.setIfInBounds_toArray, List.set_cons_zero, List.set_cons_succ]
  refine wpY_end (by kernel_rfl) (fun w3 h3 => ?_)
  replace hB := hB.trans (h3.mono hB.size)
  go_wp2_with (fail)
  go_ret2
  exact ⟨rfl, hB⟩
set_option maxRecDepth 100000 in
set_option maxHeartbeats 2000000 in
theorem rvdot_any (f g : Nat → Int) (w : World) : Calls Try.prog 73 #[.agg (vfn f), .agg (vfn g)] w fun e w' => e = .returned (.tuple #[.int .i64 (vdotV f g), .int .i64 (vdotE f g)]) ∧ Below w.heap.size w w' := by
  have V1 := Lib.hid (fun w => rvalid_any f w)
  have V2 := Lib.hid (fun w => rvalid_any g w)
  have D := Lib.hid (fun h1 h2 => fun w => rd_any f g w h1 h2)
  unfold vdotV vdotE
  obtain ⟨bf, hf⟩ : ∃ b, okV f = b := ⟨_, rfl⟩
  obtain ⟨bg, hg⟩ : ∃ b, okV g = b := ⟨_, rfl⟩
  rw [hf] at V1 D ⊢
  rw [hg] at V2 D ⊢
  clear hf hg
  obtain ⟨X, hX⟩ : ∃ X, X = rnd (d3 f g) := ⟨_, rfl⟩
  rw [← hX] at D ⊢
  clear hX
  go_enter Try.func73, Try.ntmps73
  go_upto_region 1 with (fail)
  have p : blk ((w.alloc (.cells (vfn f) 25)).alloc (.cells (vfn g) 25)) w.heap.size (vfn f) 25 := (blk.new _ _ _).alloc _
  have q : blk ((w.alloc (.cells (vfn f) 25)).alloc (.cells (vfn g) 25)) (w.heap.size + 1) (vfn g) 25 := blk.new' (by simp)
  have hB : Below w.heap.size w ((w.alloc (.cells (vfn f) 25)).alloc (.cells (vfn g) 25)) := by go_grown
  generalize (w.alloc (.cells (vfn f) 25)).alloc (.cells (vfn g) 25) = w0 at *
  cases bf
  · go_wp2_with (first | (refine wpList_load_rowG ?hw _ _ rfl _ rfl _ _ _ _ p Try.underlying25 rfl ?hi ?_; (case hw => (first | rfl | (simp [Region.wanted, yielded]; done))); (case hi => (rw [vfn_size]; kernel_rfl))) | (refine wpList_load_rowG ?hw _ _ rfl _ rfl _ _ _ _ q Try.underlying25 rfl ?hi ?_; (case hw => (first | rfl | (simp [Region.wanted, yielded]; done))); (case hi => (rw [vfn_size]; kernel_rfl))) | (go_at_call 97; with_reducible refine (V1.out _).mono ?_; rintro e w1 ⟨rfl, hb⟩; replace hB := hB.trans (hb.mono hB.size); replace p := p.below hb p.lt; replace q := q.below hb q.lt; clear hb) | (go_at_call 97; with_reducible refine (V2.out _).mono ?_; rintro e w1 ⟨rfl, hb⟩; replace hB := hB.trans (hb.mono hB.size); replace p := p.below hb p.lt; replace q := q.below hb q.lt; clear hb))
    go_ret2
    exact ⟨rfl, hB⟩
  cases bg
  · go_wp2_with (first | (refine wpList_load_rowG ?hw _ _ rfl _ rfl _ _ _ _ p Try.underlying25 rfl ?hi ?_; (case hw => (first | rfl | (simp [Region.wanted, yielded]; done))); (case hi => (rw [vfn_size]; kernel_rfl))) | (refine wpList_load_rowG ?hw _ _ rfl _ rfl _ _ _ _ q Try.underlying25 rfl ?hi ?_; (case hw => (first | rfl | (simp [Region.wanted, yielded]; done))); (case hi => (rw [vfn_size]; kernel_rfl))) | (go_at_call 97; with_reducible refine (V1.out _).mono ?_; rintro e w1 ⟨rfl, hb⟩; replace hB := hB.trans (hb.mono hB.size); replace p := p.below hb p.lt; replace q := q.below hb q.lt; clear hb) | (go_at_call 97; with_reducible refine (V2.out _).mono ?_; rintro e w1 ⟨rfl, hb⟩; replace hB := hB.trans (hb.mono hB.size); replace p := p.below hb p.lt; replace q := q.below hb q.lt; clear hb))
    go_ret2
    exact ⟨rfl, hB⟩
  replace D := Lib.hid (D.out rfl rfl)
  go_wp2_with (first | (refine wpList_load_rowG ?hw _ _ rfl _ rfl _ _ _ _ p Try.underlying25 rfl ?hi ?_; (case hw => (first | rfl | (simp [Region.wanted, yielded]; done))); (case hi => (rw [vfn_size]; kernel_rfl))) | (refine wpList_load_rowG ?hw _ _ rfl _ rfl _ _ _ _ q Try.underlying25 rfl ?hi ?_; (case hw => (first | rfl | (simp [Region.wanted, yielded]; done))); (case hi => (rw [vfn_size]; kernel_rfl))) | (go_at_call 97; with_reducible refine (V1.out _).mono ?_; rintro e w1 ⟨rfl, hb⟩; replace hB := hB.trans (hb.mono hB.size); replace p := p.below hb p.lt; replace q := q.below hb q.lt; clear hb) | (go_at_call 97; with_reducible refine (V2.out _).mono ?_; rintro e w1 ⟨rfl, hb⟩; replace hB := hB.trans (hb.mono hB.size); replace p := p.below hb p.lt; replace q := q.below hb q.lt; clear hb) | (go_at_call 101; refine (D.out _).mono ?_; rintro e w2 ⟨rfl, hb⟩; replace hB := hB.trans (hb.mono hB.size); clear hb))
  go_ret2
  exact ⟨rfl, hB⟩
def normV (f : Nat → Int) : Int := if okV f then fitV (hypQ [f 0, f 1, f 2]) else 0
def normE (f : Nat → Int) : Int := if okV f then fitE (hypQ [f 0, f 1, f 2]) else 2
set_option maxRecDepth 100000 in
set_option maxHeartbeats 1000000 in
theorem vnorm_any (f : Nat → Int) (w : World) : Calls Try.prog 20 #[.agg (vfn f)] w fun e w' => e = .returned (.tuple #[.int .i64 (normV f), .int .i64 (normE f)]) ∧ Below w.heap.size w w' := by
  have V1 := Lib.hid (fun w => valid_any f w)
  have D := Lib.hid (fun (h : okV f = true) (b : Nat) (w : World) (p : blk w b (vfn f) 25) => hypot_any [f 0, f 1, f 2] _ w (ints3 p) (list_I3 (okV_I h)))
  rw [show (if 8 < [f 0, f 1, f 2].length then (0 : Int) else fitV (hypQ [f 0, f 1, f 2])) = fitV (hypQ [f 0, f 1, f 2]) from if_neg (by simp), show (if 8 < [f 0, f 1, f 2].length then (2 : Int) else fitE (hypQ [f 0, f 1, f 2])) = fitE (hypQ [f 0, f 1, f 2]) from if_neg (by simp)] at D
  unfold normV normE
  obtain ⟨bf, hf⟩ : ∃ b, okV f = b := ⟨_, rfl⟩
  rw [hf] at V1 D ⊢
  clear hf
  generalize fitV (hypQ [f 0, f 1, f 2]) = X at *
  generalize fitE (hypQ [f 0, f 1, f 2]) = E at *
  go_enter Try.func20, Try.ntmps20
  go_upto_region 1 with (fail)
  have p : blk (w.alloc (.cells (vfn f) 25)) w.heap.size (vfn f) 25 := blk.new _ _ _
  have hB : Below w.heap.size w (w.alloc (.cells (vfn f) 25)) := by go_grown
  generalize w.alloc (.cells (vfn f) 25) = w0 at *
  cases bf
  · go_wp2_with (first | (refine wpList_load_rowG ?hw _ _ rfl _ rfl _ _ _ _ p Try.underlying25 rfl ?hi ?_; (case hw => (first | rfl | (simp [Region.wanted, yielded]; done))); (case hi => (rw [vfn_size]; kernel_rfl))) | (go_at_call 53; refine (V1.out _).mono ?_; rintro e w1 ⟨rfl, hb⟩; replace hB := hB.trans (hb.mono hB.size); replace p := p.below hb p.lt; clear hb))
    go_ret2
    exact ⟨rfl, hB⟩
  · replace D := Lib.hid (D.out rfl)
    go_wp2_with (first
      | (refine wpList_load_rowG ?hw _ _ rfl _ rfl _ _ _ _ p Try.underlying25 rfl ?hi ?_; (case hw => (first | rfl | (simp [Region.wanted, yielded]; done))); (case hi => (rw [vfn_size]; kernel_rfl)))
      | (go_at_call 53; refine (V1.out _).mono ?_; rintro e w1 ⟨rfl, hb⟩; replace hB := hB.trans (hb.mono hB.size); replace p := p.below hb p.lt; clear hb)
      | (go_at_call 15; refine (D.out _ _ p).mono ?_; rintro e w2 ⟨rfl, rfl⟩))
    go_ret2
    exact ⟨rfl, hB⟩
end Go.Proofs.Ytcgpcehdeihalaa
namespace Go.Proofs.Ytcgpcehdeihalaa
open Go.RowKit PM Dt
/-- A component of the vector product. -/
def crossX (f g : Nat → Int) (i : Nat) : Int := twoV (f ((i + 1) % 3)) (g ((i + 2) % 3)) (f ((i + 2) % 3)) (g ((i + 1) % 3))
end Go.Proofs.Ytcgpcehdeihalaa
namespace Go.Proofs.Ytcgpcehdeihalaa
open Go.RowKit PM Dt
/-- The vector product, and the error's number. -/
def vcrossF (f g : Nat → Int) : Nat → Int := if okV f && okV g then (if okV (crossX f g) then crossX f g else fun _ => 0) else fun _ => 0
def vcrossE (f g : Nat → Int) : Int := if okV f && okV g then (if okV (crossX f g) then 0 else 7) else 2
theorem good_zero (x : Nat → Int) : goodE x (fun _ => 0) = okV x := by unfold goodE okV; simp
def resF (x : Nat → Int) : Nat → Int := if okV x then x else fun _ => 0
def resE (x : Nat → Int) : Int := if okV x then 0 else 7
theorem each_res (x : Nat → Int) : eachF x (fun _ => 0) = resF x ∧ eachE x (fun _ => 0) = resE x := by
  unfold eachF eachE resF resE; rw [good_zero]; exact ⟨rfl, rfl⟩
end Go.Proofs.Ytcgpcehdeihalaa
