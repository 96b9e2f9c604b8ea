/-
  Products of quaternions, in the package: the four components. Products of quaternions, in the package and in its specification.
-/
import Derived.Test.YtkmelddejdikgaaQuatB
import Derived.Test.YtkmelddejdikgaaBase
set_option linter.unusedSimpArgs false
set_option linter.unusedVariables false
namespace Go.Proofs.Ytkmelddejdikgaa
open Go.RowKit PM Dt
theorem qfn_set {f g : Nat → Int} {i : Nat} {v : Int} (h : i < 4) (hx : v = g i) (hg : ∀ j, j < 4 → j ≠ i → f j = g j) : (qfn f).setIfInBounds i (.int .i64 v) = qfn g := by
  subst hx
  have : i = 0 ∨ i = 1 ∨ i = 2 ∨ i = 3 := by omega
  rcases this with rfl | rfl | rfl | rfl
  · unfold qfn; rw [hg 1 (by omega) (by omega), hg 2 (by omega) (by omega), hg 3 (by omega) (by omega)]; rfl
  · unfold qfn; rw [hg 0 (by omega) (by omega), hg 2 (by omega) (by omega), hg 3 (by omega) (by omega)]; rfl
  · unfold qfn; rw [hg 0 (by omega) (by omega), hg 1 (by omega) (by omega), hg 3 (by omega) (by omega)]; rfl
  · unfold qfn; rw [hg 0 (by omega) (by omega), hg 1 (by omega) (by omega), hg 2 (by omega) (by omega)]; rfl
theorem okQ_I {f : Nat → Int} (hf : okQ f = true) : ∀ i, i < 4 → I64 (f i) := fun i hi => vb_I ((okQ_iff f).1 hf i hi)
def d4 (f g : Nat → Int) : Int := dotS [f 0, f 1, f 2, f 3] [g 0, g 1, g 2, g 3]
theorem d4_fit {f g : Nat → Int} (hf : okQ f = true) (hg : okQ g = true) : dotV [f 0, f 1, f 2, f 3] [g 0, g 1, g 2, g 3] = rnd (d4 f g) ∧ dotE [f 0, f 1, f 2, f 3] [g 0, g 1, g 2, g 3] = 0 := by
  have a0 := vb_prod ((okQ_iff f).1 hf 0 (by omega)) ((okQ_iff g).1 hg 0 (by omega))
  have a1 := vb_prod ((okQ_iff f).1 hf 1 (by omega)) ((okQ_iff g).1 hg 1 (by omega))
  have a2 := vb_prod ((okQ_iff f).1 hf 2 (by omega)) ((okQ_iff g).1 hg 2 (by omega))
  have a3 := vb_prod ((okQ_iff f).1 hf 3 (by omega)) ((okQ_iff g).1 hg 3 (by omega))
  have e : dotS [f 0, f 1, f 2, f 3] [g 0, g 1, g 2, g 3] = f 0 * g 0 + (f 1 * g 1 + (f 2 * g 2 + (f 3 * g 3 + 0))) := by rw [dotS_cons, dotS_cons, dotS_cons, dotS_cons, dotS_nil]
  have := dotOK (S := dotS [f 0, f 1, f 2, f 3] [g 0, g 1, g 2, g 3]) (by rw [e]; omega) (by rw [e]; omega)
  unfold dotV dotE d4
  rw [if_neg (by simp), if_neg (by simp)]
  exact this
theorem dot4_any (f g : Nat → Int) (b c : Nat) (w : World) (t : TypeId) (hf : okQ f = true) (hg : okQ g = true) (p : blk w b (qfn f) t) (q : blk w c (qfn g) t) :
    Calls Try.prog 60 #[.slice (some ⟨b, 0, none⟩) 4 4, .slice (some ⟨c, 0, none⟩) 4 4] w fun e w' => e = .returned (.tuple #[.int .i64 (rnd (d4 f g)), .int .i64 0]) ∧ Below w.heap.size w w' :=
  (dot_any [f 0, f 1, f 2, f 3] [g 0, g 1, g 2, g 3] _ _ w (ints4 p) (ints4 q) (list_I4 (okQ_I hf)) (list_I4 (okQ_I hg))).mono fun e w' h => ⟨h.1.trans (by rw [(d4_fit hf hg).1, (d4_fit hf hg).2]), h.2⟩
def pre4 (x : Nat → Int) (k : Nat) : Nat → Int := fun j => if j < k then x j else 0
theorem pre4_step {x : Nat → Int} {k j : Nat} (h : j ≠ k) : pre4 x k j = pre4 x (k + 1) j := by
  have : (j < k + 1) = (j < k) := propext (by omega)
  simp only [pre4, this]
def prL (f : Nat → Int) : Nat → Nat → Int
  | 0, 0 => f 0
  | 0, k => -f k
  | 1, 3 => -f 3
  | 2, 1 => -f 1
  | 3, 2 => -f 2
  | _, k => f k
def prM (g : Nat → Int) (i : Nat) : Nat → Int := fun k => g (i ^^^ k)
def qprX (f g : Nat → Int) (i : Nat) : Int := rnd (d4 (prL f i) (prM g i))
theorem prL_ok {f : Nat → Int} (h : okQ f = true) {i : Nat} (hi : i < 4) : okQ (prL f i) = true := by
  have v := (okQ_iff f).1 h
  have n : ∀ k, k < 4 → vb (-f k) = true := fun k hk => vb_neg (v k hk)
  refine (okQ_iff _).2 fun k hk => ?_
  have : i = 0 ∨ i = 1 ∨ i = 2 ∨ i = 3 := by omega
  have h2 : k = 0 ∨ k = 1 ∨ k = 2 ∨ k = 3 := by omega
  rcases this with rfl | rfl | rfl | rfl <;> rcases h2 with rfl | rfl | rfl | rfl <;> first | exact v _ (by omega) | exact n _ (by omega)
theorem prM_ok {g : Nat → Int} (h : okQ g = true) {i : Nat} (hi : i < 4) : okQ (prM g i) = true := by
  have v := (okQ_iff g).1 h
  refine (okQ_iff _).2 fun k hk => ?_
  have : i = 0 ∨ i = 1 ∨ i = 2 ∨ i = 3 := by omega
  have h2 : k = 0 ∨ k = 1 ∨ k = 2 ∨ k = 3 := by omega
  rcases this with rfl | rfl | rfl | rfl <;> rcases h2 with rfl | rfl | rfl | rfl <;> exact v _ (by decide)
def sgnA : Array Value := #[.int .i64 1, .int .i64 (-1), .int .i64 (-1), .int .i64 (-1), .int .i64 1, .int .i64 1, .int .i64 1, .int .i64 (-1), .int .i64 1, .int .i64 (-1), .int .i64 1, .int .i64 1, .int .i64 1, .int .i64 1, .int .i64 (-1), .int .i64 1]
theorem sgnA_lit : sgnA = #[.int .i64 1, .int .i64 (-1), .int .i64 (-1), .int .i64 (-1), .int .i64 1, .int .i64 1, .int .i64 1, .int .i64 (-1), .int .i64 1, .int .i64 (-1), .int .i64 1, .int .i64 1, .int .i64 1, .int .i64 1, .int .i64 (-1), .int .i64 1] := rfl
def sgI (k : Nat) : Int := if k = 1 ∨ k = 2 ∨ k = 3 ∨ k = 7 ∨ k = 9 ∨ k = 14 then -1 else 1
theorem sgn_get : ∀ k, k < 16 → sgnA[k]? = some (.int .i64 (sgI k)) := by
  intro k hk
  have : k = 0 ∨ k = 1 ∨ k = 2 ∨ k = 3 ∨ k = 4 ∨ k = 5 ∨ k = 6 ∨ k = 7 ∨ k = 8 ∨ k = 9 ∨ k = 10 ∨ k = 11 ∨ k = 12 ∨ k = 13 ∨ k = 14 ∨ k = 15 := by omega
  rcases this with rfl | rfl | rfl | rfl | rfl | rfl | rfl | rfl | rfl | rfl | rfl | rfl | rfl | rfl | rfl | rfl <;> rfl
theorem sgnA_size : sgnA.size = 16 := rfl
theorem sgnA_one : sgnA.all (·.oneCell') = true := by simp [sgnA, Value.oneCell']
attribute [irreducible] sgnA
theorem xor_tab : bits .xor .i64 0 0 = 0 ∧ bits .xor .i64 0 1 = 1 ∧ bits .xor .i64 0 2 = 2 ∧ bits .xor .i64 0 3 = 3 ∧ bits .xor .i64 1 0 = 1 ∧ bits .xor .i64 1 1 = 0 ∧ bits .xor .i64 1 2 = 3 ∧ bits .xor .i64 1 3 = 2 ∧ bits .xor .i64 2 0 = 2 ∧ bits .xor .i64 2 1 = 3 ∧ bits .xor .i64 2 2 = 0 ∧ bits .xor .i64 2 3 = 1 ∧ bits .xor .i64 3 0 = 3 ∧ bits .xor .i64 3 1 = 2 ∧ bits .xor .i64 3 2 = 1 ∧ bits .xor .i64 3 3 = 0 := by decide
theorem absW {n : Nat} {w2 : World} {K R : Act → World → Prop} {G : World → Prop} (hK : ∀ a' w', Below n w2 w' → G w' → R a' w' → K a' w') {a : Act} {w' : World} (b : Below n w2 w') (g : G w') (h : ∀ w3, Below n w2 w3 → G w3 → R a w3) : K a w' := hK a w' b g (h w' b g)
set_option maxRecDepth 100000 in
set_option maxHeartbeats 16000000 in
theorem qprC_row (i : Nat) (I : Int) (hi : i < 4) (hI : I = i) (f g L M S : Nat → Int) (s b c : Nat) (w : World) (hs : blk w s sgnA 38) (p : blk w b (qfn f) 23) (q : blk w c (qfn g) 23) (hS : Hid (∀ k, k < 16 → sgnA[k]? = some (.int .i64 (S k)))) (hL : ∀ k, k < 4 → IntKind.i64.wrap (S (4 * i + k) * f k) = L k) (hM : ∀ k, k < 4 → g (i ^^^ k) = M k) (X : Int)
    (D : Hid (∀ x y w, blk w x (qfn L) 22 → blk w y (qfn M) 22 → Calls Try.prog 60 #[.slice (some ⟨x, 0, none⟩) 4 4, .slice (some ⟨y, 0, none⟩) 4 4] w fun e w' => e = .returned (.tuple #[.int .i64 X, .int .i64 0]) ∧ Below w.heap.size w w')) :
    Calls Try.prog 156 #[.int .i64 I, .pointer (some ⟨s, 0, none⟩), .pointer (some ⟨b, 0, none⟩), .pointer (some ⟨c, 0, none⟩)] w fun e w' => e = .returned (.tuple #[.int .i64 X, .int .i64 0]) ∧ Below w.heap.size w w' := by
  have l0 := hL 0 (by omega)
  have l1 := hL 1 (by omega)
  have l2 := hL 2 (by omega)
  have l3 := hL 3 (by omega)
  have m0 := hM 0 (by omega)
  have m1 := hM 1 (by omega)
  have m2 := hM 2 (by omega)
  have m3 := hM 3 (by omega)
  clear hL hM
  have : i = 0 ∧ I = 0 ∨ i = 1 ∧ I = 1 ∨ i = 2 ∧ I = 2 ∨ i = 3 ∧ I = 3 := by omega
  clear hi hI
  rcases this with ⟨rfl, rfl⟩ | ⟨rfl, rfl⟩ | ⟨rfl, rfl⟩ | ⟨rfl, rfl⟩
  all_goals
    simp only [Nat.reduceMul, Nat.reduceAdd, Nat.zero_add] at l0 l1 l2 l3
    simp only [Nat.zero_xor, Nat.xor_zero, Nat.xor_self, Nat.reduceXor] at m0 m1 m2 m3
    replace l0 := Lib.hid l0
    replace l1 := Lib.hid l1
    replace l2 := Lib.hid l2
    replace l3 := Lib.hid l3
    replace m0 := Lib.hid m0
    replace m1 := Lib.hid m1
    replace m2 := Lib.hid m2
    replace m3 := Lib.hid m3
    go_enter Try.func156, Try.ntmps156
    go_upto_region 2 with (fail)
    rw [zero_quat]
    have hs0 := hs.lt
    have p0 := p.lt
    have q0 := q.lt
    replace hs := (hs.alloc (.cells (qfn fun _ => 0) 22)).alloc (.cells (qfn fun _ => 0) 22)
    replace p := (p.alloc (.cells (qfn fun _ => 0) 22)).alloc (.cells (qfn fun _ => 0) 22)
    replace q := (q.alloc (.cells (qfn fun _ => 0) 22)).alloc (.cells (qfn fun _ => 0) 22)
    have l : blk ((w.alloc (.cells (qfn fun _ => 0) 22)).alloc (.cells (qfn fun _ => 0) 22)) w.heap.size (qfn fun _ => 0) 22 := (blk.new _ _ _).alloc _
    have m : blk ((w.alloc (.cells (qfn fun _ => 0) 22)).alloc (.cells (qfn fun _ => 0) 22)) (w.heap.size + 1) (qfn fun _ => 0) 22 := blk.new' (by simp)
    have hB : Below w.heap.size w ((w.alloc (.cells (qfn fun _ => 0) 22)).alloc (.cells (qfn fun _ => 0) 22)) := by go_grown
    generalize (w.alloc (.cells (qfn fun _ => 0) 22)).alloc (.cells (qfn fun _ => 0) 22) = w0 at *
    go_wp2_with (fail)
    go_loopg [10] 4 (fun g_ iv wr => ∃ k : Nat, g_ + k = 4 ∧ iv = .int .i64 k ∧ blk wr s sgnA 38 ∧ blk wr b (qfn f) 23 ∧ blk wr c (qfn g) 23 ∧ blk wr w.heap.size (qfn (pre4 L k)) 22 ∧ blk wr (w.heap.size + 1) (qfn (pre4 M k)) 22 ∧ Below w.heap.size w wr)
    case atStart => exact ⟨0, rfl, rfl, hs, p, q, by rw [show qfn (pre4 L 0) = qfn (fun _ => 0) from qfn_congr fun i _ => by simp [pre4]]; exact l, by rw [show qfn (pre4 M 0) = qfn (fun _ => 0) from qfn_congr fun i _ => by simp [pre4]]; exact m, hB⟩
    case round =>
      clear hs p q l m hB
      obtain ⟨k, hk, rfl, hs, p, q, l, m, hB⟩ := hrel
      obtain ⟨K, hK⟩ : ∃ K, K = k := ⟨_, rfl⟩
      rw [← hK] at l m
      have hcase : k = 0 ∨ k = 1 ∨ k = 2 ∨ k = 3 ∨ k = 4 := by omega
      rcases hcase with rfl | rfl | rfl | rfl | rfl
      iterate 4
        · replace hK := Lib.hid hK
          go_upto_region 5 with (fail)
          refine wp_region_Z 20 w.heap.size [17, 19] (fun bs wx => blk wx w.heap.size (qfn (pre4 L (K + cond (bs.getD 0 false) 1 0))) 22 ∧ blk wx (w.heap.size + 1) (qfn (pre4 M (K + cond (bs.getD 1 false) 1 0))) 22) rfl (by kernel_rfl) hB.size (fun bs w1 w2 h hm => ⟨h.1.below hm h.1.lt, h.2.below hm h.2.lt⟩) ⟨l.drew, m.drew⟩ ?_
          replace hs := hs.drew
          replace p := p.drew
          replace q := q.drew
          replace hB : Below w.heap.size w wr.drew := hB.drew
          clear l m
          generalize wr.drew = wd at *
          refine wpZ_take 0 _ rfl rfl (by kernel_rfl) rfl (fun w1 h1 => by go_simp; exact ⟨rfl, Below.refl _ _⟩) ?_
          simp only [Act.put, sIT, sCZ, sCS]
          refine wpZ_take 1 _ rfl rfl (by kernel_rfl) rfl (fun w1 h1 => by go_simp; exact ⟨rfl, Below.refl _ _⟩) ?_
          simp only [Act.put, sIT, sCZ, sCS]
          refine wpZ_take 2 _ rfl rfl (by kernel_rfl) rfl (fun w1 h1 => by go_simp; exact ⟨rfl, Below.refl _ _⟩) ?_
          simp only [Act.put, sIT, sCZ, sCS]
          refine wpZ_take 3 _ rfl rfl (by kernel_rfl) rfl (fun w1 h1 => by go_simp; exact ⟨rfl, Below.refl _ _⟩) ?_
          simp only [Act.put, sIT, sCZ, sCS]
          refine wpZ_take 4 _ rfl rfl (by kernel_rfl) rfl (fun w1 h1 => by go_simp; exact ⟨rfl, Below.refl _ _⟩) ?_
          simp only [Act.put, sIT, sCZ, sCS]
          refine wpZ_take 5 _ rfl rfl (by kernel_rfl) rfl (fun w1 h1 => by go_simp; exact ⟨rfl, Below.refl _ _⟩) ?_
          simp only [Act.put, sIT, sCZ, sCS]
          refine wpZ_take 6 _ rfl rfl (by kernel_rfl) rfl (fun w1 h1 => by have hc := fun k hk => (hs.below h1 hs0).cellIs (hS.out k hk); go_simp; exact ⟨rfl, Below.refl _ _⟩) ?_
          simp only [Act.put, sIT, sCZ, sCS]
          refine wpZ_take 7 _ rfl rfl (by kernel_rfl) rfl (fun w1 h1 => by go_simp; exact ⟨rfl, Below.refl _ _⟩) ?_
          simp only [Act.put, sIT, sCZ, sCS]
          refine wpZ_take 8 _ rfl rfl (by kernel_rfl) rfl (fun w1 h1 => by go_simp; exact ⟨rfl, Below.refl _ _⟩) ?_
          simp only [Act.put, sIT, sCZ, sCS]
          refine wpZ_take 9 _ rfl rfl (by kernel_rfl) rfl (fun w1 h1 => by have hc := fun k hk => (p.below h1 p0).cellIs (qfn_get (i := k) f hk); go_simp; exact ⟨rfl, Below.refl _ _⟩) ?_
          simp only [Act.put, sIT, sCZ, sCS]
          refine wpZ_take 10 _ rfl rfl (by kernel_rfl) rfl (fun w1 h1 => by go_simp; simp only [l0.out, l1.out, l2.out, l3.out]; exact ⟨rfl, Below.refl _ _⟩) ?_
          simp only [Act.put, sIT, sCZ, sCS]
          refine wpZ_take 11 _ rfl rfl (by kernel_rfl) rfl (fun w1 h1 => by go_simp; exact ⟨rfl, Below.refl _ _⟩) ?_
          simp only [Act.put, sIT, sCZ, sCS]
          refine wpZ_take 12 _ rfl rfl (by kernel_rfl) rfl (fun w1 h1 => by go_simp; exact ⟨rfl, Below.refl _ _⟩) ?_
          simp only [Act.put, sIT, sCZ, sCS]
          refine wpZ_take 13 _ rfl rfl (by kernel_rfl) rfl (fun w1 h1 => by have xt := xor_tab; go_simp; exact ⟨rfl, Below.refl _ _⟩) ?_
          simp only [Act.put, sIT, sCZ, sCS]
          refine wpZ_take 14 _ rfl rfl (by kernel_rfl) rfl (fun w1 h1 => by go_simp; exact ⟨rfl, Below.refl _ _⟩) ?_
          simp only [Act.put, sIT, sCZ, sCS]
          refine wpZ_take 15 _ rfl rfl (by kernel_rfl) rfl (fun w1 h1 => by have hc := fun k hk => (q.below h1 q0).cellIs (qfn_get (i := k) g hk); go_simp; simp only [m0.out, m1.out, m2.out, m3.out]; exact ⟨rfl, Below.refl _ _⟩) ?_
          simp only [Act.put, sIT, sCZ, sCS]
          refine wpZ_take 16 _ rfl rfl (by kernel_rfl) rfl (fun w1 h1 => by go_simp; exact ⟨rfl, Below.refl _ _⟩) ?_
          simp only [Act.put, sIT, sCZ, sCS]
          refine wpZ_one 17 rfl rfl (by kernel_rfl) [false, false] [true, false] rfl rfl (fun w2 h2 ⟨l, m⟩ KK hKK => ?_)
          replace l : blk w2 w.heap.size (qfn (pre4 L K)) 22 := l
          replace m : blk w2 (w.heap.size + 1) (qfn (pre4 M K)) 22 := m
          have fz := fun k => l.free k
          have cz := fun k hk => l.cellIs (qfn_get (i := k) (pre4 L K) hk)
          go_simp
          refine absW hKK ((Below.refl _ _).setCell (by simp) _) ⟨l.set' (qfn_set (g := pre4 L (K + 1)) (by omega) (by simp [pre4, hK.out]) (fun j hj hne => pre4_step (by have := hK.out; omega))), m.setOther (by simp) _⟩ (fun w3 b3 ⟨l, m⟩ => ?_)
          clear fz cz hKK KK
          replace hB := hB.trans (h2.trans b3)
          have h23 := h2.trans b3
          refine wpZ_take 18 _ rfl rfl (by kernel_rfl) rfl (fun w1 h1 => by go_simp; exact ⟨rfl, Below.refl _ _⟩) ?_
          simp only [Act.put, sIT, sCZ, sCS]
          refine wpZ_one 19 rfl rfl (by kernel_rfl) [true, false] [true, true] rfl rfl (fun w4 h4 ⟨l, m⟩ KK hKK => ?_)
          replace l : blk w4 w.heap.size (qfn (pre4 L (K + 1))) 22 := l
          replace m : blk w4 (w.heap.size + 1) (qfn (pre4 M K)) 22 := m
          have fz := fun k => m.free k
          have cz := fun k hk => m.cellIs (qfn_get (i := k) (pre4 M K) hk)
          go_simp
          refine absW hKK ((Below.refl _ _).setCell (by simp) _) ⟨l.setOther (by simp) _, m.set' (qfn_set (g := pre4 M (K + 1)) (by omega) (by simp [pre4, hK.out]) (fun j hj hne => pre4_step (by have := hK.out; omega)))⟩ (fun w5 b5 ⟨l, m⟩ => ?_)
          clear fz cz hKK KK
          replace hB := hB.trans (h4.trans b5)
          have h25 := h23.trans (h4.trans b5)
          refine wpZ_end (by kernel_rfl) [true, true] rfl (fun w6 h6 ⟨l, m⟩ => ?_)
          replace l : blk w6 w.heap.size (qfn (pre4 L (K + 1))) 22 := l
          replace m : blk w6 (w.heap.size + 1) (qfn (pre4 M (K + 1))) 22 := m
          have h26 := h25.trans h6
          replace hs := hs.below h26 hs0
          replace p := p.below h26 p0
          replace q := q.below h26 q0
          replace hB := hB.trans h6
          go_wp2_with (fail)
          have hK := hK.out
          first
            | (have hz : K = 0 := by omega
               go_roundg 3
               case rel => exact ⟨1, by omega, rfl, hs, p, q, by rw [hz] at l; exact l, by rw [hz] at m; exact m, hB⟩
               case measure => omega)
            | (have hz : K = 1 := by omega
               go_roundg 2
               case rel => exact ⟨2, by omega, rfl, hs, p, q, by rw [hz] at l; exact l, by rw [hz] at m; exact m, hB⟩
               case measure => omega)
            | (have hz : K = 2 := by omega
               go_roundg 1
               case rel => exact ⟨3, by omega, rfl, hs, p, q, by rw [hz] at l; exact l, by rw [hz] at m; exact m, hB⟩
               case measure => omega)
            | (have hz : K = 3 := by omega
               go_roundg 0
               case rel => exact ⟨4, by omega, rfl, hs, p, q, by rw [hz] at l; exact l, by rw [hz] at m; exact m, hB⟩
               case measure => omega)
      · subst hK
        have e4 : qfn (pre4 L 4) = qfn L := qfn_congr fun i hi => by simp [pre4, hi]
        have e5 : qfn (pre4 M 4) = qfn M := qfn_congr fun i hi => by simp [pre4, hi]
        rw [e4] at l
        rw [e5] at m
        go_upto_region 7 with (fail)
        refine wp_region_Y 99 7 rfl (by kernel_rfl) ?_
        replace l := l.drew
        replace m := m.drew
        replace hB : Below w.heap.size w wr.drew := hB.drew
        generalize wr.drew = wo at *
        refine wpY_takeB 0 (.slice (some ⟨w.heap.size, 0, none⟩) 4 4) rfl rfl (by kernel_rfl) (fun w1 => by go_simp; exact ⟨rfl, Below.refl _ _⟩) ?_
        simp only [Act.put, sIT, sCZ, sCS]
        refine wpY_takeB 1 (.slice (some ⟨w.heap.size + 1, 0, none⟩) 4 4) rfl rfl (by kernel_rfl) (fun w1 => by go_simp; exact ⟨rfl, Below.refl _ _⟩) ?_
        simp only [Act.put, sIT, sCZ, sCS]
        refine wpY_takeA 2 (.tuple #[.int .i64 X, .int .i64 0]) rfl rfl (by kernel_rfl) (by kernel_rfl) (fun w1 h1 => ?_) ?_
        · go_simp
          refine (D.out _ _ _ (l.below h1 l.lt) (m.below h1 m.lt)).mono ?_
          rintro e w2 ⟨rfl, h2⟩
          exact ⟨rfl, h2⟩
        simp only [Act.put, sIT, sCZ, sCS]
        refine wpY_takeB 3 (.int .i64 X) rfl rfl (by kernel_rfl) (fun w1 => by go_simp; exact ⟨rfl, Below.refl _ _⟩) ?_
        simp only [Act.put, sIT, sCZ, sCS]
        refine wpY_takeB 4 (.int .i64 0) rfl rfl (by kernel_rfl) (fun w1 => by go_simp; exact ⟨rfl, Below.refl _ _⟩) ?_
        simp only [Act.put, sIT, sCZ, sCS]
        refine wpY_takeB 5 (.int .i64 X) rfl rfl (by kernel_rfl) (fun w1 => by go_simp; exact ⟨rfl, Below.refl _ _⟩) ?_
        simp only [Act.put, sIT, sCZ, sCS]
        refine wpY_takeB 6 (.int .i64 0) rfl rfl (by kernel_rfl) (fun w1 => by go_simp; exact ⟨rfl, Below.refl _ _⟩) ?_
        simp only [Act.put, sIT, sCZ, sCS]
        refine wpY_end (by kernel_rfl) (fun w3 h3 => ?_)
        replace hB := hB.trans (h3.mono hB.size)
        go_wp2_with (fail)
        go_ret2
        exact ⟨rfl, hB⟩
theorem qprC_any (f g : Nat → Int) (s b c : Nat) (w : World) (hf : okQ f = true) (hg : okQ g = true) (hs : blk w s sgnA 38) (p : blk w b (qfn f) 23) (q : blk w c (qfn g) 23) (i : Nat) (hi : i < 4) :
    Calls Try.prog 156 #[.int .i64 i, .pointer (some ⟨s, 0, none⟩), .pointer (some ⟨b, 0, none⟩), .pointer (some ⟨c, 0, none⟩)] w fun e w' => e = .returned (.tuple #[.int .i64 (qprX f g i), .int .i64 0]) ∧ Below w.heap.size w w' := by
  have b1 : ∀ k, k < 4 → IntKind.i64.wrap (1 * f k) = f k := fun k hk => by have := okQ_I hf k hk; rw [IntKind.wrap_i64]; have := this.1; have := (okQ_I hf k hk).2; omega
  have b2 : ∀ k, k < 4 → IntKind.i64.wrap ((-1) * f k) = -f k := fun k hk => by have h := (vb_iff _).1 ((okQ_iff f).1 hf k hk); rw [IntKind.wrap_i64]; omega
  refine qprC_row i _ hi rfl f g (prL f i) (prM g i) sgI s b c w hs p q sgn_get ?_ (fun k hk => rfl) _ (fun x y w h1 h2 => dot4_any _ _ x y w _ (prL_ok hf hi) (prM_ok hg hi) h1 h2)
  have h0 : i = 0 ∨ i = 1 ∨ i = 2 ∨ i = 3 := by omega
  intro k hk
  have h1 : k = 0 ∨ k = 1 ∨ k = 2 ∨ k = 3 := by omega
  rcases h0 with rfl | rfl | rfl | rfl <;> rcases h1 with rfl | rfl | rfl | rfl <;> first | exact b1 _ (by omega) | exact b2 _ (by omega)
end Go.Proofs.Ytkmelddejdikgaa
namespace Go.Proofs.Ytkmelddejdikgaa
open Go.RowKit PM Dt
set_option maxRecDepth 100000 in
set_option maxHeartbeats 2000000 in
theorem quadP_any (x er : Nat → Int) (c1 c2 c3 : Value) (w : World)
    (hf : Hid (∀ i : Nat, i < 4 → ∀ w1, Below w.heap.size w w1 → Calls Try.prog 156 #[.int .i64 i, c1, c2, c3] w1 fun e w' => e = .returned (.tuple #[.int .i64 (x i), .int .i64 (er i)]) ∧ Below w1.heap.size w1 w')) :
    Calls Try.prog 96 #[.func (.func 156) #[] #[c1, c2, c3]] w fun e w' => e = .returned (.agg (qfn x)) ∧ Below w.heap.size w w' := by
  go_enter Try.func96, Try.ntmps96
  go_upto_region 2 with (fail)
  rw [zero_quat]
  have p : blk ((w.alloc (.cells (qfn fun _ => 0) 23)).alloc (.cells (qfn fun _ => 0) 23)) w.heap.size (qfn fun _ => 0) 23 := (blk.new _ _ _).alloc _
  have q : blk ((w.alloc (.cells (qfn fun _ => 0) 23)).alloc (.cells (qfn fun _ => 0) 23)) (w.heap.size + 1) (qfn fun _ => 0) 23 := blk.new' (by simp)
  have hB : Below w.heap.size w ((w.alloc (.cells (qfn fun _ => 0) 23)).alloc (.cells (qfn fun _ => 0) 23)) := by go_grown
  generalize (w.alloc (.cells (qfn fun _ => 0) 23)).alloc (.cells (qfn fun _ => 0) 23) = w0 at *
  go_wp2_with (fail)
  go_loopg [5] 4 (fun g iv wr => ∃ k : Nat, g + k = 4 ∧ iv = .int .i64 k ∧ blk wr w.heap.size (qfn fun _ => 0) 23 ∧ blk wr (w.heap.size + 1) (qfn (pre4 x k)) 23 ∧ Below w.heap.size w wr)
  case atStart => exact ⟨0, rfl, rfl, p, by rw [show qfn (pre4 x 0) = qfn (fun _ => 0) from qfn_congr fun i _ => by simp [pre4]]; exact q, hB⟩
  case round =>
    clear p q hB
    obtain ⟨k, hk, rfl, p, q, hB⟩ := hrel
    by_cases hkn : k < 4
    · have hdk : decide ((k : Int) < 4) = true := decide_eq_true (by omega)
      have hdk' : decide (k < 4) = true := decide_eq_true (by omega)
      have hw3 : IntKind.i64.wrap ((k : Int) + 1) = ((k + 1 : Nat) : Int) := by rw [IntKind.wrap_i64]; omega
      have HC := Lib.hid (hf.out k hkn)
      have hi4 : (k : Int) < 4 := by omega
      go_wp2_with (go_at_call 156; refine (HC.out _ hB).mono ?_; rintro e w1 ⟨rfl, hb⟩; replace hB := hB.trans (hb.mono hB.size); replace p := p.below hb p.lt; replace q := q.below hb q.lt; clear hb; have fz : w1.frozen? ⟨w.heap.size + 1, k, none⟩ = false := q.free _; have cz : w1.cell? ⟨w.heap.size + 1, k, none⟩ = some (.int .i64 (pre4 x k k)) := q.cellIs (qfn_get _ hkn))
      go_roundg (4 - (k + 1))
      case rel =>
        refine ⟨k + 1, by omega, rfl, p.setOther (by simp) _, q.set' (qfn_set hkn ?_ ?_), hB.setCell (by simp) _⟩
        · simp [pre4]
        · intro j hj hne; simp only [pre4]; split <;> split <;> first | rfl | omega
      case measure => omega
    · obtain rfl : k = 4 := by omega
      have e4 : qfn (pre4 x 4) = qfn x := qfn_congr fun i hi => by simp [pre4, hi]
      rw [e4] at q
      go_wp2_with (first | (refine wpList_load_rowG ?hw _ _ rfl _ rfl _ _ _ _ q Try.underlying23 rfl ?hi ?_; (case hw => (first | rfl | (simp [Region.wanted, yielded]; done))); (case hi => (rw [qfn_size]; kernel_rfl))) | (refine wpList_store_row rfl _ _ _ rfl _ rfl _ rfl _ _ p (by rw [qfn_size]; kernel_rfl) (by simp only [qfn_size]) (qfn_one _) ?_))
      refine bodyPost_ret (results_cell_row rfl _ _ _ _ _ _ _ rfl (p.row (qfn x)) Try.underlying23 rfl (by rw [qfn_size]; kernel_rfl)) rfl ?_; refine ⟨?_, Below.setRow hB (by omega) _⟩
      rfl
def qprodF (f g : Nat → Int) : Nat → Int := if okQ f && okQ g then qprX f g else fun _ => 0
def qprodE (f g : Nat → Int) : Int := if okQ f && okQ g then 0 else 2
set_option maxRecDepth 100000 in
set_option maxHeartbeats 4000000 in
theorem qprod_any (f g : Nat → Int) (w : World) : Calls Try.prog 95 #[.agg (qfn f), .agg (qfn g)] w fun e w' => e = .returned (.tuple #[.agg (qfn (qprodF f g)), .int .i64 (qprodE f g)]) ∧ Below w.heap.size w w' := by
  have V1 := Lib.hid (fun w => bounded_any f w)
  have V2 := Lib.hid (fun w => bounded_any g w)
  unfold qprodF qprodE
  obtain ⟨bf, hf⟩ : ∃ b, okQ f = b := ⟨_, rfl⟩
  obtain ⟨bg, hg⟩ : ∃ b, okQ g = b := ⟨_, rfl⟩
  rw [hf] at V1 ⊢
  rw [hg] at V2 ⊢
  have HF := Lib.hid hf
  have HG := Lib.hid hg
  obtain ⟨X, hX⟩ : ∃ X, X = qprX f g := ⟨_, rfl⟩
  rw [← hX]
  have HX0 := Lib.hid hX
  clear hf hg hX
  go_enter Try.func95, Try.ntmps95
  go_upto_region 1 with (fail)
  rw [zero_quat]
  have p : blk (((w.alloc (.cells (qfn f) 23)).alloc (.cells (qfn g) 23)).alloc (.cells (qfn fun _ => 0) 23)) w.heap.size (qfn f) 23 := ((blk.new _ _ _).alloc _).alloc _
  have q : blk (((w.alloc (.cells (qfn f) 23)).alloc (.cells (qfn g) 23)).alloc (.cells (qfn fun _ => 0) 23)) (w.heap.size + 1) (qfn g) 23 := (blk.new' (by simp)).alloc _
  have r : blk (((w.alloc (.cells (qfn f) 23)).alloc (.cells (qfn g) 23)).alloc (.cells (qfn fun _ => 0) 23)) (w.heap.size + 1 + 1) (qfn fun _ => 0) 23 := blk.new' (by simp)
  have hB : Below w.heap.size w (((w.alloc (.cells (qfn f) 23)).alloc (.cells (qfn g) 23)).alloc (.cells (qfn fun _ => 0) 23)) := by go_grown
  generalize ((w.alloc (.cells (qfn f) 23)).alloc (.cells (qfn g) 23)).alloc (.cells (qfn fun _ => 0) 23) = w0 at *
  cases bf
  · go_wp2_with (first
      | (refine wpList_load_rowG ?hw _ _ rfl _ rfl _ _ _ _ p Try.underlying23 rfl ?hi ?_; (case hw => (first | rfl | (simp [Region.wanted, yielded]; done))); (case hi => (rw [qfn_size]; kernel_rfl)))
      | (refine wpList_load_rowG ?hw _ _ rfl _ rfl _ _ _ _ q Try.underlying23 rfl ?hi ?_; (case hw => (first | rfl | (simp [Region.wanted, yielded]; done))); (case hi => (rw [qfn_size]; kernel_rfl)))
      | (go_at_call 124; with_reducible refine (V1.out _).mono ?_; rintro e w1 ⟨rfl, hb⟩; replace hB := hB.trans (hb.mono hB.size); replace p := p.below hb p.lt; replace q := q.below hb q.lt; replace r := r.below hb r.lt; clear hb)
      | (go_at_call 124; with_reducible refine (V2.out _).mono ?_; rintro e w1 ⟨rfl, hb⟩; replace hB := hB.trans (hb.mono hB.size); replace p := p.below hb p.lt; replace q := q.below hb q.lt; replace r := r.below hb r.lt; clear hb)
      | (rw [zero_quat]; refine wpList_store_row rfl _ _ _ rfl _ rfl _ rfl _ _ r (by rw [qfn_size]; kernel_rfl) (by simp only [qfn_size]) (qfn_one _) ?_))
    refine bodyPost_ret (results_vec rfl _ _ _ _ _ _ _ rfl (r.row (qfn (fun _ => 0))) Try.underlying23 rfl (by rw [qfn_size]; kernel_rfl)) rfl ?_; refine ⟨?_, Below.setRow hB (by omega) _⟩
    rfl
  cases bg
  · go_wp2_with (first
      | (refine wpList_load_rowG ?hw _ _ rfl _ rfl _ _ _ _ p Try.underlying23 rfl ?hi ?_; (case hw => (first | rfl | (simp [Region.wanted, yielded]; done))); (case hi => (rw [qfn_size]; kernel_rfl)))
      | (refine wpList_load_rowG ?hw _ _ rfl _ rfl _ _ _ _ q Try.underlying23 rfl ?hi ?_; (case hw => (first | rfl | (simp [Region.wanted, yielded]; done))); (case hi => (rw [qfn_size]; kernel_rfl)))
      | (go_at_call 124; with_reducible refine (V1.out _).mono ?_; rintro e w1 ⟨rfl, hb⟩; replace hB := hB.trans (hb.mono hB.size); replace p := p.below hb p.lt; replace q := q.below hb q.lt; replace r := r.below hb r.lt; clear hb)
      | (go_at_call 124; with_reducible refine (V2.out _).mono ?_; rintro e w1 ⟨rfl, hb⟩; replace hB := hB.trans (hb.mono hB.size); replace p := p.below hb p.lt; replace q := q.below hb q.lt; replace r := r.below hb r.lt; clear hb)
      | (rw [zero_quat]; refine wpList_store_row rfl _ _ _ rfl _ rfl _ rfl _ _ r (by rw [qfn_size]; kernel_rfl) (by simp only [qfn_size]) (qfn_one _) ?_))
    refine bodyPost_ret (results_vec rfl _ _ _ _ _ _ _ rfl (r.row (qfn (fun _ => 0))) Try.underlying23 rfl (by rw [qfn_size]; kernel_rfl)) rfl ?_; refine ⟨?_, Below.setRow hB (by omega) _⟩
    rfl
  have HP := Lib.hid (fun s b c w hs p q i hi => qprC_any f g s b c w HF.out HG.out hs p q i hi)
  rw [← HX0.out] at HP
  go_upto_region 4 with (first
      | (refine wpList_load_rowG ?hw _ _ rfl _ rfl _ _ _ _ p Try.underlying23 rfl ?hi ?_; (case hw => (first | rfl | (simp [Region.wanted, yielded]; done))); (case hi => (rw [qfn_size]; kernel_rfl)))
      | (refine wpList_load_rowG ?hw _ _ rfl _ rfl _ _ _ _ q Try.underlying23 rfl ?hi ?_; (case hw => (first | rfl | (simp [Region.wanted, yielded]; done))); (case hi => (rw [qfn_size]; kernel_rfl)))
      | (go_at_call 124; with_reducible refine (V1.out _).mono ?_; rintro e w1 ⟨rfl, hb⟩; replace hB := hB.trans (hb.mono hB.size); replace p := p.below hb p.lt; replace q := q.below hb q.lt; replace r := r.below hb r.lt; clear hb)
      | (go_at_call 124; with_reducible refine (V2.out _).mono ?_; rintro e w1 ⟨rfl, hb⟩; replace hB := hB.trans (hb.mono hB.size); replace p := p.below hb p.lt; replace q := q.below hb q.lt; replace r := r.below hb r.lt; clear hb)
      | (refine wpList_store_row rfl _ _ _ rfl _ rfl sgnA (by rw [sgnA_lit]; rfl) _ _ (blk.new _ _ _) (by rw [sgnA_size]; kernel_rfl) (by rw [sgnA_size]; rfl) sgnA_one ?_))
  have s := (blk.new w1 #[.int .i64 0, .int .i64 0, .int .i64 0, .int .i64 0, .int .i64 0, .int .i64 0, .int .i64 0, .int .i64 0, .int .i64 0, .int .i64 0, .int .i64 0, .int .i64 0, .int .i64 0, .int .i64 0, .int .i64 0, .int .i64 0] 38).row sgnA
  have hne : ∀ x, x < w1.heap.size → x ≠ w1.heap.size := fun x hx => Nat.ne_of_lt hx
  replace p := (p.alloc (.cells #[.int .i64 0, .int .i64 0, .int .i64 0, .int .i64 0, .int .i64 0, .int .i64 0, .int .i64 0, .int .i64 0, .int .i64 0, .int .i64 0, .int .i64 0, .int .i64 0, .int .i64 0, .int .i64 0, .int .i64 0, .int .i64 0] 38)).rowOther (hne _ p.lt) sgnA
  replace q := (q.alloc (.cells #[.int .i64 0, .int .i64 0, .int .i64 0, .int .i64 0, .int .i64 0, .int .i64 0, .int .i64 0, .int .i64 0, .int .i64 0, .int .i64 0, .int .i64 0, .int .i64 0, .int .i64 0, .int .i64 0, .int .i64 0, .int .i64 0] 38)).rowOther (hne _ q.lt) sgnA
  replace r := (r.alloc (.cells #[.int .i64 0, .int .i64 0, .int .i64 0, .int .i64 0, .int .i64 0, .int .i64 0, .int .i64 0, .int .i64 0, .int .i64 0, .int .i64 0, .int .i64 0, .int .i64 0, .int .i64 0, .int .i64 0, .int .i64 0, .int .i64 0] 38)).rowOther (hne _ r.lt) sgnA
  replace hB := Below.setRow (hB.alloc hB.size (.cells #[.int .i64 0, .int .i64 0, .int .i64 0, .int .i64 0, .int .i64 0, .int .i64 0, .int .i64 0, .int .i64 0, .int .i64 0, .int .i64 0, .int .i64 0, .int .i64 0, .int .i64 0, .int .i64 0, .int .i64 0, .int .i64 0] 38)) (g := w1.heap.size) hB.size sgnA
  clear hne
  generalize (w1.alloc (.cells #[.int .i64 0, .int .i64 0, .int .i64 0, .int .i64 0, .int .i64 0, .int .i64 0, .int .i64 0, .int .i64 0, .int .i64 0, .int .i64 0, .int .i64 0, .int .i64 0, .int .i64 0, .int .i64 0, .int .i64 0, .int .i64 0] 38)).setRow w1.heap.size sgnA = w2 at *
  generalize w1.heap.size = sb at *
  go_wp2_with (first
      | (go_at_call 96; refine (quadP_any X (fun _ => 0) _ _ _ _ (fun i hi wx hx => HP.out _ _ _ _ (s.below hx s.lt) (p.below hx p.lt) (q.below hx q.lt) i hi)).mono ?_; rintro e w3 ⟨rfl, hb⟩; replace hB := hB.trans (hb.mono hB.size); replace r := r.below hb r.lt; clear hb)
      | (refine wpList_store_row rfl _ _ _ rfl _ rfl _ rfl _ _ r (by rw [qfn_size]; kernel_rfl) (by simp only [qfn_size]) (qfn_one _) ?_))
  refine bodyPost_ret (results_vec rfl _ _ _ _ _ _ _ rfl (r.row (qfn X)) Try.underlying23 rfl (by rw [qfn_size]; kernel_rfl)) rfl ?_; refine ⟨?_, Below.setRow hB (by omega) _⟩
  rfl
end Go.Proofs.Ytkmelddejdikgaa
