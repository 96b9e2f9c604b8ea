/-
  The bounds of what the statements compare: the rotation that is left, and the residual. StarsExact and StarsExchanged, plainly. Chapter 20: StarsExchanged.
-/
import Derived.Test.YtkmelddejdikgaaLaK
import Derived.Test.YtkmelddejdikgaaBet
import Derived.Test.YtkmelddejdikgaaSkN
set_option linter.unusedSimpArgs false
set_option linter.unusedVariables false
namespace Go.Proofs.Ytkmelddejdikgaa.La
open Go.RowKit PM Dt
theorem comp4 {p : Nat → Int} (h : nn p < 1073741826 * 1073741826) {i : Nat} (hi : i < 4) : -1073741826 ≤ p i ∧ p i ≤ 1073741826 := nn_comp (x := p) (X := 1073741826) (by omega) (by omega) hi
theorem wneg {x : Int} (h : -1073741826 ≤ x ∧ x ≤ 1073741826) : wrap64 (-x) = -x := by unfold wrap64; omega
theorem conj_val {p : Nat → Int} (h : nn p < 1073741826 * 1073741826) : ∀ i, i < 4 → conjF p i = cj p i := fun i hi => by
  have c1 := wneg (comp4 h (i := 1) (by omega))
  have c2 := wneg (comp4 h (i := 2) (by omega))
  have c3 := wneg (comp4 h (i := 3) (by omega))
  have a0 : conjF p 0 = p 0 := rfl
  have a1 : conjF p 1 = wrap64 (-p 1) := rfl
  have a2 : conjF p 2 = wrap64 (-p 2) := rfl
  have a3 : conjF p 3 = wrap64 (-p 3) := rfl
  have b0 : cj p 0 = p 0 := rfl
  have b1 : cj p 1 = -p 1 := rfl
  have b2 : cj p 2 = -p 2 := rfl
  have b3 : cj p 3 = -p 3 := rfl
  rcases (show i = 0 ∨ i = 1 ∨ i = 2 ∨ i = 3 by omega) with rfl | rfl | rfl | rfl
  · rw [a0, b0]
  · rw [a1, b1, c1]
  · rw [a2, b2, c2]
  · rw [a3, b3, c3]
theorem nn_ext {p q : Nat → Int} (h : ∀ i, i < 4 → p i = q i) : nn p = nn q := by
  unfold nn; rw [h 0 (by omega), h 1 (by omega), h 2 (by omega), h 3 (by omega)]
theorem pe_ext {p q u : Nat → Int} (h : ∀ i, i < 4 → p i = q i) (i : Nat) (hi : i < 4) : pe p u i = pe q u i := by
  rcases (show i = 0 ∨ i = 1 ∨ i = 2 ∨ i = 3 by omega) with rfl | rfl | rfl | rfl <;> simp only [pe, h 0 (by omega), h 1 (by omega), h 2 (by omega), h 3 (by omega)]
theorem okQ_nn {p : Nat → Int} (h : nn p < 1073741826 * 1073741826) : okQ p = true := (okQ_iff _).2 fun i hi => (vb_iff _).2 (by have := nn_comp (x := p) (X := 1073741826) (by omega) (by omega) hi; omega)
theorem valid_nn' {p : Nat → Int} (h1 : 1073741822 * 1073741822 ≤ nn p) (h2 : nn p < 1073741826 * 1073741826) : validQ p = true := valid_of (okQ_nn h2) (by omega) (by omega)
theorem small_norm {v : Nat → Int} {c : Int} (hc : 0 ≤ c) (hc2 : c ≤ 1000000) (h : NB 3 v c) : normE v = 0 ∧ normV v ≤ c ∧ 0 ≤ normV v := by
  have kv : okV v = true := (okV_iff _).2 fun i hi => (vb_iff _).2 (by have := h.at hi; omega)
  obtain ⟨hE, N, hN, h1, _, _⟩ := norm_val kv
  have h2 := nb3' h
  have : (N : Int) ≤ c := le_of_sq hc (by unfold d3e at h2; omega)
  exact ⟨hE, by omega, by omega⟩
/-- The rotation that is left is small. -/
theorem fit_ang {p u : Nat → Int} (p1 : 1073741822 * 1073741822 ≤ nn p) (p2 : nn p < 1073741826 * 1073741826) (u1 : 1073741822 * 1073741822 ≤ nn u) (u2 : nn u < 1073741826 * 1073741826)
    (h : NB 3 (fun j => pe (cj p) u (j + 1)) 2006823469056) : betE p u = 0 ∧ NB 3 (fun j => betF p u (j + 1)) 1871 := by
  have vp := valid_nn' p1 p2
  have vu := valid_nn' u1 u2
  have e1 : betE p u = 0 := by unfold betE; rw [vp, vu]; rfl
  have hc := conj_val p2
  have kc : okQ (conjF p) = true := okQ_nn (by rw [nn_ext hc, nn_cj]; exact p2)
  have q : NB 3 (fun j => qprodF (conjF p) u (j + 1)) 1871 := by
    obtain ⟨e, he⟩ : ∃ e : Nat → Int, ∀ i, i < 4 → 1073741824 * qprodF (conjF p) u i = pe (conjF p) u i + e i ∧ -536870912 ≤ e i ∧ e i ≤ 536870912 := by
      have key : ∀ i, ∃ x, i < 4 → 1073741824 * qprodF (conjF p) u i = pe (conjF p) u i + x ∧ -536870912 ≤ x ∧ x ≤ 536870912 := fun i => by
        by_cases hi : i < 4
        · obtain ⟨x, hx⟩ := prod_err kc (okQ_nn u2) hi; exact ⟨x, fun _ => hx⟩
        · exact ⟨0, fun h => absurd h hi⟩
      exact Classical.skolem.1 key
    have q2 : NB 3 (fun j => e (j + 1)) 929887698 := NB.of (fun i hi => (he (i + 1) (by omega)).2) (by omega) (by omega)
    refine NB.cancel (c := 1073741824) (by omega) (((h.add q2).congr fun j hj => ?_).mono (by omega))
    rw [(he (j + 1) (by omega)).1, pe_ext hc (j + 1) (by omega)]
  refine ⟨e1, ?_⟩
  unfold betF betX
  rw [vp, vu]
  simp only [Bool.and_self, if_true]
  split
  · exact q.neg
  · exact q
theorem ang_pe' {p u : Nat → Int} {c : Int} (h : NB 3 (fun j => dt p (En (cj u) (j + 1))) c) : NB 3 (fun j => pe (cj (cj p)) u (j + 1)) c := by
  refine ⟨h.1, Int.le_trans (Int.le_of_eq ?_) h.2⟩
  simp only [sm, dt, En, pe, cj, Nat.reduceAdd]
  grind
/-- The vector, turned, without rounding. -/
def qv (x b : Nat → Int) : Nat → Int := Go.Proofs.Ytkmelddejdikgaa.ap (qent x) b
end Go.Proofs.Ytkmelddejdikgaa.La
namespace Go.Proofs.Ytkmelddejdikgaa.La
open Go.RowKit PM Dt
/-- What 'fits' says. -/
def fitsB (f g : Nat → Int) : Bool := (betE f g == 0) && ((normE (fun j => betF f g (j + 1)) == 0) && decide (normV (fun j => betF f g (j + 1)) ≤ 4096))
theorem fitsB_of {f g : Nat → Int} (h1 : betE f g = 0) (h2 : NB 3 (fun j => betF f g (j + 1)) 1871) : fitsB f g = true := by
  obtain ⟨a, b, c⟩ := small_norm (by omega) (by omega) h2
  unfold fitsB
  rw [h1, a, decide_eq_true (by omega)]; rfl
theorem vun_star {f : Nat → Int} (h : vunE f = 0) : Star (vunF f) ∧ okV (vunF f) = true ∧ (normV (vunF f) = 1073741824 ∨ normV (vunF f) = 1073741823) := by
  have hk : okV f = true ∧ zV f = false := by
    unfold vunE at h
    cases h1 : okV f <;> cases h2 : zV f <;> simp_all
  obtain ⟨a, _, b⟩ := vun_norm hk.1 hk.2
  exact ⟨star_of a b, a, b⟩
def exA (L : Nat → Nat → Int) : Nat → Nat → Int := fun s => vunF (L s)
def exB (q : Nat → Int) (L : Nat → Nat → Int) : Nat → Nat → Int := fun s => qbackF (qunF q) (vunF (L s))
theorem ex_facts {q : Nat → Int} {L : Nat → Nat → Int} {n : Nat} (hok : okQ q = true) (hz : zQ q = false) (hE : ∀ s, s < n → vunE (L s) = 0 ∧ qbackE (qunF q) (vunF (L s)) = 0) :
    1073741822 * 1073741822 ≤ nn (qunF q) ∧ nn (qunF q) < 1073741826 * 1073741826 ∧ (∀ s, s < n → Star (exA L s)) ∧ (∀ s, s < n → Seen (qunF q) (exA L s) (exB q L s)) := by
  obtain ⟨_, h1, _, h2, h3⟩ := qun_core hok hz
  have vu := valid_nn' h2 h3
  refine ⟨h2, h3, fun s hs => (vun_star (hE s hs).1).1, fun s hs => ?_⟩
  obtain ⟨_, a, b⟩ := vun_star (hE s hs).1
  exact (seen_of vu h2 h3 a b).2
theorem slv_val {S : Nat → Sgt} {n : Nat} (hv : valS S n = true) (hs : 536870912 ≤ sprI S n n) : slvV S n = solF (itrF (hlfF (matF S n)) 12) ∧ slvE S n = 0 := by
  unfold slvV slvE slvOk
  rw [hv, decide_eq_true hs, if_pos rfl, if_pos hs]
  exact ⟨rfl, rfl⟩
theorem okQ_64 {p : Nat → Int} (h : okQ p = true) : ∀ i, i < 4 → I64 (p i) := fun i hi => by have := okQ_bd h hi; exact ⟨by omega, by omega⟩
/-- The sights, exchanged. -/
def exT (q : Nat → Int) (L : Nat → Nat → Int) : Nat → Sgt := fun s => ⟨qbackF (qunF q) (vunF (L s)), vunF (L s), 1⟩
theorem exT_eq (q : Nat → Int) (L : Nat → Nat → Int) : exT q L = sgS (exB q L) (exA L) := rfl
theorem mx_l (x y : Int) : x ≤ mx x y ∧ y ≤ mx x y := by unfold mx; split <;> omega
theorem sprK_ge (S : Nat → Sgt) (i : Nat) (acc : Int) : ∀ k, acc ≤ sprK S i acc k ∧ ∀ t, t < k → t ≠ i → normV (vcrossF (S i).a (S t).a) ≤ sprK S i acc k
  | 0 => ⟨Int.le_refl _, fun t ht => by omega⟩
  | k + 1 => by
    obtain ⟨h1, h2⟩ := sprK_ge S i acc k
    unfold sprK
    split
    · rename_i e
      exact ⟨h1, fun t ht hne => h2 t (by omega) hne⟩
    · have := mx_l (sprK S i acc k) (normV (vcrossF (S i).a (S k).a))
      refine ⟨by omega, fun t ht hne => ?_⟩
      by_cases e : t = k
      · subst e; exact this.2
      · have := h2 t (by omega) hne; omega
theorem sprI_ge (S : Nat → Sgt) (n : Nat) : ∀ i, 0 ≤ sprI S n i ∧ ∀ s t, s < i → t < n → t ≠ s → normV (vcrossF (S s).a (S t).a) ≤ sprI S n i
  | 0 => ⟨Int.le_refl _, fun s t hs => by omega⟩
  | i + 1 => by
    obtain ⟨h1, h2⟩ := sprI_ge S n i
    have k := sprK_ge S i (sprI S n i) n
    unfold sprI
    refine ⟨by omega, fun s t hs ht hne => ?_⟩
    by_cases e : s = i
    · subst e; exact k.2 t ht hne
    · have := h2 s t (by omega) ht hne; omega
/-- How far apart the stars are, as they are seen, more nearly. -/
theorem seen_dot2 {u a a' b b' : Nat → Int} (lo : 1073741822 * 1073741822 ≤ dt u u) (hi : dt u u < 1073741826 * 1073741826) (sa : Star a) (sa' : Star a') (h : Seen u a b) (h' : Seen u a' b') (hp : -998459314658532848 ≤ d3e a a' ∧ d3e a a' ≤ 998459314658532848) : -998459327212016830 ≤ d3e b b' ∧ d3e b b' ≤ 998459327212016830 := by
  obtain ⟨e, e1, e2⟩ := h.e
  obtain ⟨e', f1, f2⟩ := h'.e
  have g := gv_nb (u := u) (a := a) (A := 1073741825) (by omega) (by omega) sa.a2
  have g' := gv_nb (u := u) (a := a') (A := 1073741825) (by omega) (by omega) sa'.a2
  have d1 := dot_le g f2
  have d2 := dot_le e2 g'
  have d3 := dot_le e2 f2
  rw [sm3] at d1 d2 d3
  have key : 1152921504606846976 * 1152921504606846976 * d3e b b' = dt u u * dt u u * d3e a a' + (gv u a 0 * e' 0 + gv u a 1 * e' 1 + gv u a 2 * e' 2) + (e 0 * gv u a' 0 + e 1 * gv u a' 1 + e 2 * gv u a' 2) + (e 0 * e' 0 + e 1 * e' 1 + e 2 * e' 2) := by
    rw [← gv_dot]
    have x0 := e1 0 (by omega); have x1 := e1 1 (by omega); have x2 := e1 2 (by omega)
    have y0 := f1 0 (by omega); have y1 := f1 1 (by omega); have y2 := f1 2 (by omega)
    have z : 1152921504606846976 * 1152921504606846976 * d3e b b' = (1152921504606846976 * b 0) * (1152921504606846976 * b' 0) + (1152921504606846976 * b 1) * (1152921504606846976 * b' 1) + (1152921504606846976 * b 2) * (1152921504606846976 * b' 2) := by unfold d3e; grind
    rw [z, x0, x1, x2, y0, y1, y2]; unfold d3e; grind
  have hNN : dt u u * dt u u ≤ 1073741826 * 1073741826 * (1073741826 * 1073741826) := mulm (by omega) (by omega) (by omega) (by omega)
  have hN0 : 0 ≤ dt u u * dt u u := sqn _
  generalize dt u u * dt u u = M at *
  have k1 : M * d3e a a' ≤ M * 998459314658532848 := Int.mul_le_mul_of_nonneg_left hp.2 hN0
  have k2 : M * -998459314658532848 ≤ M * d3e a a' := Int.mul_le_mul_of_nonneg_left hp.1 hN0
  generalize dt u u = N at *
  omega
theorem cross_ge {b b' : Nat → Int} (h : dirB b = true) (h' : dirB b' = true) (b1 : 1073741816 * 1073741816 ≤ d3e b b) (b1' : 1073741816 * 1073741816 ≤ d3e b' b') (hp : -998459327212016830 ≤ d3e b b' ∧ d3e b b' ≤ 998459327212016830) : 536870848 ≤ normV (vcrossF b b') := by
  obtain ⟨kv, hc⟩ := cr_er h h'
  obtain ⟨_, N, hN, _, h2, _⟩ := norm_val kv
  rw [hN]
  apply Int.not_lt.1; intro hlt
  have k1 : (N : Int) + 1 ≤ 536870848 := by omega
  have k2 := mulm (by omega) k1 (by omega) k1
  obtain ⟨e, he⟩ : ∃ e : Nat → Int, ∀ i, i < 3 → 1073741824 * vcrossF b b' i = crE b b' i + e i ∧ -536870912 ≤ e i ∧ e i ≤ 536870912 := by
    have key : ∀ i, ∃ x, i < 3 → 1073741824 * vcrossF b b' i = crE b b' i + x ∧ -536870912 ≤ x ∧ x ≤ 536870912 := fun i => by
      by_cases hi : i < 3
      · obtain ⟨x, hx⟩ := hc i hi; exact ⟨x, fun _ => hx⟩
      · exact ⟨0, fun h => absurd h hi⟩
    exact Classical.skolem.1 key
  have q2 : NB 3 e 929887698 := NB.of (fun i hi => (he i hi).2) (by omega) (by omega)
  have q1 : NB 3 (vcrossF b b') 536870848 := nb3 _ (by omega) (by unfold d3e; omega)
  have q3 := nb3' (((q1.mul (c := 1073741824) (by omega)).add q2.neg).congr (w := crE b b') fun i hi => by have := (he i hi).1; omega)
  rw [crE_sq] at q3
  have m1 := mulm (by omega) b1 (by omega) b1'
  have m2 := sq_le hp.1 hp.2
  omega
/-- StarsExchanged, plainly. -/
theorem other_all {q : Nat → Int} {L : Nat → Nat → Int} {n : Nat} (hok : okQ q = true) (hz : zQ q = false) (hn2 : 2 ≤ n) (hn4 : n ≤ 4) (hE : ∀ s, s < n → vunE (L s) = 0 ∧ qbackE (qunF q) (vunF (L s)) = 0) (hv : valS (exS q L) n = true) (hs : 536870912 ≤ sprI (exS q L) n n) :
    valS (exT q L) n = true ∧ 536870848 ≤ sprI (exT q L) n n ∧ (536870912 ≤ sprI (exT q L) n n → slvE (exT q L) n = 0 ∧ fitsB (conjF (slvV (exT q L) n)) (qunF q) = true ∧ (∀ i, i < 4 → I64 (slvV (exT q L) n i)) ∧ ∀ i, i < 4 → I64 (conjF (slvV (exT q L) n) i)) := by
  obtain ⟨u1, u2, ha, hb⟩ := ex_facts hok hz hE
  have hvT : valS (exT q L) n = true := valS_iff.2 ⟨by omega, by omega, fun s hs' => by
    show sgOk ⟨exB q L s, exA L s, 1⟩ = true
    unfold sgOk; rw [(ha s hs').da, (hb s hs').db]; rfl⟩
  refine ⟨hvT, ?_, fun hT => ?_⟩
  · obtain ⟨i, k, hi', hk', hne, hc⟩ := sprI_le _ _ (by omega) n hs
    have hd := cross_dot (ha i hi') (ha k hk') hc
    rw [nn_dt] at u1 u2
    have hd2 := seen_dot2 u1 u2 (ha i hi') (ha k hk') (hb i hi') (hb k hk') hd
    have := cross_ge (hb i hi').db (hb k hk').db (hb i hi').b1 (hb k hk').b1 hd2
    exact Int.le_trans this ((sprI_ge (exT q L) n n).2 i k hi' hk' hne)
  · obtain ⟨e1, e2⟩ := slv_val hvT hT
    have w1 : 1073741822 * 1073741822 ≤ nn (cj (qunF q)) := by rw [nn_cj]; exact u1
    have w2 : nn (cj (qunF q)) < 1073741826 * 1073741826 := by rw [nn_cj]; exact u2
    obtain ⟨p1, p2, p3, p4⟩ := sol_ang w1 w2 (other_st hn2 hn4 u1 u2 ha hb hs)
    rw [← exT_eq] at p1 p2 p3 p4
    rw [← e1] at p1 p2 p3 p4
    generalize slvV (exT q L) n = p at *
    have hc := conj_val p3
    have c1 : nn (conjF p) = nn p := by rw [nn_ext hc, nn_cj]
    obtain ⟨f1, f2⟩ := fit_ang (p := conjF p) (by rw [c1]; exact p2) (by rw [c1]; exact p3) u1 u2 ((ang_pe' p4).congr fun j hj => by
      refine pe_ext (fun i hi => ?_) (j + 1) (by omega)
      have h0 := hc 0 (by omega); have h1 := hc 1 (by omega); have h2 := hc 2 (by omega); have h3 := hc 3 (by omega)
      rcases (show i = 0 ∨ i = 1 ∨ i = 2 ∨ i = 3 by omega) with rfl | rfl | rfl | rfl <;> simp only [cj] at h0 h1 h2 h3 ⊢ <;> omega)
    exact ⟨e2, fitsB_of f1 f2, okQ_64 p1, okQ_64 (okQ_nn (by rw [c1]; exact p3))⟩
end Go.Proofs.Ytkmelddejdikgaa.La
namespace Go.Proofs.Ytkmelddejdikgaa
open Go.RowKit PM Dt
theorem cells_blk {w : World} {b : Nat} {cs : Array Value} {t : TypeId} (r : blk w b cs t) : ∀ j u, cs.toList[j]? = some u → w.cell? ((⟨b, 0, none⟩ : Addr).add j) = some u := fun j u hj => by
  have h := r.cellIs (i := j) (v := u) (by simpa using hj)
  have hadd : (⟨b, 0, none⟩ : Addr).add j = ⟨b, j, none⟩ := by unfold Addr.add; split <;> simp_all
  rw [hadd]; exact h
theorem vfn_lit (f : Nat → Int) : vfn f = #[.int .i64 (f 0), .int .i64 (f 1), .int .i64 (f 2)] := by unfold vfn; rfl
theorem el_grown {w w' : World} {nb n sz : Nat} {C : Nat → List Value} {row : Option Nat} (h : ElemsA w (some ⟨nb, 0, none⟩) n sz C) (hg : w.grownBy w' row) (hne : ∀ k, row = some k → k ≠ nb) : ElemsA w' (some ⟨nb, 0, none⟩) n sz C := fun k hk => by
  obtain ⟨b1, o1, h1, h2, h3⟩ := h k hk
  obtain ⟨rfl, rfl⟩ : nb = b1 ∧ 0 = o1 := by simpa using h1
  refine ⟨nb, 0, rfl, Nat.lt_of_lt_of_le h2 hg.size, fun j u hj => ?_⟩
  rw [World.cell?_of_block (w := w) (hg.block nb h2 (fun e => hne nb e.symm rfl))]
  exact h3 j u hj
theorem detR_range {P : Program} {op : Oper} {a : Act} {w : World} (ty : TypeId) (x : Operand) (ho : op.op = .load ty x) (b o : Nat) (hx : a.eval x = .pointer (some ⟨b, o, none⟩))
    (C : List Value) (oo j0 : Nat) (hr : w.rangeAt b oo C) (hoo : o = oo + j0) (cs : Array Value) (hc : ∀ j, j < cs.size → C[j0 + j]? = cs[j]?) (d : TypeDesc)
    (hu : P.underlying ty = some d) (hd : d.isRow = true) (hi : (P.info? ty).map (·.size) = some cs.size) {v : Value} (hv : v = .agg cs) : DetR P (More w) v ((execOp a.eval op).run P w) := by
  have h := valR_range ty x ho b o hx C oo j0 hr hoo cs hc d hu hd hi hv
  revert h
  generalize (execOp a.eval op).run P w = r
  intro h
  match r, h with
  | .ok (.value u) w', h => exact ⟨h.1, by rw [h.2]; exact Below.refl _ _⟩
set_option maxRecDepth 100000 in
set_option maxHeartbeats 20000000 in
theorem starsexch_any (q : Nat → Int) (L : Nat → Nat → Int) (a : Option Addr) (n c : Nat) (w : World) (el : ElemsA w a n 3 (fun k => (vfn (L k)).toList)) (hq : ∀ i, i < 4 → I64 (q i)) (hL : ∀ k, k < n → ∀ i, i < 3 → I64 (L k i)) (hnn : n ≤ maxLen) : Calls Try.prog 5 #[.agg (qfn q), .slice a n c] w fun e w' => e = .returned (.bool true) ∧ Below w.heap.size w w' := by
  obtain ⟨i0, hi, hz0, hz1, hz2⟩ := info_parts (P := Try.prog) (e := 36) (by kernel_rfl : (Try.prog.info? 36).map (fun i => (i.zero, i.size, i.bytes)) = some (some (.agg #[.int .i64 0, .int .i64 0, .int .i64 0, .int .i64 0, .int .i64 0, .int .i64 0, .int .i64 0]), 7, 56))
  have AW := Lib.hid (fun w => awake20_any w)
  have EX := Lib.hid (fun w el => sexact_any q L a n c w el hq hL hnn)
  replace el := Lib.hid el
  clear hq hL
  go_enter Try.func5, Try.ntmps5
  go_upto_region 1 with (fail)
  have qb : blk (w.alloc (.cells (qfn q) 23)) w.heap.size (qfn q) 23 := blk.new _ _ _
  have hB : Below w.heap.size w (w.alloc (.cells (qfn q) 23)) := by go_grown
  generalize (w.alloc (.cells (qfn q) 23)) = w0 at *
  go_upto_region 2 with (first | (refine wpList_load_rowG ?hw _ _ rfl _ rfl _ _ _ _ qb Try.underlying23 rfl ?hi ?_; (case hw => (first | rfl | (simp [Region.wanted, yielded]; done))); (case hi => (first | kernel_rfl | (rw [qfn_size]; kernel_rfl)))) | (go_at_call 18; refine (EX.out _ (el.out.below hB)).mono ?_; rintro e w1 hP; obtain ⟨U, sl, BX, rfl, hb, hf⟩ := hP; replace hB := hB.trans (hb.mono hB.size); replace qb := qb.below hb qb.lt; replace hf := Lib.hid hf; clear hb) | (rw [zero_quat]; refine wpList_store_row rfl _ _ _ rfl _ rfl _ rfl _ _ (blk.new _ _ _) (by first | kernel_rfl | (rw [qfn_size]; kernel_rfl)) (by first | rfl | simp only [qfn_size]) (by first | exact qfn_one _ | rfl) ?_))
  clear EX el
  cases BX
  case false =>
    clear hf qb
    replace hB : Below w.heap.size w ((w1.alloc (.cells (qfn fun _ => 0) 23)).setRow w1.heap.size (qfn U)) := Below.setRow (hB.alloc hB.size _) hB.size _
    go_wp2_with (first
      | (go_at_call 11; with_reducible refine (AW.out _).mono ?_; rintro e w2 ⟨rfl, hb⟩; replace hB := hB.trans (hb.mono hB.size); clear hb))
    go_ret
    exact ⟨rfl, hB⟩
  obtain ⟨nb, cap, rfl, hok, hz, hn2, hn4, rfl, hnb, hel, hE, hv, hs⟩ := hf.out rfl
  clear hf
  obtain ⟨y1, y2, y3⟩ := La.other_all hok hz hn2 hn4 hE hv hs
  replace y1 := Lib.hid y1
  replace y2 := Lib.hid y2
  replace y3 := Lib.hid y3
  have hn := Lib.hid (show 2 ≤ n ∧ n ≤ 4 by omega)
  replace hel := Lib.hid hel
  have huI := Lib.hid (qun_I q)
  clear hok hz hE hv hs hn2 hn4
  have FI := Lib.hid (fun f (hf : ∀ i, i < 4 → I64 (f i)) w => sfits_any f (qunF q) w hf huI.out)
  obtain ⟨u, hu⟩ : ∃ u, qunF q = u := ⟨_, rfl⟩
  rw [hu] at FI
  replace hu := Lib.hid hu
  rw [hu.out]
  have hnew : Below w1.heap.size w1 ((w1.alloc (.cells (qfn fun _ => 0) 23)).setRow w1.heap.size (qfn u)) := Below.setRow ((Below.refl _ _).alloc (Nat.le_refl _) _) (Nat.le_refl _) _
  replace hel := Lib.hid (hel.out.below hnew)
  clear hnew
  have ub := (blk.new w1 (qfn fun _ => 0) 23).row (qfn u)
  replace hB := Below.setRow (hB.alloc hB.size (.cells (qfn fun _ => 0) 23)) (g := w1.heap.size) hB.size (qfn u)
  have hne : ∀ x, x < w1.heap.size → x ≠ w1.heap.size := fun x hx => Nat.ne_of_lt hx
  replace qb := (qb.alloc (.cells (qfn fun _ => 0) 23)).rowOther (hne _ qb.lt) (qfn u)
  clear hne
  generalize (w1.alloc (.cells (qfn fun _ => 0) 23)).setRow w1.heap.size (qfn u) = w1x at *
  generalize w1.heap.size = ub_b at *
  clear qb
  go_wp2_with (fail)
  have ltu := ub.lt
  have hgb : w.heap.size ≤ w1x.heap.size := hB.size
  have ltnb : nb < w1x.heap.size := by
    obtain ⟨b1, o1, h1, h2, _⟩ := hel.out 0 (by have := hn.out; omega)
    obtain ⟨rfl, _⟩ : nb = b1 ∧ 0 = o1 := by simpa using h1
    exact h2
  generalize hbase : w1x.heap.size = base at hgb ltu ltnb
  replace hbase := Lib.hid hbase
  go_loopg [9, 8] n (fun g_ iv jo wr => ∃ K : Nat, g_ + K = n ∧ iv = .int .i64 K ∧ wr.ownsRow base 36 7 jo K (flS (La.exT q L) K) ∧ base ≤ wr.heap.size ∧ blk wr ub_b (qfn u) 23 ∧ Hid (ElemsA wr (some ⟨nb, 0, none⟩) n 7 (fun k => (sgc (exS q L k)).toList)) ∧ Below w.heap.size w wr)
  case atStart => exact ⟨0, by omega, rfl, World.ownsRow_nil _ _ _ _, Nat.le_of_eq hbase.out.symm, ub, hel, hB⟩
  case round =>
    clear hbase ub hB hel
    obtain ⟨K, hK, rfl, hrow, hbs, ub, hel, hB⟩ := hrel
    by_cases hKn : K < n
    · have hdK : decide ((K : Int) < n) = true := decide_eq_true (by omega)
      have hdK' : decide (K < n) = true := decide_eq_true hKn
      have hk3 : (K : Int) < n := by omega
      have hk0 : (0 : Int) ≤ K := by omega
      have hwK : IntKind.i64.wrap ((K : Int) + 1) = ((K + 1 : Nat) : Int) := by rw [IntKind.wrap_i64]; (have := hn.out; omega)
      have hE : wr.rangeAt nb (0 + K * 7) ((sgc (exS q L K)).toList) := by
        obtain ⟨b1, o1, h1, h2, h3⟩ := hel.out K hKn
        obtain ⟨rfl, rfl⟩ : nb = b1 ∧ 0 = o1 := by simpa using h1
        exact h3
      have hfl : flS (La.exT q L) (K + 1) = flS (La.exT q L) K ++ (sgc (La.exT q L K)).toList := rfl
      have hT : La.exT q L K = ⟨(exS q L K).b, (exS q L K).a, 1⟩ := rfl
      rw [hT] at hfl
      generalize exS q L K = y at hE hfl
      clear hT
      replace hfl := Lib.hid hfl
      have ltnw : nb < wr.heap.size := Nat.lt_of_lt_of_le ltnb hbs
      go_upto_region 8 with (fail)
      have hM : Below wr.heap.size wr wr.drew := (Below.refl _ _).drew
      refine wp_region_X 13 (by kernel_rfl) (by kernel_rfl) ?_
      replace ub := ub.drew
      replace hB : Below w.heap.size w wr.drew := hB.drew
      generalize wr.drew = wrd at *
      apply wpX_take 0; (case ho' => exact rfl); (case hg => exact rfl); (case hB => kernel_rfl); (case h => (intro w1 h1; go_simp; exact ⟨rfl, Below.refl _ _⟩))
      simp only [Act.put, List.setIfInBounds_toArray, List.set_cons_zero, List.set_cons_succ]
      apply wpX_take 1; (case ho' => exact rfl); (case hg => exact rfl); (case hB => kernel_rfl); (case h => (intro w1 h1; go_simp; exact ⟨rfl, Below.refl _ _⟩))
      simp only [Act.put, List.setIfInBounds_toArray, List.set_cons_zero, List.set_cons_succ]
      apply wpX_take 2; (case ho' => exact rfl); (case hg => exact rfl); (case hB => kernel_rfl); (case h => (intro w1 h1; go_simp; exact ⟨rfl, Below.refl _ _⟩))
      simp only [Act.put, List.setIfInBounds_toArray, List.set_cons_zero, List.set_cons_succ]
      apply wpX_take 3; (case ho' => exact rfl); (case hg => exact rfl); (case hB => kernel_rfl); (case h => (intro w1 h1; go_simp; exact ⟨rfl, Below.refl _ _⟩))
      simp only [Act.put, List.setIfInBounds_toArray, List.set_cons_zero, List.set_cons_succ]
      apply wpX_take 4; (case ho' => exact rfl); (case hg => exact rfl); (case hB => kernel_rfl); (case h => (intro w1 h1; go_simp; exact ⟨rfl, Below.refl _ _⟩))
      simp only [Act.put, List.setIfInBounds_toArray, List.set_cons_zero, List.set_cons_succ]
      apply wpX_take 5; (case ho' => exact rfl); (case hg => exact rfl); (case hB => kernel_rfl); (case h => (intro w1 h1; exact detR_range _ _ rfl _ _ rfl _ (0 + K * 7) 3 (range_below hE (hM.trans (h1.mono hM.size)) ltnw) (by first | rfl | omega) (#[.int .i64 (y.b 0), .int .i64 (y.b 1), .int .i64 (y.b 2)]) (by rw [← vfn_lit y.b]; exact sg_bL y) _ Try.underlying31 rfl (by first | kernel_rfl | (rw [vfn_size]; kernel_rfl)) rfl))
      simp only [Act.put, List.setIfInBounds_toArray, List.set_cons_zero, List.set_cons_succ]
      apply wpX_take 6; (case ho' => exact rfl); (case hg => exact rfl); (case hB => kernel_rfl); (case h => (intro w1 h1; go_simp; exact ⟨rfl, Below.refl _ _⟩))
      simp only [Act.put, List.setIfInBounds_toArray, List.set_cons_zero, List.set_cons_succ]
      apply wpX_take 7; (case ho' => exact rfl); (case hg => exact rfl); (case hB => kernel_rfl); (case h => (intro w1 h1; go_simp; exact ⟨rfl, Below.refl _ _⟩))
      simp only [Act.put, List.setIfInBounds_toArray, List.set_cons_zero, List.set_cons_succ]
      apply wpX_take 8; (case ho' => exact rfl); (case hg => exact rfl); (case hB => kernel_rfl); (case h => (intro w1 h1; go_simp; exact ⟨rfl, Below.refl _ _⟩))
      simp only [Act.put, List.setIfInBounds_toArray, List.set_cons_zero, List.set_cons_succ]
      apply wpX_take 9; (case ho' => exact rfl); (case hg => exact rfl); (case hB => kernel_rfl); (case h => (intro w1 h1; go_simp; exact ⟨rfl, Below.refl _ _⟩))
      simp only [Act.put, List.setIfInBounds_toArray, List.set_cons_zero, List.set_cons_succ]
      apply wpX_take 10; (case ho' => exact rfl); (case hg => exact rfl); (case hB => kernel_rfl); (case h => (intro w1 h1; exact detR_range _ _ rfl _ _ rfl _ (0 + K * 7) 0 (range_below hE (hM.trans (h1.mono hM.size)) ltnw) (by first | rfl | omega) (#[.int .i64 (y.a 0), .int .i64 (y.a 1), .int .i64 (y.a 2)]) (by rw [← vfn_lit y.a]; exact sg_aL y) _ Try.underlying31 rfl (by first | kernel_rfl | (rw [vfn_size]; kernel_rfl)) rfl))
      simp only [Act.put, List.setIfInBounds_toArray, List.set_cons_zero, List.set_cons_succ]
      apply wpX_take 11; (case ho' => exact rfl); (case hg => exact rfl); (case hB => kernel_rfl); (case h => (intro w1 h1; go_simp; exact ⟨rfl, Below.refl _ _⟩))
      simp only [Act.put, List.setIfInBounds_toArray, List.set_cons_zero, List.set_cons_succ]
      refine wpX_one 12 rfl rfl (by decide) (by kernel_rfl) (fun wa h1 K_ hK => ?_)
      go_simp
      refine hK _ _ ((Below.refl _ _).alloc (Nat.le_refl _) _) ?_
      clear hK
      have hM2 := hM.trans (h1.mono hM.size)
      replace hB := (hB.trans (h1.mono hB.size)).alloc (Nat.le_trans hB.size h1.size) (.cells (sgc ⟨y.b, y.a, 1⟩) 36)
      replace ub := (ub.below h1 ub.lt).alloc (.cells (sgc ⟨y.b, y.a, 1⟩) 36)
      have hnw := blk.new wa (sgc ⟨y.b, y.a, 1⟩) 36
      replace hM := hM2.alloc hM2.size (.cells (sgc ⟨y.b, y.a, 1⟩) 36)
      clear h1 hM2
      refine wpX_tail (by kernel_rfl) (fun we118 ht => ?_)
      simp only [List.drop_succ_cons, List.drop_zero]
      replace hB := hB.trans (ht.mono hB.size)
      replace ub := ub.below ht ub.lt
      replace hM := hM.trans (ht.mono hM.size)
      replace hnw := hnw.below ht hnw.lt
      clear ht
      replace hrow := own_below hrow hM
      replace hbs := Nat.le_trans hbs hM.size
      replace hel := Lib.hid (hel.out.below hM)
      clear hM hE
      have hlt := hrow.lt
      have hk17 : K + 1 ≤ maxLen := Nat.le_trans (show K + 1 ≤ 5 by have := hn.out; omega) (by decide)
      have hk56 : (K + 1) * 56 ≤ 140737488355328 := by have := hn.out; omega
      go_wp2_with (at_builtin; refine wpList_append_own _ rfl _ _ 24 rfl base 36 i0 (.agg #[.int .i64 0, .int .i64 0, .int .i64 0, .int .i64 0, .int .i64 0, .int .i64 0, .int .i64 0]) 7 56 Try.underlying24 hi hz0 hz1 hz2 rfl (by decide) _ _ _ rfl hrow ⟨wa.heap.size, 0, none⟩ 1 1 (sgc ⟨y.b, y.a, 1⟩).toList rfl rfl (cells_blk hnw) (sgc_ones _) hk17 hk56 hbs ?_; intro v' w3 hown' hgrow hnil)
      rw [← hfl.out] at hown'
      replace hB := hB.grown hgrow hB.size (fun k hk => Nat.le_trans hgb (hlt k hk).1)
      replace ub := blk_grown ub hgrow (fun k hk => Nat.ne_of_gt (Nat.lt_of_lt_of_le ltu (hlt k hk).1))
      replace hel := Lib.hid (el_grown hel.out hgrow (fun k hk => Nat.ne_of_gt (Nat.lt_of_lt_of_le ltnb (hlt k hk).1)))
      replace hbs := Nat.le_trans hbs hgrow.size
      go_roundg (n - (K + 1))
      case rel => exact ⟨K + 1, by omega, rfl, hown', hbs, ub, hel, hB⟩
      case measure => omega
    · obtain rfl : K = n := by omega
      have hdK : decide ((K : Int) < K) = false := decide_eq_false (by omega)
      have hdK' : decide (K < K) = false := decide_eq_false (by omega)
      have hn0 := hn.out
      obtain ⟨nb2, cap2, rfl, hnb2, hel2⟩ := el_own (by omega) hrow
      have SP := Lib.hid (fun w el => sspread_any (La.exT q L) (some ⟨nb2, 0, none⟩) K cap2 w el (by omega))
      have SO := Lib.hid (fun w el => ssolve_any (La.exT q L) (some ⟨nb2, 0, none⟩) K cap2 w el (by omega))
      unfold sprV matE at SP
      rw [y1.out] at SP
      have hG0 := y2.out
      have hG3 := y3.out
      obtain ⟨G, hG⟩ : ∃ G, sprI (La.exT q L) K K = G := ⟨_, rfl⟩
      rw [hG] at SP hG0 hG3
      clear hG y1 y2 y3 hn0 hrow hel
      replace hel2 := Lib.hid hel2
      replace hG3 := Lib.hid hG3
      have dg : decide (536870848 ≤ G) = true := decide_eq_true hG0
      by_cases hG2 : G < 536870912
      case pos =>
        have dG : decide (G < 536870912) = true := decide_eq_true hG2
        replace hG2 := Lib.hid hG2
        go_wp2_with (first | (go_at_call 16; with_reducible refine (SP.out _ hel2.out).mono ?_; rintro e w4 ⟨rfl, hb⟩; replace hB := hB.trans (hb.mono hB.size); replace ub := ub.below hb ub.lt; replace hel2 := Lib.hid (hel2.out.below hb); clear hb) | (go_at_call 11; with_reducible refine (AW.out _).mono ?_; rintro e w5 ⟨rfl, hb⟩; replace hB := hB.trans (hb.mono hB.size); replace ub := ub.below hb ub.lt; clear hb))
        go_ret
        exact ⟨rfl, hB⟩
      have dG : decide (G < 536870912) = false := decide_eq_false hG2
      obtain ⟨z1, z2, z3, z4⟩ := hG3.out (by omega)
      rw [z1] at SO
      have CJ := Lib.hid (fun w => conj_any (slvV (La.exT q L) K) w)
      have FJ := Lib.hid (fun w => FI.out (conjF (slvV (La.exT q L) K)) z4 w)
      rw [show ((betE (conjF (slvV (La.exT q L) K)) u == 0) && ((normE (fun j => betF (conjF (slvV (La.exT q L) K)) u (j + 1)) == 0) && decide (normV (fun j => betF (conjF (slvV (La.exT q L) K)) u (j + 1)) ≤ 4096))) = true from by rw [← hu.out]; exact z2] at FJ
      generalize conjF (slvV (La.exT q L) K) = cp at *
      generalize slvV (La.exT q L) K = sv at *
      clear z1 z2 z3 z4 FI hG3
      replace hG2 := Lib.hid hG2
      go_upto_region 14 with ((go_at_call 16; with_reducible refine (SP.out _ hel2.out).mono ?_; rintro e w4 ⟨rfl, hb⟩; replace hB := hB.trans (hb.mono hB.size); replace ub := ub.below hb ub.lt; replace hel2 := Lib.hid (hel2.out.below hb); clear hb))
      clear SP
      go_upto_region 15 with (first | (go_at_call 15; with_reducible refine (SO.out _ hel2.out).mono ?_; rintro e w6 ⟨rfl, hb⟩; replace hB := hB.trans (hb.mono hB.size); replace ub := ub.below hb ub.lt; clear hb) | (rw [zero_quat]; refine wpList_store_row rfl _ _ _ rfl _ rfl _ rfl _ _ (blk.new _ _ _) (by first | kernel_rfl | (rw [qfn_size]; kernel_rfl)) (by first | rfl | simp only [qfn_size]) (by first | exact qfn_one _ | rfl) ?_))
      clear SO hel2
      have pb := (blk.new w6 (qfn fun _ => 0) 23).row (qfn sv)
      replace hB := Below.setRow (hB.alloc hB.size (.cells (qfn fun _ => 0) 23)) (g := w6.heap.size) hB.size (qfn sv)
      have hne : ∀ x, x < w6.heap.size → x ≠ w6.heap.size := fun x hx => Nat.ne_of_lt hx
      replace ub := (ub.alloc (.cells (qfn fun _ => 0) 23)).rowOther (hne _ ub.lt) (qfn sv)
      clear hne
      generalize (w6.alloc (.cells (qfn fun _ => 0) 23)).setRow w6.heap.size (qfn sv) = w6x at *
      generalize w6.heap.size = pb_b at *
      have lt_ub := ub.lt
      have lt_pb := pb.lt
      have hW0 : w.heap.size ≤ w6x.heap.size := by have := hB.size; first | exact this | simpa using this
      apply wp_region_I 12 [0, 1, 3, 7, 15, 7, 63, 127, 255, 511, 1023, 2047] [] [_, _, _, _, _, _, _, _, _, _, _, _] (fun p L w' => w6x.heap.size ≤ w'.heap.size ∧ Below w.heap.size w w' ∧ blk w' ub_b (qfn u) 23 ∧ blk w' pb_b (qfn sv) 23) _ [(0, 63), (1, 64), (2, 65), (3, 66), (4, 67), (5, 68), (6, 69), (7, 70), (8, 71), (9, 72), (10, 73), (11, 4)] [0, 1, 2, 3, 4, 5, 6, 7, 8, 9, 10, 11]
      case hn => rfl
      case hm => kernel_rfl
      case hB => kernel_rfl
      case hds => kernel_rfl
      case hA => (intro p; simp only [putsD, Act.put, List.setIfInBounds_toArray, List.set_cons_zero, List.set_cons_succ, List.getD_cons_zero, List.getD_cons_succ]; exact rfl)
      case h0 => exact fun p => ⟨Nat.le_refl _, hB.drew, ub.drew, pb.drew⟩
      case hmore => exact fun p L w1 w2 ⟨hsz, hB, ub, pb⟩ hm => ⟨Nat.le_trans hsz hm.size, hB.trans (hm.mono (Nat.le_trans hW0 hsz)), ub.below hm ub.lt, pb.below hm pb.lt⟩
      case hs =>
        intro more
        iterate 3 (refine stepV _ rfl rfl (fun _ _ _ h => h) (by intros; go_simp; exact ⟨rfl, rfl⟩) ?_)
        refine stepVg 3 rfl (fun p => (by first | rfl | (simp [Region.wanted, yielded]; done))) (fun _ _ _ h => h) ?_ ?_
        · rintro p L w1 ⟨hsz, hB, ub, pb⟩ hk
          first | exact valR_row _ _ rfl _ rfl _ _ pb _ Try.underlying23 rfl (by first | kernel_rfl | (rw [qfn_size]; kernel_rfl)) rfl | (have hc := pb.cellIs (qfn_get _ (show 0 < 4 by omega)); go_simp; exact ⟨rfl, rfl⟩)
        refine stepD 4 rfl (fun p => (by first | rfl | (simp [Region.wanted, yielded]; done))) (fun _ _ _ h => h) more ?_ ?_
        · rintro p L w1 ⟨hsz, hB, ub, pb⟩ hk
          go_simp
          refine (CJ.out _).mono ?_
          rintro e w2 ⟨rfl, h2⟩
          first | exact ⟨rfl, h2⟩ | (subst h2; exact ⟨rfl, Below.refl _ _⟩)
        refine stepVg 5 rfl (fun p => (by first | rfl | (simp [Region.wanted, yielded]; done))) (fun _ _ _ h => h) ?_ ?_
        · rintro p L w1 ⟨hsz, hB, ub, pb⟩ hk
          first | exact valR_row _ _ rfl _ rfl _ _ ub _ Try.underlying23 rfl (by first | kernel_rfl | (rw [qfn_size]; kernel_rfl)) rfl | (have hc := ub.cellIs (qfn_get _ (show 0 < 4 by omega)); go_simp; exact ⟨rfl, rfl⟩)
        refine stepD 6 rfl (fun p => (by first | rfl | (simp [Region.wanted, yielded]; done))) (fun _ _ _ h => h) more ?_ ?_
        · rintro p L w1 ⟨hsz, hB, ub, pb⟩ hk
          go_simp
          refine (FJ.out _).mono ?_
          rintro e w2 ⟨rfl, h2⟩
          first | exact ⟨rfl, h2⟩ | (subst h2; exact ⟨rfl, Below.refl _ _⟩)
        iterate 2 (refine stepV _ rfl rfl (fun _ _ _ h => h) (by intros; go_simp; exact ⟨rfl, rfl⟩) ?_)
        refine stepD 9 rfl (fun p => (by first | rfl | (simp [Region.wanted, yielded]; done))) (fun _ _ _ h => h) more ?_ ?_
        · rintro p L w1 ⟨hsz, hB, ub, pb⟩ hk
          go_simp
          refine (AW.out _).mono ?_
          rintro e w2 ⟨rfl, h2⟩
          first | exact ⟨rfl, h2⟩ | (subst h2; exact ⟨rfl, Below.refl _ _⟩)
        iterate 2 (refine stepV _ rfl rfl (fun _ _ _ h => h) (by intros; go_simp; exact ⟨rfl, rfl⟩) ?_)
        exact AllI.nil
      case hV0 => exact fun p q => AllI.nil
      case he =>
      clear hB ub pb
      rintro p w6xr ⟨hsz, hB, ub, pb⟩
      clear lt_ub
      clear lt_pb
      clear hsz hW0
      go_wp2_with (fail)
      go_ret
      exact ⟨rfl, hB⟩
end Go.Proofs.Ytkmelddejdikgaa
