/-
  Plans of passes: the plain law. No program in sight.
-/
import Derived.Test.YtkmelddejdikgaaBase
set_option linter.unusedSimpArgs false
set_option linter.unusedVariables false
namespace Go.Proofs.Ytkmelddejdikgaa
namespace Pa
/-- A window may come behind another one. -/
def folB (f g : Nat → Int) (gap : Int) : Bool := decide (f 1 + (if f 2 = g 2 then 0 else gap) ≤ g 0)
/-- A window may be next at a point. -/
def nxB (L : Nat → Nat → Int) (gap last bud : Int) (i : Nat) : Bool := decide (L i 4 ≤ bud) && (decide (last < 0) || folB (L last.toNat) (L i) gap)
def betB (g b : Int × Int) : Bool := decide (b.1 < g.1) || (decide (g.1 = b.1) && decide (g.2 < b.2))
def bst (A : Nat → Int × Int) (ok : Nat → Bool) : Nat → Int × Int
  | 0 => (0, 0)
  | j + 1 => if ok j && betB (A j) (bst A ok j) then A j else bst A ok j
def aft (L : Nat → Nat → Int) (r : Int × Int) (i : Nat) : Int × Int := (r.1 + L i 3, r.2 + 1)
/-- What may be gained from a point on. -/
def gR (n : Nat) (L : Nat → Nat → Int) (gap : Int) : Nat → Int → Int → Int × Int
  | 0, _, _ => (0, 0)
  | k + 1, last, bud => bst (fun i => aft L (gR n L gap k i (bud - L i 4)) i) (nxB L gap last bud) n
theorem bst_or (A : Nat → Int × Int) (ok : Nat → Bool) : ∀ j, bst A ok j = (0, 0) ∨ ∃ i, i < j ∧ ok i = true ∧ bst A ok j = A i
  | 0 => .inl rfl
  | j + 1 => by
    unfold bst
    by_cases h : (ok j && betB (A j) (bst A ok j)) = true
    · rw [if_pos h]
      simp only [Bool.and_eq_true] at h
      exact .inr ⟨j, by omega, h.1, rfl⟩
    · rw [if_neg h]
      rcases bst_or A ok j with h0 | ⟨i, hi, h1, h2⟩
      · exact .inl h0
      · exact .inr ⟨i, by omega, h1, h2⟩
theorem bet_ge {g b : Int × Int} (h : betB g b = true) : b.1 ≤ g.1 := by
  unfold betB at h
  simp only [Bool.or_eq_true, Bool.and_eq_true, decide_eq_true_eq] at h
  omega
theorem bet_le {g b : Int × Int} (h : ¬ betB g b = true) : g.1 ≤ b.1 := by
  unfold betB at h
  simp only [Bool.or_eq_true, Bool.and_eq_true, decide_eq_true_eq] at h
  omega
theorem bst_mono (A : Nat → Int × Int) (ok : Nat → Bool) (j : Nat) : (bst A ok j).1 ≤ (bst A ok (j + 1)).1 := by
  rw [bst]
  by_cases h : (ok j && betB (A j) (bst A ok j)) = true
  · rw [if_pos h]
    simp only [Bool.and_eq_true] at h
    exact bet_ge h.2
  · rw [if_neg h]; exact Int.le_refl _
theorem bst_ge (A : Nat → Int × Int) (ok : Nat → Bool) (i : Nat) (ho : ok i = true) : ∀ j, i < j → (A i).1 ≤ (bst A ok j).1
  | 0, h => absurd h (by omega)
  | j + 1, h => by
    by_cases hi : i = j
    · subst hi
      rw [bst]
      by_cases h : (ok i && betB (A i) (bst A ok i)) = true
      · rw [if_pos h]; exact Int.le_refl _
      · rw [if_neg h]
        rw [ho, Bool.true_and] at h
        exact bet_le h
    · exact Int.le_trans (bst_ge A ok i ho j (by omega)) (bst_mono A ok j)
/-- What is known of windows. -/
structure WOk (n : Nat) (L : Nat → Nat → Int) : Prop where
  a : ∀ i, i < n → 0 ≤ L i 0 ∧ L i 0 < L i 1 ∧ L i 1 ≤ 1099511627776
  s : ∀ i, i < n → 0 ≤ L i 2 ∧ L i 2 ≤ 255
  v : ∀ i, i < n → 0 ≤ L i 3 ∧ L i 3 ≤ 1099511627776
  c : ∀ i, i < n → 0 ≤ L i 4 ∧ L i 4 ≤ 1000
variable {n : Nat} {L : Nat → Nat → Int} {gap : Int}
theorem gR_bd (h : WOk n L) : ∀ (k : Nat) (last bud : Int), 0 ≤ (gR n L gap k last bud).1 ∧ (gR n L gap k last bud).1 ≤ 1099511627776 * k ∧ 0 ≤ (gR n L gap k last bud).2 ∧ (gR n L gap k last bud).2 ≤ k
  | 0, last, bud => by unfold gR; simp
  | k + 1, last, bud => by
    rw [gR]
    rcases bst_or (fun i => aft L (gR n L gap k i (bud - L i 4)) i) (nxB L gap last bud) n with h0 | ⟨i, hi, _, h0⟩
    · rw [h0]; constructor
      · exact Int.le_refl _
      · refine ⟨?_, Int.le_refl _, ?_⟩
        · show (0 : Int) ≤ _; omega
        · show (0 : Int) ≤ _; omega
    · rw [h0]
      have h1 := gR_bd h k i (bud - L i 4)
      have h2 := h.v i hi
      unfold aft
      dsimp only
      omega
theorem gR_hit {k : Nat} {last bud : Int} (hp : 0 < (gR n L gap k last bud).2) : ∃ m, k = m + 1 ∧ ∃ i, i < n ∧ nxB L gap last bud i = true ∧ aft L (gR n L gap m i (bud - L i 4)) i = gR n L gap k last bud := by
  cases k with
  | zero => unfold gR at hp; simp at hp
  | succ k =>
    rw [gR] at hp ⊢
    rcases bst_or (fun i => aft L (gR n L gap k i (bud - L i 4)) i) (nxB L gap last bud) n with h0 | ⟨i, hi, h1, h0⟩
    · rw [h0] at hp; simp at hp
    · exact ⟨k, rfl, i, hi, h1, h0.symm⟩
theorem gR_zero (h : WOk n L) {k : Nat} {last bud : Int} (hp : ¬ 0 < (gR n L gap k last bud).2) : (gR n L gap k last bud).1 = 0 := by
  cases k with
  | zero => rfl
  | succ k =>
    rw [gR] at hp ⊢
    rcases bst_or (fun i => aft L (gR n L gap k i (bud - L i 4)) i) (nxB L gap last bud) n with h0 | ⟨i, hi, h1, h0⟩
    · rw [h0]
    · exfalso
      rw [h0] at hp
      have := (gR_bd h (gap := gap) k i (bud - L i 4)).2.2.1
      unfold aft at hp
      dsimp only at hp
      omega
/-! ### Chains -/
def chn (n : Nat) (L : Nat → Nat → Int) (gap : Int) : Int → List Nat → Prop
  | _, [] => True
  | last, i :: q => i < n ∧ (last < 0 ∨ folB (L last.toNat) (L i) gap = true) ∧ chn n L gap i q
def sumF (L : Nat → Nat → Int) (j : Nat) : List Nat → Int
  | [] => 0
  | i :: q => L i j + sumF L j q
def lst : Int → List Nat → Int
  | l, [] => l
  | _, i :: q => lst i q
theorem sumF_snoc (j i : Nat) : ∀ q : List Nat, sumF L j (q ++ [i]) = sumF L j q + L i j
  | [] => by simp [sumF]
  | x :: q => by rw [List.cons_append, sumF, sumF, sumF_snoc j i q]; omega
theorem lst_snoc (i : Nat) : ∀ (q : List Nat) (l : Int), lst l (q ++ [i]) = i
  | [], l => rfl
  | x :: q, l => by rw [List.cons_append, lst]; exact lst_snoc i q _
theorem chn_snoc (i : Nat) : ∀ (q : List Nat) (l : Int), chn n L gap l q → i < n → (lst l q < 0 ∨ folB (L (lst l q).toNat) (L i) gap = true) → chn n L gap l (q ++ [i])
  | [], l, _, h1, h2 => ⟨h1, h2, trivial⟩
  | x :: q, l, h, h1, h2 => ⟨h.1, h.2.1, chn_snoc i q x h.2.2 h1 h2⟩
theorem opt (h : WOk n L) : ∀ (q : List Nat) (k : Nat) (last bud : Int), chn n L gap last q → q.length ≤ k → sumF L 4 q ≤ bud → sumF L 3 q ≤ (gR n L gap k last bud).1
  | [], k, last, bud, _, _, _ => (gR_bd h k last bud).1
  | i :: q, 0, last, bud, _, hl, _ => absurd hl (by simp)
  | i :: q, k + 1, last, bud, hc, hl, hs => by
    have hs0 : ∀ (l : Int) (q : List Nat), chn n L gap l q → 0 ≤ sumF L 4 q := by
      intro l q
      induction q generalizing l with
      | nil => intro _; exact Int.le_refl _
      | cons x q ih => intro hc; have := ih _ hc.2.2; have := (h.c x hc.1).1; unfold sumF; omega
    have hc0 := hs0 _ _ hc.2.2
    unfold sumF at hs
    have ho : nxB L gap last bud i = true := by
      unfold nxB
      simp only [Bool.and_eq_true, Bool.or_eq_true, decide_eq_true_eq]
      exact ⟨by omega, hc.2.1⟩
    have h1 := opt h q k i (bud - L i 4) hc.2.2 (by simpa using hl) (by omega)
    have h2 := bst_ge (fun i => aft L (gR n L gap k i (bud - L i 4)) i) (nxB L gap last bud) i ho n hc.1
    rw [gR]
    unfold sumF
    unfold aft at h2
    dsimp only at h2
    unfold aft
    omega
/-- The plan so far. -/
structure Pln (n : Nat) (L : Nat → Nat → Int) (gap : Int) (k0 : Nat) (b0 : Int) (pl : List Nat) (last : Int) (k : Nat) (bud : Int) : Prop where
  ch : chn n L gap (-1) pl
  la : last = lst (-1) pl
  le : pl.length + k = k0
  co : sumF L 4 pl + bud = b0
  bu : 0 ≤ bud
  va : sumF L 3 pl + (gR n L gap k last bud).1 = (gR n L gap k0 (-1) b0).1
  r : -1 ≤ last ∧ last < n
theorem Pln.start {k0 : Nat} {b0 : Int} (hb : 0 ≤ b0) : Pln n L gap k0 b0 [] (-1) k0 b0 :=
  ⟨trivial, rfl, by simp, by simp [sumF], hb, by simp [sumF], by omega⟩
theorem Pln.step {k0 : Nat} {b0 : Int} {pl : List Nat} {last : Int} {k : Nat} {bud : Int} (h : Pln n L gap k0 b0 pl last (k + 1) bud) {i : Nat} (hi : i < n) (ho : nxB L gap last bud i = true)
    (he : aft L (gR n L gap k i (bud - L i 4)) i = gR n L gap (k + 1) last bud) : Pln n L gap k0 b0 (pl ++ [i]) i k (bud - L i 4) := by
  unfold nxB at ho
  simp only [Bool.and_eq_true, Bool.or_eq_true, decide_eq_true_eq] at ho
  refine ⟨chn_snoc i pl _ h.ch hi (by rw [← h.la]; exact ho.2), (lst_snoc i pl _).symm, ?_, ?_, by omega, ?_, by omega⟩
  · have := h.le; simp; omega
  · have := h.co; rw [sumF_snoc]; omega
  · have := h.va
    rw [← he] at this
    unfold aft at this
    dsimp only at this
    rw [sumF_snoc]; omega
/-! ### Feasible plans -/
def prB (L : Nat → Nat → Int) (gap : Int) (pl : List Nat) (m : Nat) : Bool := decide (m = 0) || folB (L (pl.getD (m - 1) 0)) (L (pl.getD m 0)) gap
def feasB (L : Nat → Nat → Int) (gap bud most : Int) (pl : List Nat) : Bool := (List.range pl.length).all (prB L gap pl) && (decide (sumF L 4 pl ≤ bud) && decide ((pl.length : Int) ≤ most))
theorem chn_in : ∀ (q : List Nat) (l : Int), chn n L gap l q → ∀ i, i ∈ q → i < n
  | [], _, _, i, hi => by cases hi
  | x :: q, l, h, i, hi => by
    rcases List.mem_cons.1 hi with rfl | hi
    · exact h.1
    · exact chn_in q _ h.2.2 i hi
theorem chn_pr : ∀ (q : List Nat) (l : Int), chn n L gap l q → (∀ m, 0 < m → m < q.length → folB (L (q.getD (m - 1) 0)) (L (q.getD m 0)) gap = true)
  | [], _, _, m, _, hm => by simp at hm
  | [x], _, _, m, h0, hm => by simp at hm; omega
  | x :: y :: q, l, h, m, h0, hm => by
    by_cases h1 : m = 1
    · subst h1
      have := h.2.2.2.1
      rcases this with h2 | h2
      · exfalso; omega
      · simpa using h2
    · have := chn_pr (y :: q) x h.2.2 (m - 1) (by omega) (by simp at hm ⊢; omega)
      obtain ⟨m, rfl⟩ : ∃ k, m = k + 2 := ⟨m - 2, by omega⟩
      simpa using this
theorem pr_chn : ∀ (q : List Nat) (l : Int), (∀ i, i ∈ q → i < n) → (∀ m, 0 < m → m < q.length → folB (L (q.getD (m - 1) 0)) (L (q.getD m 0)) gap = true) → (l < 0 ∨ (∀ x, q.head? = some x → folB (L l.toNat) (L x) gap = true)) → chn n L gap l q
  | [], _, _, _, _ => trivial
  | x :: q, l, hi, h, h0 => by
    refine ⟨hi x (List.mem_cons_self ..), h0.imp id (fun h => h x rfl), pr_chn q x (fun i hq => hi i (List.mem_cons_of_mem _ hq)) (fun m h1 h2 => ?_) (.inr fun y hy => ?_)⟩
    · have := h (m + 1) (by omega) (by simp; omega)
      obtain ⟨m, rfl⟩ : ∃ k, m = k + 1 := ⟨m - 1, by omega⟩
      simpa using this
    · cases q with
      | nil => cases hy
      | cons z q =>
        cases hy
        have := h 1 (by omega) (by simp)
        simpa using this
theorem feas_chn {bud most : Int} {pl : List Nat} (hi : ∀ i, i ∈ pl → i < n) (h : feasB L gap bud most pl = true) : chn n L gap (-1) pl ∧ sumF L 4 pl ≤ bud ∧ (pl.length : Int) ≤ most := by
  unfold feasB at h
  simp only [Bool.and_eq_true, decide_eq_true_eq, List.all_eq_true, List.mem_range] at h
  refine ⟨pr_chn pl (-1) hi (fun m h0 hm => ?_) (.inl (by omega)), h.2⟩
  have := h.1 m hm
  unfold prB at this
  simp only [Bool.or_eq_true, decide_eq_true_eq] at this
  rcases this with h1 | h1
  · omega
  · exact h1
theorem chn_feas {bud most : Int} {pl : List Nat} (h : chn n L gap (-1) pl) (h1 : sumF L 4 pl ≤ bud) (h2 : (pl.length : Int) ≤ most) : feasB L gap bud most pl = true := by
  unfold feasB
  simp only [Bool.and_eq_true, decide_eq_true_eq, List.all_eq_true, List.mem_range]
  refine ⟨fun m hm => ?_, h1, h2⟩
  unfold prB
  simp only [Bool.or_eq_true, decide_eq_true_eq]
  by_cases h0 : m = 0
  · exact .inl h0
  · exact .inr (chn_pr pl _ h m (by omega) hm)
theorem fol_lt (hw : WOk n L) (hg : 0 ≤ gap) {i j : Nat} (hi : i < n) (h : folB (L i) (L j) gap = true) : L i 1 ≤ L j 0 := by
  unfold folB at h
  simp only [decide_eq_true_eq] at h
  split at h <;> omega
theorem chn_up (hw : WOk n L) (hg : 0 ≤ gap) : ∀ (q : List Nat) (i : Nat), i < n → chn n L gap i q → ∀ j, j ∈ q → L i 0 < L j 0
  | [], _, _, _, j, hj => by cases hj
  | x :: q, i, hi, h, j, hj => by
    have h1 : L i 0 < L x 0 := by
      rcases h.2.1 with h1 | h1
      · exfalso; omega
      · have := fol_lt hw hg hi (by simpa using h1)
        have := (hw.a i hi).2.1
        omega
    rcases List.mem_cons.1 hj with rfl | hj
    · exact h1
    · exact Int.lt_trans h1 (chn_up hw hg q x h.1 h.2.2 j hj)
theorem chn_nodup (hw : WOk n L) (hg : 0 ≤ gap) : ∀ (q : List Nat) (l : Int), chn n L gap l q → q.Nodup
  | [], _, _ => List.nodup_nil
  | x :: q, l, h => by
    refine List.nodup_cons.2 ⟨fun hm => ?_, chn_nodup hw hg q x h.2.2⟩
    have := chn_up hw hg q x h.1 h.2.2 x hm
    omega
theorem pig : ∀ (n : Nat) (q : List Nat), q.Nodup → (∀ i, i ∈ q → i < n) → q.length ≤ n
  | 0, [], _, _ => Nat.le_refl _
  | 0, x :: q, _, h => absurd (h x (List.mem_cons_self ..)) (by omega)
  | n + 1, q, hn, h => by
    by_cases hm : n ∈ q
    · have h1 := pig n (q.erase n) (hn.erase n) (fun i hi => by
        have h2 := (hn.mem_erase_iff).1 hi
        have := h i h2.2
        omega)
      have h3 := List.length_erase_of_mem hm
      omega
    · have := pig n q hn (fun i hi => by
        have h1 := h i hi
        have : i ≠ n := fun e => hm (e ▸ hi)
        omega)
      omega
theorem chn_len (hw : WOk n L) (hg : 0 ≤ gap) {q : List Nat} (h : chn n L gap (-1) q) : q.length ≤ n := pig n q (chn_nodup hw hg q _ h) (chn_in q _ h)
theorem sum_one (hc : ∀ i, i < n → L i 4 = 1) : ∀ (q : List Nat), (∀ i, i ∈ q → i < n) → sumF L 4 q = q.length
  | [], _ => rfl
  | x :: q, h => by
    have h1 := sum_one hc q (fun i hi => h i (List.mem_cons_of_mem _ hi))
    have h2 := hc x (h x (List.mem_cons_self ..))
    unfold sumF
    rw [h1, h2]; simp; omega
/-- THE LAW: no feasible plan has more value. -/
theorem best_law (hw : WOk n L) (hg : 0 ≤ gap) (hc : ∀ i, i < n → L i 4 = 1) {bud most b0 : Int} {k0 : Nat} (hk : (k0 : Int) = min most n) (hb : b0 = min bud n) {pl : List Nat} {last : Int} {k : Nat} {bu : Int}
    (hp : Pln n L gap k0 b0 pl last k bu) (hz : ¬ 0 < (gR n L gap k last bu).2) :
    feasB L gap bud most pl = true ∧ ∀ q : List Nat, (∀ i, i ∈ q → i < n) → feasB L gap bud most q = true → sumF L 3 q ≤ sumF L 3 pl := by
  have h0 := gR_zero hw hz
  have hv := hp.va
  rw [h0] at hv
  refine ⟨chn_feas hp.ch (by have := hp.co; have := hp.bu; omega) (by have := hp.le; omega), fun q hi hq => ?_⟩
  obtain ⟨h1, h2, h3⟩ := feas_chn hi hq
  have h4 := chn_len hw hg h1
  have h5 := sum_one hc q hi
  have := opt hw q k0 (-1) b0 h1 (by omega) (by omega)
  omega
/-- How many entries a memory may get. -/
def cnt : Nat → Nat
  | 0 => 1
  | k + 1 => 1 + 12 * cnt k
theorem cnt_le : ∀ {j k : Nat}, j ≤ k → cnt j ≤ cnt k
  | 0, 0, _ => Nat.le_refl _
  | 0, k + 1, _ => by unfold cnt; omega
  | j + 1, 0, h => absurd h (by omega)
  | j + 1, k + 1, h => by have := cnt_le (j := j) (k := k) (by omega); unfold cnt; omega
end Pa
end Go.Proofs.Ytkmelddejdikgaa
