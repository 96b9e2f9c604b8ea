/-
  Orbits: what the spans in view are. No program in sight. Passes over a station at the pole of nothing: the closed example. No program in sight. What the law of passes calls. A copy of a slice by append. The law of passes.
-/
import Derived.Test.YtkmelddejdikgaaWinB
import Derived.Test.YtkmelddejdikgaaPaI
import Derived.Test.YtkmelddejdikgaaPaH
import Derived.Test.YtkmelddejdikgaaPaN
set_option linter.unusedSimpArgs false
set_option linter.unusedVariables false
namespace Go.Proofs.Ytkmelddejdikgaa
open Go.RowKit PM Dt
/-- A span of a list. -/
def spa (L : List (Int × Int)) (i : Nat) : Int := (L.getD i (0, 0)).1
def spb (L : List (Int × Int)) (i : Nat) : Int := (L.getD i (0, 0)).2
theorem getD_lt {L M : List (Int × Int)} {i : Nat} (h : i < L.length) : (L ++ M).getD i (0, 0) = L.getD i (0, 0) := by
  simp only [List.getD_eq_getElem?_getD, List.getElem?_append_left h]
theorem getD_at (L : List (Int × Int)) (p : Int × Int) : (L ++ [p]).getD L.length (0, 0) = p := by
  simp [List.getD_eq_getElem?_getD]
theorem spa_lt {L M : List (Int × Int)} {i : Nat} (h : i < L.length) : spa (L ++ M) i = spa L i := by unfold spa; rw [getD_lt h]
theorem spb_lt {L M : List (Int × Int)} {i : Nat} (h : i < L.length) : spb (L ++ M) i = spb L i := by unfold spb; rw [getD_lt h]
theorem spa_at (L : List (Int × Int)) (p : Int × Int) : spa (L ++ [p]) L.length = p.1 := by unfold spa; rw [getD_at]
theorem spb_at (L : List (Int × Int)) (p : Int × Int) : spb (L ++ [p]) L.length = p.2 := by unfold spb; rw [getD_at]
theorem len_at (L : List (Int × Int)) (p : Int × Int) : (L ++ [p]).length = L.length + 1 := by simp
/-- What the spans of k ticks are. -/
structure WInv (v : Int → Bool) (a : Int) (k : Nat) (L : List (Int × Int)) : Prop where
  one : ∀ i, i < L.length → a ≤ spa L i ∧ spa L i < spb L i ∧ spb L i ≤ a + k
  two : ∀ i, i + 1 < L.length → spb L i < spa L (i + 1)
  hit : ∀ t, a ≤ t → t < a + k → v t = true → ∃ i, i < L.length ∧ spa L i ≤ t ∧ t < spb L i
  mis : ∀ t, a ≤ t → t < a + k → v t = false → ∀ i, i < L.length → ¬ (spa L i ≤ t ∧ t < spb L i)
theorem WInv.new {v : Int → Bool} {a x : Int} {k : Nat} {L : List (Int × Int)} (h : WInv v a k L) (hx : x = a + k) (hv : v x = true) (hl : ∀ i, i < L.length → spb L i < x) : WInv v a (k + 1) (L ++ [(x, x + 1)]) := by
  have e1 := spa_at L (x, x + 1)
  have e2 := spb_at L (x, x + 1)
  have hc : ((k + 1 : Nat) : Int) = k + 1 := by omega
  refine ⟨fun i hi => ?_, fun i hi => ?_, fun t h1 h2 hh => ?_, fun t h1 h2 hh i hi => ?_⟩
  · rw [len_at] at hi
    rw [hc]
    by_cases hq : i < L.length
    · have := h.one i hq
      rw [spa_lt hq, spb_lt hq]; omega
    · obtain rfl : i = L.length := by omega
      rw [e1, e2]
      show a ≤ x ∧ x < x + 1 ∧ x + 1 ≤ a + (k + 1)
      omega
  · rw [len_at] at hi
    have hi' : i < L.length := by omega
    rw [spb_lt hi']
    by_cases hq : i + 1 < L.length
    · rw [spa_lt hq]; exact h.two i hq
    · have : i + 1 = L.length := by omega
      rw [this, e1]; exact hl i hi'
  · by_cases ht : t < a + k
    · obtain ⟨i, hi, hb⟩ := h.hit t h1 ht hh
      exact ⟨i, by rw [len_at]; omega, by rw [spa_lt hi, spb_lt hi]; exact hb⟩
    · refine ⟨L.length, by rw [len_at]; omega, ?_⟩
      rw [e1, e2]
      show x ≤ t ∧ t < x + 1
      omega
  · rw [len_at] at hi
    have ht : t < a + k := by
      apply Classical.byContradiction; intro hn
      have : t = x := by omega
      rw [this, hv] at hh; cases hh
    by_cases hq : i < L.length
    · rw [spa_lt hq, spb_lt hq]; exact h.mis t h1 ht hh i hq
    · obtain rfl : i = L.length := by omega
      rw [e1]
      show ¬ (x ≤ t ∧ _)
      omega
theorem WInv.grow {v : Int → Bool} {a x c : Int} {k : Nat} {L : List (Int × Int)} (h : WInv v a k (L ++ [(c, x)])) (hx : x = a + k) (hv : v x = true) : WInv v a (k + 1) (L ++ [(c, x + 1)]) := by
  have e1 := spa_at L (c, x + 1)
  have e2 := spb_at L (c, x + 1)
  have f1 := spa_at L (c, x)
  have f2 := spb_at L (c, x)
  have hc : ((k + 1 : Nat) : Int) = k + 1 := by omega
  have g := h.one L.length (by rw [len_at]; omega)
  rw [f1, f2] at g
  have g' : a ≤ c ∧ c < x := ⟨g.1, g.2.1⟩
  refine ⟨fun i hi => ?_, fun i hi => ?_, fun t h1 h2 hh => ?_, fun t h1 h2 hh i hi => ?_⟩
  · rw [len_at] at hi
    rw [hc]
    by_cases hq : i < L.length
    · have := h.one i (by rw [len_at]; omega)
      rw [spa_lt hq, spb_lt hq] at this ⊢; omega
    · obtain rfl : i = L.length := by omega
      rw [e1, e2]
      show a ≤ c ∧ c < x + 1 ∧ x + 1 ≤ a + (k + 1)
      omega
  · rw [len_at] at hi
    have hi' : i < L.length := by omega
    have := h.two i (by rw [len_at]; omega)
    rw [spb_lt hi'] at this ⊢
    by_cases hq : i + 1 < L.length
    · rw [spa_lt hq] at this ⊢; exact this
    · have e : i + 1 = L.length := by omega
      rw [e] at this ⊢
      rw [f1] at this
      rw [e1]; exact this
  · by_cases ht : t < a + k
    · obtain ⟨i, hi, hb⟩ := h.hit t h1 ht hh
      rw [len_at] at hi
      refine ⟨i, by rw [len_at]; omega, ?_⟩
      by_cases hq : i < L.length
      · rw [spa_lt hq, spb_lt hq] at hb ⊢; exact hb
      · obtain rfl : i = L.length := by omega
        rw [f1, f2] at hb
        rw [e1, e2]
        have hb' : c ≤ t ∧ t < x := hb
        show c ≤ t ∧ t < x + 1
        omega
    · refine ⟨L.length, by rw [len_at]; omega, ?_⟩
      rw [e1, e2]
      show c ≤ t ∧ t < x + 1
      omega
  · rw [len_at] at hi
    have ht : t < a + k := by
      apply Classical.byContradiction; intro hn
      have : t = x := by omega
      rw [this, hv] at hh; cases hh
    have := h.mis t h1 ht hh i (by rw [len_at]; omega)
    by_cases hq : i < L.length
    · rw [spa_lt hq, spb_lt hq] at this ⊢; exact this
    · obtain rfl : i = L.length := by omega
      rw [f1, f2] at this
      rw [e1, e2]
      have this' : ¬ (c ≤ t ∧ t < x) := this
      show ¬ (c ≤ t ∧ t < x + 1)
      omega
theorem WInv.skip {v : Int → Bool} {a : Int} {k : Nat} {L : List (Int × Int)} (h : WInv v a k L) (hv : v (a + k) = false) : WInv v a (k + 1) L := by
  have hc : ((k + 1 : Nat) : Int) = k + 1 := by omega
  refine ⟨fun i hi => ?_, h.two, fun t h1 h2 hh => ?_, fun t h1 h2 hh i hi => ?_⟩
  · have := h.one i hi
    rw [hc]; omega
  · have ht : t < a + k := by
      apply Classical.byContradiction; intro hn
      have : t = a + k := by omega
      rw [this, hv] at hh; cases hh
    exact h.hit t h1 ht hh
  · by_cases ht : t < a + k
    · exact h.mis t h1 ht hh i hi
    · have := h.one i hi
      omega
theorem win_inv (f g : Nat → Int) (a : Int) (ha : 0 ≤ a) : ∀ k : Nat, a + k ≤ 2199023255552 → WInv (viewB f g) a k (win (tick f g a k)) := by
  intro k
  induction k with
  | zero => exact fun _ => ⟨fun i hi => (by simp [tick, win] at hi), fun i hi => (by simp [tick, win] at hi), fun t h1 h2 => (by omega), fun t h1 h2 => (by omega)⟩
  | succ k ih =>
    intro hk
    have h := ih (by omega)
    cases hv : viewB f g (a + k) with
    | false => rw [tick_no hv]; exact h.skip hv
    | true =>
      rw [tick_yes hv, win_snoc]
      have w : wrap64 (a + (k : Int) + 1) = a + k + 1 := by unfold wrap64; omega
      rcases List.eq_nil_or_concat (win (tick f g a k)) with hW | ⟨L, ⟨c, d⟩, hW⟩
      · rw [hW] at h ⊢
        rw [winS_nil, w]
        exact h.new rfl hv (fun i hi => by simp at hi)
      · rw [List.concat_eq_append] at hW
        rw [hW] at h ⊢
        have hd := h.one L.length (by rw [len_at]; omega)
        rw [spa_at, spb_at] at hd
        by_cases hq : d = a + k
        · rw [winS_eq _ _ _ _ hq]
          subst hq
          rw [w]
          exact h.grow rfl hv
        · rw [winS_ne _ _ _ _ hq, w]
          refine h.new rfl hv (fun i hi => ?_)
          rw [len_at] at hi
          by_cases hi' : i < L.length
          · have h1 := h.one i (by rw [len_at]; omega)
            by_cases hl : i + 1 < (L ++ [(c, d)]).length
            · have h2 := h.two i hl
              have h3 := h.one (i + 1) hl
              omega
            · rw [len_at] at hl; omega
          · obtain rfl : i = L.length := by omega
            rw [spb_at]
            have hd' : a ≤ c ∧ c < d ∧ d ≤ a + k := hd
            show d < a + k
            omega
/-- The spans' ends rise. -/
theorem WInv.mono {v : Int → Bool} {a : Int} {k : Nat} {L : List (Int × Int)} (h : WInv v a k L) : ∀ (n i : Nat), i + 1 + n < L.length → spb L i < spa L (i + 1 + n) := by
  intro n
  induction n with
  | zero => exact fun i hi => h.two i hi
  | succ n ih =>
    intro i hi
    have h1 := ih i (by omega)
    have h2 := h.one (i + 1 + n) (by omega)
    have h3 := h.two (i + 1 + n) (by omega)
    have e : i + 1 + (n + 1) = i + 1 + n + 1 := by omega
    rw [e]; omega
theorem WInv.lt {v : Int → Bool} {a : Int} {k : Nat} {L : List (Int × Int)} (h : WInv v a k L) {i j : Nat} (hij : i < j) (hj : j < L.length) : spb L i < spa L j := by
  obtain ⟨n, rfl⟩ : ∃ n, j = i + 1 + n := ⟨j - i - 1, by omega⟩
  exact h.mono n i hj
/-- Where the walk over the ticks stands in the list: behind the spans that have ended. -/
def Stands (L : List (Int × Int)) (q : Nat) (t : Int) : Prop := q ≤ L.length ∧ (∀ j, j < q → spb L j ≤ t) ∧ ∀ j, q ≤ j → j < L.length → t < spb L j
theorem Stands.step {v : Int → Bool} {a : Int} {k : Nat} {L : List (Int × Int)} (h : WInv v a k L) {q : Nat} {t : Int} (hs : Stands L q (t - 1)) : (q < L.length ∧ spb L q ≤ t → Stands L (q + 1) t) ∧ (¬ (q < L.length ∧ spb L q ≤ t) → Stands L q t) := by
  obtain ⟨h1, h2, h3⟩ := hs
  refine ⟨fun hc => ⟨by omega, fun j hj => ?_, fun j hj hl => ?_⟩, fun hc => ⟨h1, fun j hj => by have := h2 j hj; omega, fun j hj hl => ?_⟩⟩
  · by_cases hq : j < q
    · have := h2 j hq; omega
    · obtain rfl : j = q := by omega
      exact hc.2
  · have a1 := h3 q (Nat.le_refl _) hc.1
    have a2 := h.lt (i := q) (j := j) (by omega) hl
    have a3 := h.one j hl
    omega
  · have b1 : ¬ spb L q ≤ t := fun hx => hc ⟨by omega, hx⟩
    by_cases hq : j = q
    · subst hq; omega
    · have a2 := h.lt (i := q) (j := j) (by omega) hl
      have a3 := h.one j hl
      omega
end Go.Proofs.Ytkmelddejdikgaa
namespace Go.Proofs.Ytkmelddejdikgaa
open Go.RowKit PM Dt Pa Go.Shelf
def plO : Nat → Int
  | 0 => 100
  | 1 => 200
  | 2 => 1000
  | 7 => 536870912
  | _ => 0
set_option maxRecDepth 100000 in
theorem plO_w : winL plO (fun _ => 0) 0 10 = [(0, 10)] := by decide +kernel
set_option maxRecDepth 100000 in
theorem plO_e : winE plO (fun _ => 0) 0 10 = 0 := by decide +kernel
/-! ### What the windows are -/
theorem WInv.low' {v : Int → Bool} {a : Int} {k : Nat} {L : List (Int × Int)} (h : WInv v a k L) : ∀ i, i < L.length → a + i < spb L i := by
  intro i
  induction i with
  | zero => intro hi; have := h.one 0 hi; omega
  | succ i ih =>
    intro hi
    have h1 := ih (by omega)
    have h2 := h.two i hi
    have h3 := h.one (i + 1) hi
    omega
theorem WInv.len' {v : Int → Bool} {a : Int} {k : Nat} {L : List (Int × Int)} (h : WInv v a k L) : L.length ≤ k := by
  rcases Nat.eq_zero_or_pos L.length with h0 | h0
  · omega
  · have h1 := h.low' (L.length - 1) (by omega)
    have h2 := h.one (L.length - 1) (by omega)
    omega
/-- What the spans are. -/
structure SpOk (f g : Nat → Int) (a b : Int) (L : List (Int × Int)) : Prop where
  len : L.length ≤ 20000
  one : ∀ k, k < L.length → a ≤ (L.getD k (0, 0)).1 ∧ (L.getD k (0, 0)).1 < (L.getD k (0, 0)).2 ∧ (L.getD k (0, 0)).2 ≤ b
  see : ∀ k, k < L.length → ∀ t, (L.getD k (0, 0)).1 ≤ t → t < (L.getD k (0, 0)).2 → viewB f g t = true ∧ statE f g t = 0
theorem sp_ok (f g : Nat → Int) {a b : Int} (h0 : 0 ≤ a) (hb : b ≤ 1099511627776) : SpOk f g a b (winL f g a b) := by
  unfold winL
  by_cases ho : winOk f g a b
  · rw [if_pos ho]
    obtain ⟨h1, h2, h3, h4⟩ := ho
    have hM : ((b - a).toNat : Int) = b - a := by omega
    have hI := win_inv f g a h0 (b - a).toNat (by omega)
    refine ⟨by have := hI.len'; omega, fun k hk => ?_, fun k hk t ht1 ht2 => ?_⟩
    · have := hI.one k hk
      unfold spa spb at this
      omega
    · have h5 := hI.one k hk
      unfold spa spb at h5
      refine ⟨?_, ?_⟩
      · cases hv : viewB f g t with
        | true => rfl
        | false => exact absurd ⟨ht1, ht2⟩ (hI.mis t (by omega) (by omega) hv k hk)
      · unfold statE at h1 ⊢
        have ht : okT t = true := (okT_iff t).2 (by omega)
        cases e1 : okO f <;> rw [e1] at h1 <;> cases e2 : okS g <;> rw [e2] at h1 <;> cases e3 : okT a <;> rw [e3] at h1 <;> first | (rw [ht]; rfl) | cases h1
  · rw [if_neg ho]
    exact ⟨by simp, fun k hk => by simp at hk, fun k hk => by simp at hk⟩
theorem winE_02 (f g : Nat → Int) (a b : Int) : winE f g a b = 0 ∨ winE f g a b = 2 := by unfold winE; split <;> simp
theorem ws_mem (LL : Nat → List (Int × Int)) : ∀ (i : Nat) (x : Wn3), x ∈ ws LL i → ∃ j, j < i ∧ ∃ k, k < (LL j).length ∧ x = (((LL j).getD k (0, 0)).1, ((LL j).getD k (0, 0)).2, (j : Int))
  | 0, x, h => by simp [ws] at h
  | i + 1, x, h => by
    unfold ws wd at h
    rcases List.mem_append.1 h with h | h
    · obtain ⟨j, hj, r⟩ := ws_mem LL i x h
      exact ⟨j, by omega, r⟩
    · obtain ⟨p, hp, rfl⟩ := List.mem_map.1 h
      obtain ⟨k, hk, he⟩ := List.mem_iff_getElem.1 (List.mem_of_mem_take hp)
      refine ⟨i, by omega, k, hk, ?_⟩
      have : (LL i).getD k (0, 0) = p := by simp [List.getD, List.getElem?_eq_getElem hk, he]
      rw [this]
/-- What is known of the windows. -/
structure AllW (f : Nat → Int) (S : Nat → Nat → Int) (sn : Nat) (a b : Int) (n : Nat) (L : Nat → Nat → Int) : Prop where
  n12 : n ≤ 12
  w : WOk n L
  c : ∀ i, i < n → L i 4 = 1
  v : ∀ i, i < n → L i 3 = L i 1 - L i 0
  r : ∀ i, i < n → a ≤ L i 0 ∧ L i 1 ≤ b
  see : ∀ i, i < n → ∃ s : Nat, s < sn ∧ L i 2 = s ∧ ∀ t, L i 0 ≤ t → t < L i 1 → viewB f (S s) t = true ∧ statE f (S s) t = 0
theorem all_w (f : Nat → Int) (S : Nat → Nat → Int) {sn : Nat} (hs : sn ≤ 4) {a b : Int} (h0 : 0 ≤ a) (hb : b ≤ 1099511627776) : AllW f S sn a b (ws (fun i => winL f (S i) a b) sn).length (wL (ws (fun i => winL f (S i) a b) sn)) := by
  have key : ∀ i, i < (ws (fun i => winL f (S i) a b) sn).length → ∃ j : Nat, j < sn ∧ (wL (ws (fun i => winL f (S i) a b) sn) i 2 = j) ∧ (a ≤ wL (ws (fun i => winL f (S i) a b) sn) i 0 ∧ wL (ws (fun i => winL f (S i) a b) sn) i 0 < wL (ws (fun i => winL f (S i) a b) sn) i 1 ∧ wL (ws (fun i => winL f (S i) a b) sn) i 1 ≤ b) ∧ ∀ t, wL (ws (fun i => winL f (S i) a b) sn) i 0 ≤ t → t < wL (ws (fun i => winL f (S i) a b) sn) i 1 → viewB f (S j) t = true ∧ statE f (S j) t = 0 := by
    intro i hi
    obtain ⟨j, hj, k, hk, he⟩ := ws_mem (fun i => winL f (S i) a b) sn _ (List.getElem_mem hi)
    have hx : (ws (fun i => winL f (S i) a b) sn).getD i (0, 0, 0) = (((winL f (S j) a b).getD k (0, 0)).1, ((winL f (S j) a b).getD k (0, 0)).2, (j : Int)) := by
      rw [← he]; simp [List.getD, List.getElem?_eq_getElem hi]
    have hp := sp_ok f (S j) h0 hb
    have e0 : ∀ (O : List Wn3) i, wL O i 0 = (O.getD i (0, 0, 0)).1 := fun _ _ => rfl
    have e1 : ∀ (O : List Wn3) i, wL O i 1 = (O.getD i (0, 0, 0)).2.1 := fun _ _ => rfl
    have e2 : ∀ (O : List Wn3) i, wL O i 2 = (O.getD i (0, 0, 0)).2.2 := fun _ _ => rfl
    rw [e0, e1, e2, hx]
    exact ⟨j, hj, rfl, hp.one k hk, hp.see k hk⟩
  refine ⟨ws_len _ _, ⟨fun i hi => ?_, fun i hi => ?_, fun i hi => ?_, fun i hi => ?_⟩, fun i hi => rfl, fun i hi => rfl, fun i hi => ?_, fun i hi => ?_⟩
  · obtain ⟨j, hj, h1, h2, _⟩ := key i hi; omega
  · obtain ⟨j, hj, h1, h2, _⟩ := key i hi; omega
  · obtain ⟨j, hj, h1, h2, _⟩ := key i hi
    have : wL (ws (fun i => winL f (S i) a b) sn) i 3 = wL (ws (fun i => winL f (S i) a b) sn) i 1 - wL (ws (fun i => winL f (S i) a b) sn) i 0 := rfl
    omega
  · have : wL (ws (fun i => winL f (S i) a b) sn) i 4 = 1 := rfl
    omega
  · obtain ⟨j, hj, h1, h2, _⟩ := key i hi; omega
  · obtain ⟨j, hj, h1, _, h3⟩ := key i hi; exact ⟨j, hj, h1, h3⟩
/-- Where the passes so far end. -/
def edW (L : Nat → Nat → Int) (a : Int) (pl : List Nat) : Nat → Int
  | 0 => a
  | i + 1 => L (pl.getD i 0) 1
theorem ed_le {n : Nat} {L : Nat → Nat → Int} {gap a b : Int} {f : Nat → Int} {S : Nat → Nat → Int} {sn : Nat} (h : AllW f S sn a b n L) (hg : 0 ≤ gap) {pl : List Nat} (hc : chn n L gap (-1) pl) : ∀ i, i < pl.length → edW L a pl i ≤ L (pl.getD i 0) 0
  | 0, hi => by
    have : pl.getD 0 0 < n := chn_in pl _ hc _ (by simp [List.getD, List.getElem?_eq_getElem hi])
    exact (h.r _ this).1
  | i + 1, hi => by
    have h1 : pl.getD i 0 < n := chn_in pl _ hc _ (by simp [List.getD, List.getElem?_eq_getElem (show i < pl.length by omega)])
    have := chn_pr pl _ hc (i + 1) (by omega) hi
    exact fol_lt h.w hg h1 (by simpa using this)
theorem plan_in {n : Nat} {L : Nat → Nat → Int} {gap : Int} {pl : List Nat} (hc : chn n L gap (-1) pl) : ∀ k, k < pl.length → pl.getD k 0 < n := fun k hk => chn_in pl _ hc _ (by simp [List.getD, List.getElem?_eq_getElem hk])
end Go.Proofs.Ytkmelddejdikgaa
namespace Go.Proofs.Ytkmelddejdikgaa
open Go.RowKit PM Dt Pa Go.Shelf
/-- The cells of a sky. -/
def skc (x : (Nat → Int) × Value × Int × Int) : Array Value := #[.int .i64 (x.1 0), .int .i64 (x.1 1), .int .i64 (x.1 2), .int .u32 (x.1 3), .int .u32 (x.1 4), .int .u32 (x.1 5), .int .u32 (x.1 6), .int .i64 (x.1 7), x.2.1, .int .i64 x.2.2.1, .int .i64 x.2.2.2]
theorem sk_o (x : (Nat → Int) × Value × Int × Int) (j : Nat) (hj : j < (ofn x.1).size) : (skc x)[0 + j]? = (ofn x.1)[j]? := by
  rw [ofn_size] at hj
  rcases (show j = 0 ∨ j = 1 ∨ j = 2 ∨ j = 3 ∨ j = 4 ∨ j = 5 ∨ j = 6 ∨ j = 7 by omega) with rfl | rfl | rfl | rfl | rfl | rfl | rfl | rfl <;> rfl
/-- Pick. -/
def pickV (x m : Int) : Int := if x.tmod m < 0 then x.tmod m + m else x.tmod m
theorem pick_bd {x m : Int} (hm : 0 < m) : 0 ≤ pickV x m ∧ pickV x m < m := by
  have h1 := Int.tmod_lt_of_pos x hm
  have h2 := Int.lt_tmod_of_pos x hm
  unfold pickV
  split <;> omega
set_option maxRecDepth 100000 in
set_option maxHeartbeats 2000000 in
theorem pick_any (x m : Int) (w : World) (hm : 0 < m ∧ m ≤ 4611686018427387904) : Calls Try.prog 23 #[.int .i64 x, .int .i64 m] w fun e w' => e = .returned (.int .i64 (pickV x m)) ∧ Below w.heap.size w w' := by
  have h1 := Int.tmod_lt_of_pos x hm.1
  have h2 := Int.lt_tmod_of_pos x hm.1
  have hm0 : ¬ m = 0 := by omega
  have hm1 : (m == 0) = false := beq_eq_false_iff_ne.2 hm0
  have hw0 : IntKind.i64.wrap (x.tmod m) = x.tmod m := by rw [IntKind.wrap_i64]; omega
  have hw1 : x.tmod m < 0 → IntKind.i64.wrap (x.tmod m + m) = x.tmod m + m := fun h => by rw [IntKind.wrap_i64]; omega
  unfold pickV
  by_cases hc : x.tmod m < 0
  · rw [if_pos hc]
    replace hw1 := hw1 hc
    have dc : decide (x.tmod m < 0) = true := decide_eq_true hc
    clear h1 h2 hm hc
    go_enter Try.func23, Try.ntmps23
    go_wp2_with (fail)
    go_ret
    exact ⟨rfl, Below.refl _ _⟩
  · rw [if_neg hc]
    have dc : decide (x.tmod m < 0) = false := decide_eq_false hc
    clear h1 h2 hm hc hw1
    go_enter Try.func23, Try.ntmps23
    go_wp2_with (fail)
    go_ret
    exact ⟨rfl, Below.refl _ _⟩
theorem els_one (w : World) : Els (w.alloc (.cells #[.int .u32 0, .int .u32 0, .int .i64 0] 63)) (some ⟨w.heap.size, 0, none⟩) 1 3 (fun k => (stn ((fun _ _ => 0) k)).toList) := fun k hk => by
  have hk0 : k = 0 := by omega
  subst hk0
  have hb := blk.new w #[.int .u32 0, .int .u32 0, .int .i64 0] 63
  refine ⟨w.heap.size, 0, rfl, hb.lt, fun j u hj => ?_⟩
  have := hb.cellIs (i := j) (v := u) (by rw [← Array.getElem?_toList]; exact hj)
  simpa using this
theorem win_first {w w' : World} {e : Ending} (h : WinP (fun _ => 0) (fun _ => [(0, 10)]) 1 w e w') : ∃ a c, e = .returned (.tuple #[.slice a 1 c, .bool true]) ∧ Below w.heap.size w w' := by
  rcases h with ⟨_, ⟨i, _, hh⟩, _⟩ | ⟨v, _, rfl, own, hb⟩
  · exact absurd rfl hh
  · obtain ⟨a, c, rfl, _⟩ := els_row own
    exact ⟨a, c, rfl, hb⟩
theorem win_no {EE : Nat → Int} {LL : Nat → List (Int × Int)} {sn : Nat} {w w' : World} {e : Ending} (h : WinP EE LL sn w e w') (hn : ¬ ∀ i, i < sn → EE i = 0) : e = .returned (.tuple #[.slice none 0 0, .bool false]) ∧ Below w.heap.size w w' := by
  rcases h with ⟨h1, _, h3⟩ | ⟨v, h1, _⟩
  · exact ⟨h1, h3⟩
  · exact absurd h1 hn
theorem win_yes {EE : Nat → Int} {LL : Nat → List (Int × Int)} {sn : Nat} {w w' : World} {e : Ending} (h : WinP EE LL sn w e w') (hn : ∀ i, i < sn → EE i = 0) : ∃ a c, e = .returned (.tuple #[.slice a (ws LL sn).length c, .bool true]) ∧ Els w' a (ws LL sn).length 5 (fun k => (wnc (wL (ws LL sn) k)).toList) ∧ Below w.heap.size w w' := by
  rcases h with ⟨_, ⟨i, hi, hh⟩, _⟩ | ⟨v, _, rfl, own, hb⟩
  · exact absurd (hn i hi) hh
  · obtain ⟨a, c, rfl, hel⟩ := els_row own
    exact ⟨a, c, rfl, hel, hb⟩
/-- What the plan is. -/
structure PlOk (L : Nat → Nat → Int) (n : Nat) (g : Int × Int × Int) (pl : List Nat) : Prop where
  ch : chn n L g.1 (-1) pl
  fe : feasB L g.1 g.2.1 g.2.2 pl = true
  le : pl.length ≤ 40
  be : ∀ q : List Nat, (∀ i, i ∈ q → i < n) → feasB L g.1 g.2.1 g.2.2 q = true → sumF L 3 q ≤ sumF L 3 pl
theorem best_all {f : Nat → Int} {S : Nat → Nat → Int} {sn : Nat} {ta tb : Int} {n : Nat} {L : Nat → Nat → Int} (h : AllW f S sn ta tb n L) (g : Int × Int × Int) (hg : ruE g = 0) (a : Option Addr) (c : Nat) (w : World) (el : Els w a n 5 (fun k => (wnc (L k)).toList)) :
    Calls Try.prog 24 #[.slice a n c, .agg (ruc g)] w fun e w' => ∃ pa pc pl, e = .returned (.tuple #[.slice pa pl.length pc, .int .i64 0]) ∧ Pli w' pa pl ∧ PlOk L n g pl ∧ Below w.heap.size w w' := by
  obtain ⟨hg1, hg2, hg3⟩ := ru_ok hg
  have hk : min g.2.2 (n : Int) = ((min g.2.2 (n : Int)).toNat : Int) := by omega
  refine (best_any L a n c g _ _ w el h.w h.n12 hg h.c hk rfl).mono fun e w' hP => ?_
  obtain ⟨v, pl, last, k, bu, rfl, own, hp, hz, hb⟩ := hP
  obtain ⟨pa, pc, rfl, hpl, _⟩ := row_Pli own
  obtain ⟨h1, h2⟩ := best_law h.w hg1.1 h.c (bud := g.2.1) (most := g.2.2) hk.symm rfl hp hz
  have := h.n12
  exact ⟨pa, pc, pl, rfl, hpl, ⟨hp.ch, h1, by have := hp.le; omega, h2⟩, hb⟩
end Go.Proofs.Ytkmelddejdikgaa
namespace Go.Proofs.Ytkmelddejdikgaa
open Go.RowKit PM Dt Pa
theorem row_cells {w : World} {base g c : Nat} {q : List Nat} (h : w.ownsRow base 3 1 (.slice (some ⟨g, 0, none⟩) q.length c) q.length (plv q)) : ∀ j u, (plv q)[j]? = some u → w.cell? ((⟨g, 0, none⟩ : Addr).add j) = some u := fun j u hj => by
  rcases h.2 with ⟨h0, _⟩ | ⟨g', cap, cur, he, hb, hg, h1, h2, h3, h4⟩
  · cases h0
  · cases he
    have hb' : blk w g cur 3 := hg
    rw [← h4, List.getElem?_take] at hj
    split at hj
    · have h6 : cur[j]? = some u := by rw [← Array.getElem?_toList]; exact hj
      have hadd : (⟨g, 0, none⟩ : Addr).add j = ⟨g, j, none⟩ := by unfold Addr.add; split <;> simp_all
      rw [hadd]; exact hb'.cellIs h6
    · cases hj
theorem app_nil (w : World) (a : Addr) (ty : TypeId) : (Builtin.append_ #[58, 58] ty #[.slice (some a) 0 0, .slice none 0 0]).run Try.prog w = .ok (.slice (some a) 0 0) w := by
  obtain ⟨i0, hi, hz0, hz1, hz2⟩ := info_parts Try.infoInt
  simp [Builtin.append_, run_underlying Try.underlying58, sizeOf, typeInfo, zeroValue, hi, hz0, hz1, Builtin.lenOf, Builtin.firstCells, Question.forced, Result.andThen, storeCells]
/-- append of a slice's elements behind an empty one. -/
theorem wpList_append_copy {w : World} {ops : Array Oper} {rest : List Oper} {o : Oper} {a : Act} {Q : Exit → Act → World → Prop} (hgd : o.guard = none) (s x : Operand)
    (ho : o.op = .call { callee := .builtin .append, args := #[s, x], argTypes := #[58, 58] }) (base b0 nb : Nat) (hs : a.eval s = .slice (some ⟨nb, 0, none⟩) 0 0) (hown : w.ownsRow base 3 1 (.slice (some ⟨nb, 0, none⟩) 0 0) 0 [])
    (v : Value) (q : List Nat) (hx : a.eval x = v) (hv : w.ownsRow b0 3 1 v q.length (plv q)) (hq : q.length ≤ 30) (hbase : base ≤ w.heap.size)
    (h : ∀ v' w', w'.ownsRow base 3 1 v' q.length (plv q) → w.grownBy w' (some nb) → wpList Try.prog ops Q rest (a.put o.dst v') w') : wpList Try.prog ops Q (o :: rest) a w := by
  have hv2 := hv.2
  rcases hv2 with ⟨rfl, hq0⟩ | ⟨g, cap, cur, rfl, hb, hg, h1, h2, h3, h4⟩
  · have hqe : q = [] := List.eq_nil_of_length_eq_zero hq0
    subst hqe
    refine wpList_plain hgd fun K hK => ?_
    have hr := app_nil w ⟨nb, 0, none⟩ o.type
    unfold Oper.wp execOp
    simp only [ho, resolve, invoke, builtin, Sem.run_bind, Sem.run_pure, Result.andThen_ok, List.map_toArray, List.map_cons, List.map_nil, hs, hx, hr]
    exact hK _ _ (h _ _ hown ⟨rfl, rfl, rfl, Nat.le_refl _, fun _ _ _ => rfl⟩)
  · obtain ⟨i0, hi, hz0, hz1, hz2⟩ := info_parts Try.infoInt
    refine wpList_append_own w hgd s x 58 ho base 3 i0 (.int .i64 0) 1 8 Try.underlying58 hi hz0 hz1 hz2 rfl (by decide) _ 0 [] hs hown ⟨g, 0, none⟩ q.length cap (plv q) hx (by rw [plv_len]; omega) (row_cells (c := cap) hv) (fun u hu => by
      obtain ⟨k, _, rfl⟩ := List.mem_map.1 hu
      rfl) (by unfold maxLen; omega) (by omega) hbase fun v' w' h5 h6 _ => h v' w' (by rw [Nat.zero_add, List.nil_append] at h5; exact h5) h6
end Go.Proofs.Ytkmelddejdikgaa
namespace Go.Proofs.Ytkmelddejdikgaa
open Go.RowKit PM Dt Pa Go.Shelf
theorem feas_nil {Lw : Nat → Nat → Int} {gap bud most : Int} (h1 : 0 ≤ bud) (h2 : 0 ≤ most) : feasB Lw gap bud most [] = true := by
  unfold feasB
  simp [sumF, h1, h2]
theorem in_snoc {n : Nat} {q : List Nat} {p : Nat} (h : ∀ k, k < q.length → q.getD k 0 < n) (hp : p < n) : ∀ k, k < (q ++ [p]).length → (q ++ [p]).getD k 0 < n := fun k hk => by
  rcases Nat.lt_or_ge k q.length with h1 | h1
  · have := h k h1
    simpa [List.getD, List.getElem?_append_left h1] using this
  · have : k = q.length := by simp at hk; omega
    subst this
    simpa [List.getD] using hp
theorem plO_oo : OO plO := by
  refine ⟨⟨?_, ?_, ?_, ?_⟩, ?_, ?_, ?_, ?_⟩ <;> first | (unfold I64; decide) | (unfold U32; decide)
set_option maxRecDepth 100000 in
set_option maxHeartbeats 40000000 in
theorem toppasses_any (f : Nat → Int) (S : Nat → Nat → Int) (sa : Option Addr) (sn sc : Nat) (t0 t1 : Int) (g : Int × Int × Int) (oa : Option Addr) (on oc : Nat) (z : Nat → Int) (w : World) (hf : OO f) (els : Els w sa sn 3 (fun k => (stn (S k)).toList)) (hS : ∀ k, k < sn → SS (S k)) (ht0 : I64 t0) (ht1 : I64 t1) (elo : Els w oa on 1 (fun k => [.int .i64 (z k)])) : Calls Try.prog 7 #[.agg (skc (f, .slice sa sn sc, t0, t1)), .agg (ruc g), .slice oa on oc] w fun e w' => e = .returned (.bool true) ∧ Below w.heap.size w w' := by
  have W0 := Lib.hid (fun sa' w1 x1 => windows42_any plO (fun _ _ => 0) sa' 1 1 0 10 (fun _ => 0) (fun _ => [(0, 10)]) w1 x1 (by omega) (fun _ _ => .inl rfl) (fun i _ k hk => by
    have hk0 : k = 0 := by simpa using hk
    subst hk0
    exact ⟨by unfold I64; decide, by unfold I64; decide, by decide, by decide⟩) (fun _ _ => by decide) (fun _ _ w => by
    have h := windows_any plO (fun _ => 0) plO_oo ⟨by unfold U32; decide, by unfold U32; decide, by unfold I64; decide⟩ 0 10 (by unfold I64; decide) (by unfold I64; decide) w
    rw [plO_w, plO_e] at h
    exact h))
  have CK := Lib.hid (fun w1 => pcheck_any (fun _ _ => 0) none 0 0 g w1 (fun k hk => by omega) ⟨fun i hi => by omega, fun i hi => by omega, fun i hi => by omega, fun i hi => by omega⟩ (by omega))
  replace els := Lib.hid els
  replace elo := Lib.hid elo
  replace hS := Lib.hid hS
  replace hf := Lib.hid hf
  replace ht0 := Lib.hid ht0
  replace ht1 := Lib.hid ht1
  go_enter Try.func7, Try.ntmps7
  go_upto_region 1 with (fail)
  have x : blk ((w.alloc (.cells (skc (f, .slice sa sn sc, t0, t1)) 55)).alloc (.cells (ruc g) 57)) w.heap.size (skc (f, .slice sa sn sc, t0, t1)) 55 := (blk.new _ _ _).alloc _
  have u : blk ((w.alloc (.cells (skc (f, .slice sa sn sc, t0, t1)) 55)).alloc (.cells (ruc g) 57)) (w.heap.size + 1) (ruc g) 57 := blk.new' (by simp)
  have hB : Below w.heap.size w ((w.alloc (.cells (skc (f, .slice sa sn sc, t0, t1)) 55)).alloc (.cells (ruc g) 57)) := by go_grown
  generalize ((w.alloc (.cells (skc (f, .slice sa sn sc, t0, t1)) 55)).alloc (.cells (ruc g) 57)) = w0 at *
  have ne_x_u : w.heap.size ≠ w.heap.size + 1 := by omega
  have lt_x := x.lt
  have lt_u := u.lt
  have hW0 : w.heap.size ≤ w0.heap.size := by have := hB.size; first | exact this | simpa using this
  apply wp_region_Q 3 [0, 1, 3] [1] [_, (fun p => .pointer (some ⟨p 1, 0, none⟩)), (fun _ => undef)] (fun p L w' => w0.heap.size ≤ w'.heap.size ∧ Below w.heap.size w w' ∧ blk w' w.heap.size (skc (f, .slice sa sn sc, t0, t1)) 55 ∧ blk w' (w.heap.size + 1) (ruc g) 57 ∧ (L 1 = true → w0.heap.size ≤ p 1 ∧ blk w' (p 1) (bif L 2 then (ofn plO) else (ofn fun _ => 0)) 50)) _ [(0, 34), (1, 7)] [0, 1, 2]
  case hn => rfl
  case hB => kernel_rfl
  case hds => kernel_rfl
  case hA => (intro p; simp only [putsD, Act.put, List.setIfInBounds_toArray, List.set_cons_zero, List.set_cons_succ, List.getD_cons_zero, List.getD_cons_succ]; exact rfl)
  case h0 => exact fun p => ⟨Nat.le_refl _, hB, x, u, fun h => absurd h (by decide)⟩
  case hmore => exact fun p L w1 w2 ⟨hsz, hB, x, u, h_d⟩ hm => ⟨Nat.le_trans hsz hm.size, hB.trans (hm.mono (Nat.le_trans hW0 hsz)), x.below hm x.lt, u.below hm u.lt, fun hl => ⟨(h_d hl).1, (h_d hl).2.below hm (h_d hl).2.lt⟩⟩
  case hs =>
    intro more
    refine stepV 0 rfl rfl (fun _ _ _ h => h) ?_ ?_
    · intros; (try simp only [vfn, qfn]); go_simp; exact ⟨rfl, rfl⟩
    refine AllI.cons ?_ ?_
    · refine stepI_alloc 1 rfl (fun p => rfl) rfl (ofn fun _ => 0) 50 (fun p => rfl) ?_ ?_
      · intro p w1
        go_simp
        first | done | rfl | fail
      rintro p L w1 ⟨hsz, hB, x, u, h_d⟩ hk
      have L2 : L 2 = false := hk.2.2 2 rfl
      refine ⟨Nat.le_trans hsz (by simp), hB.alloc (Nat.le_trans (by first | exact hW0 | (have := hB.size; simp at this ⊢; omega)) hsz) _, x.alloc _, u.alloc _, fun _ => ⟨hsz, ?_⟩⟩
      rw [show upL L 1 2 = false from L2]
      exact blk.new _ _ _
    refine AllI.cons ?_ ?_
    · refine stepI_store 2 rfl (fun p => rfl) (fun p => rfl) _ _ _ rfl (fun p => p 1) 0 (fun p => rfl) (fun p => (ofn plO)) (fun p => rfl) (fun p => (ofn fun _ => 0)) (fun p => (ofn plO)) 50 (fun p => rfl) (fun p => by first | (rw [ofn_size, ofn_size]; decide) | simp [ofn_size, ofn_size]) (fun p => by rw [ofn_size]; kernel_rfl) (fun p => ofn_one _) ?_ ?_
      · rintro p L w1 ⟨hsz, hB, x, u, h_d⟩ hk
        have L2 : L 2 = false := hk.1
        have hh := (h_d (hk.2.1 1 rfl)).2
        rw [L2] at hh
        try simp only [cond_true, cond_false] at hh
        exact hh
      · rintro p L w1 ⟨hsz, hB, x, u, h_d⟩ hk
        have L2 : L 2 = false := hk.1
        skip
        have hp := h_d (hk.2.1 1 rfl)
        refine ⟨(by simpa using hsz), Below.setRow hB (by first | exact Nat.le_trans hW0 hp.1 | exact ge_d | omega | (have := hB.size; simp at this ⊢; omega)) _, x.rowOther (by first | exact Nat.ne_of_lt (Nat.lt_of_lt_of_le lt_x hp.1) | omega) _, u.rowOther (by first | exact Nat.ne_of_lt (Nat.lt_of_lt_of_le lt_u hp.1) | omega) _, fun _ => ⟨hp.1, ?_⟩⟩
        rw [show upL L 2 2 = true from rfl]
        exact hp.2.row _
    exact AllI.nil
  case hV0 =>
    intro p q
    refine AllI.cons ?_ ?_
    · skip
      iterate 3 (refine AllI.cons (by first | exact .inl rfl | (refine .inr ?_; simp only [List.getD_cons_zero, List.getD_cons_succ]; done) | exact .inr rfl) ?_)
      exact AllI.nil
    exact AllI.nil
  case he =>
  clear hB x u
  rintro p w0r ⟨hsz, hB, x, u, h_d⟩
  obtain ⟨le_d, d⟩ := h_d rfl
  clear h_d
  replace d : blk w0r (p 1) (ofn plO) 50 := d
  have ne_x_d : w.heap.size ≠ p 1 := Nat.ne_of_lt (Nat.lt_of_lt_of_le lt_x le_d)
  have ne_u_d : (w.heap.size + 1) ≠ p 1 := Nat.ne_of_lt (Nat.lt_of_lt_of_le lt_u le_d)
  have ge_d : w.heap.size ≤ p 1 := Nat.le_trans hW0 le_d
  generalize p 1 = d_b at *
  clear lt_x
  clear lt_u
  clear hsz hW0
  go_upto_region 3 with (first
    | (refine wpList_load_rowG ?hw _ _ rfl _ rfl _ _ _ _ d Try.underlying50 rfl ?hi ?_; (case hw => (first | rfl | (simp [Region.wanted, yielded]; done))); (case hi => (first | kernel_rfl | (rw [ofn_size]; kernel_rfl))))
    | (go_at_call 21; with_reducible refine (W0.out _ _ (els_one _)).mono ?_; rintro e w2 hP; obtain ⟨a1, c1, rfl, hb⟩ := win_first hP))
  replace hB := (hB.alloc hB.size (.cells #[.int .u32 0, .int .u32 0, .int .i64 0] 63)).trans (hb.mono (by have := hB.size; simp; omega))
  replace x := (x.alloc (.cells #[.int .u32 0, .int .u32 0, .int .i64 0] 63)).below hb (by have := x.lt; simp; omega)
  replace u := (u.alloc (.cells #[.int .u32 0, .int .u32 0, .int .i64 0] 63)).below hb (by have := u.lt; simp; omega)
  clear hb d W0 hP
  have cx8 : w2.cell? ⟨w.heap.size, 8, none⟩ = some (.slice sa sn sc) := x.cellIs rfl
  have cx9 : w2.cell? ⟨w.heap.size, 9, none⟩ = some (.int .i64 t0) := x.cellIs rfl
  have cx10 : w2.cell? ⟨w.heap.size, 10, none⟩ = some (.int .i64 t1) := x.cellIs rfl
  clear le_d ge_d ne_x_d ne_u_d
  by_cases q1 : 4 < sn
  · have d1 : decide ((4 : Int) < sn) = true := decide_eq_true (by omega)
    have d1' : decide (4 < sn) = true := decide_eq_true q1
    clear q1
    go_wp2_with (fail)
    go_ret
    exact ⟨rfl, hB⟩
  have d1 : decide ((4 : Int) < sn) = false := decide_eq_false (by omega)
  have d1' : decide (4 < sn) = false := decide_eq_false q1
  by_cases q2 : 30 < on
  · have d2 : decide ((30 : Int) < on) = true := decide_eq_true (by omega)
    have d2' : decide (30 < on) = true := decide_eq_true q2
    clear q1 q2
    go_wp2_with (fail)
    go_ret
    exact ⟨rfl, hB⟩
  have d2 : decide ((30 : Int) < on) = false := decide_eq_false (by omega)
  have d2' : decide (30 < on) = false := decide_eq_false q2
  cases d3 : decide (t0 < 0)
  case true =>
    clear q1 q2
    go_wp2_with (fail)
    go_ret
    exact ⟨rfl, hB⟩
  cases d4 : decide ((1073741824 : Int) < t0)
  case true =>
    clear q1 q2
    go_wp2_with (fail)
    go_ret
    exact ⟨rfl, hB⟩
  have hg02 : ruE g = 0 ∨ ruE g = 2 := by unfold ruE; split <;> simp
  rcases hg02 with hg0 | hg0
  case inr =>
    rw [hg0] at CK
    clear q1 q2 hg0
    go_wp2_with (first
      | (refine wpList_load_rowG ?hw _ _ rfl _ rfl _ _ _ _ u Try.underlying57 rfl ?hi ?_; (case hw => (first | rfl | (simp [Region.wanted, yielded]; done))); (case hi => (first | kernel_rfl | (rw [ruc_size]; kernel_rfl))))
      | (go_at_call 22; with_reducible refine (CK.out _).mono ?_; rintro e w3 ⟨rfl, hb⟩; replace hB := hB.trans (hb.mono hB.size); replace x := x.below hb x.lt; replace u := u.below hb u.lt; clear hb))
    go_ret
    exact ⟨rfl, hB⟩
  have qt : 0 ≤ t0 ∧ t0 ≤ 1073741824 := by have := of_decide_eq_false d3; have := of_decide_eq_false d4; omega
  rw [hg0] at CK
  replace hg0 := Lib.hid hg0
  replace qt := Lib.hid qt
  have hP := pick_bd (x := t1.tmod 1500) (m := 1500) (by omega)
  have PK := Lib.hid (fun w1 => pick_any (t1.tmod 1500) 1500 w1 (by omega))
  generalize hPv : pickV (t1.tmod 1500) 1500 = P at *
  clear hPv
  have hwt : IntKind.i64.wrap (t1.tmod 1500) = t1.tmod 1500 := by
    have h1 := Int.tmod_lt_of_pos t1 (show (0 : Int) < 1500 by omega)
    have h2 := Int.lt_tmod_of_pos t1 (show (0 : Int) < 1500 by omega)
    rw [IntKind.wrap_i64]; omega
  have hwP : IntKind.i64.wrap (t0 + P) = t0 + P := by have := qt.out; rw [IntKind.wrap_i64]; omega
  obtain ⟨tb, htb⟩ : ∃ tb, t0 + P = tb := ⟨_, rfl⟩
  have htb2 : t0 ≤ tb ∧ tb ≤ 1099511627776 := by have := qt.out; omega
  rw [htb] at hwP
  replace htb2 := Lib.hid htb2
  replace q1 := Lib.hid q1
  replace q2 := Lib.hid q2
  clear hP
  go_upto_region 7 with (first
    | (refine wpList_load_rowG ?hw _ _ rfl _ rfl _ _ _ _ u Try.underlying57 rfl ?hi ?_; (case hw => (first | rfl | (simp [Region.wanted, yielded]; done))); (case hi => (first | kernel_rfl | (rw [ruc_size]; kernel_rfl))))
    | (go_at_call 22; with_reducible refine (CK.out _).mono ?_; rintro e w3 ⟨rfl, hb⟩; replace hB := hB.trans (hb.mono hB.size); replace x := x.below hb x.lt; replace u := u.below hb u.lt; clear hb))
  clear CK d1 d1' d2 d2' d3 d4 cx8 cx9 cx10
  have cx8 : w3.cell? ⟨w.heap.size, 8, none⟩ = some (.slice sa sn sc) := x.cellIs rfl
  have cx9 : w3.cell? ⟨w.heap.size, 9, none⟩ = some (.int .i64 t0) := x.cellIs rfl
  have cx10 : w3.cell? ⟨w.heap.size, 10, none⟩ = some (.int .i64 t1) := x.cellIs rfl
  go_upto_region 9 with (go_at_call 23; with_reducible refine (PK.out _).mono ?_; rintro e w4 ⟨rfl, hb⟩; replace hB := hB.trans (hb.mono hB.size); replace x := x.below hb x.lt; replace u := u.below hb u.lt; clear hb)
  clear PK hwt hwP htb cx8 cx9 cx10
  have cx8 : w4.cell? ⟨w.heap.size, 8, none⟩ = some (.slice sa sn sc) := x.cellIs rfl
  have WJ := Lib.hid (fun w1 x1 => windows42_any f S sa sn sc t0 tb (fun i => winE f (S i) t0 tb) (fun i => winL f (S i) t0 tb) w1 x1 (by have := q1.out; omega) (fun i _ => winE_02 f (S i) t0 tb) (fun i hi k hk => by
    have h := (sp_ok f (S i) qt.out.1 htb2.out.2).one k hk
    have h2 := qt.out
    have h3 := htb2.out
    unfold I64; omega) (fun i hi => (sp_ok f (S i) qt.out.1 htb2.out.2).len) (fun i hi w => windows_any f (S i) hf.out (hS.out i hi) t0 tb ht0.out (by have := qt.out; have := htb2.out; unfold I64; omega) w))
  have hAW := Lib.hid (all_w f S (sn := sn) (by have := q1.out; omega) qt.out.1 htb2.out.2)
  by_cases hEE : ∀ i, i < sn → winE f (S i) t0 tb = 0
  case neg =>
    go_wp2_with (first
      | (refine wpList_load_part ?hw _ _ rfl _ 0 rfl _ _ x (ofn f) (sk_o (f, .slice sa sn sc, t0, t1)) _ Try.underlying50 rfl ?hi ?_; (case hw => (first | rfl | (simp [Region.wanted, yielded]; done))); (case hi => (rw [ofn_size]; kernel_rfl)))
      | (go_at_call 21; with_reducible refine (WJ.out _ (els.out.below hB (Nat.le_refl _))).mono ?_; rintro e w5 hP; obtain ⟨rfl, hb⟩ := win_no hP hEE; replace hB := hB.trans (hb.mono hB.size); replace x := x.below hb x.lt; replace u := u.below hb u.lt; clear hb))
    go_ret
    exact ⟨rfl, hB⟩
  have WY := Lib.hid (fun w1 x1 => (WJ.out w1 x1).mono fun e w' hP => win_yes hP hEE)
  clear WJ hEE
  generalize (ws (fun i => winL f (S i) t0 tb) sn).length = n at *
  generalize wL (ws (fun i => winL f (S i) t0 tb) sn) = Lw at *
  go_upto_region 10 with (first
    | (refine wpList_load_part ?hw _ _ rfl _ 0 rfl _ _ x (ofn f) (sk_o (f, .slice sa sn sc, t0, t1)) _ Try.underlying50 rfl ?hi ?_; (case hw => (first | rfl | (simp [Region.wanted, yielded]; done))); (case hi => (rw [ofn_size]; kernel_rfl)))
    | (go_at_call 21; with_reducible refine (WY.out _ (els.out.below hB (Nat.le_refl _))).mono ?_; rintro e w5 ⟨a, c, rfl, elw, hb⟩; replace hB := hB.trans (hb.mono hB.size); replace x := x.below hb x.lt; replace u := u.below hb u.lt; clear hb))
  clear WY cx8
  have BE := Lib.hid (fun w1 x1 => best_all hAW.out g hg0.out a c w1 x1)
  go_upto_region 13 with (first
    | (refine wpList_load_rowG ?hw _ _ rfl _ rfl _ _ _ _ u Try.underlying57 rfl ?hi ?_; (case hw => (first | rfl | (simp [Region.wanted, yielded]; done))); (case hi => (first | kernel_rfl | (rw [ruc_size]; kernel_rfl))))
    | (go_at_call 24; with_reducible refine (BE.out _ elw).mono ?_; rintro e w6 ⟨pa, pc, pl, rfl, hpl, hPO, hb⟩; replace hB := hB.trans (hb.mono hB.size); replace x := x.below hb x.lt; replace u := u.below hb u.lt; replace elw := elw.below hb (Nat.le_refl _); clear hb))
  clear BE
  replace hPO := Lib.hid hPO
  have hin := Lib.hid (plan_in hPO.out.ch)
  have FE := Lib.hid (fun w1 x1 x2 => feasible_any Lw a pa n c pc pl g w1 x1 hAW.out.w (by have := hAW.out.n12; omega) x2 hPO.out.le hin.out hg0.out)
  rw [hPO.out.fe] at FE
  have VA := Lib.hid (fun w1 x1 x2 => value_any Lw a pa n c pc pl w1 x1 hAW.out.w (by have := hAW.out.n12; omega) x2 hPO.out.le hin.out)
  go_upto_region 15 with (first
    | (refine wpList_load_rowG ?hw _ _ rfl _ rfl _ _ _ _ u Try.underlying57 rfl ?hi ?_; (case hw => (first | rfl | (simp [Region.wanted, yielded]; done))); (case hi => (first | kernel_rfl | (rw [ruc_size]; kernel_rfl))))
    | (go_at_call 25; with_reducible refine (FE.out _ elw hpl).mono ?_; rintro e w7 ⟨rfl, hb⟩; replace hB := hB.trans (hb.mono hB.size); replace x := x.below hb x.lt; replace u := u.below hb u.lt; replace elw := elw.below hb (Nat.le_refl _); replace hpl := hpl.below hb (Nat.le_refl _); clear hb)
    | (go_at_call 26; with_reducible refine (VA.out _ elw hpl).mono ?_; rintro e w8 ⟨rfl, hb⟩; replace hB := hB.trans (hb.mono hB.size); replace x := x.below hb x.lt; replace u := u.below hb u.lt; replace elw := elw.below hb (Nat.le_refl _); replace hpl := hpl.below hb (Nat.le_refl _); clear hb))
  clear FE VA
  replace els := Lib.hid (els.out.below hB (Nat.le_refl _))
  replace elo := Lib.hid (elo.out.below hB (Nat.le_refl _))
  have hB0 := Lib.hid hB
  clear hB
  obtain ⟨xb, hxb⟩ : ∃ xb, xb = w.heap.size := ⟨_, rfl⟩
  obtain ⟨wA, hwA⟩ : ∃ wA, wA = w := ⟨_, rfl⟩
  subst hwA
  rw [← hxb] at x u ne_x_u ⊢
  have hxlt := x.lt
  have hult := u.lt
  obtain ⟨w, hw8⟩ : ∃ w, w = w8 := ⟨_, rfl⟩
  subst hw8
  have hB : Below w.heap.size w w := Below.refl _ _
  replace hxb := Lib.hid hxb
  replace elw := Lib.hid elw
  replace hpl := Lib.hid hpl
  have SBv := Lib.hid (fun j => (sumB hAW.out.w hin.out hPO.out.le j).1)
  generalize hm : pl.length = m at *
  replace hm := Lib.hid hm
  have h0T : sumF Lw 3 (pl.take 0) = 0 := by simp [sumF]
  have STv := Lib.hid (fun j => sumF_take Lw 3 pl j)
  have hlast := Lib.hid (show sumF Lw 3 (pl.take pl.length) = sumF Lw 3 pl by rw [List.take_length])
  rw [hm.out] at hlast
  have hmle := hPO.out.le
  rw [hm.out] at hmle
  have hn12 := hAW.out.n12
  replace STv : Hid (∀ j, j < m → sumF Lw 3 (pl.take (j + 1)) = sumF Lw 3 (pl.take j) + Lw (pl.getD j 0) 3) := fun j hj => STv.out j (by rw [hm.out]; exact hj)
  go_wp2_with (fail)
  go_loopg [20, 21, 22] m (fun g_ tv ev iv wr => ∃ i : Nat, g_ + i = m ∧ iv = .int .i64 i ∧ tv = .int .i64 (sumF Lw 3 (pl.take i)) ∧ ev = .int .i64 (edW Lw t0 pl i) ∧ blk wr xb (skc (f, .slice sa sn sc, t0, t1)) 55 ∧ blk wr (xb + 1) (ruc g) 57 ∧ Below w.heap.size w wr)
  case atStart => exact ⟨0, by omega, rfl, by rw [h0T], rfl, x, u, hB⟩
  case round =>
    clear x u hB h0T
    obtain ⟨i, hig, rfl, rfl, rfl, x, u, hB⟩ := hrel
    by_cases him : i < m
    · have hdi : decide ((i : Int) < m) = true := decide_eq_true (by omega)
      have hdi' : decide (i < m) = true := decide_eq_true him
      have hi3 : (i : Int) < m := by omega
      have hi0 : (0 : Int) ≤ i := by omega
      have hwi : IntKind.i64.wrap ((i : Int) + 1) = ((i + 1 : Nat) : Int) := by rw [IntKind.wrap_i64]; omega
      obtain ⟨pb, po, rfl, hPl, hP⟩ := hpl.out i (by rw [hm.out]; exact him)
      have hz := hin.out i him
      have hed := ed_le hAW.out (ru_ok hg0.out).1.1 hPO.out.ch i (by rw [hm.out]; exact him)
      have hen : edW Lw t0 pl (i + 1) = Lw (pl.getD i 0) 1 := rfl
      have hst := STv.out i him
      have hsb := SBv.out i
      have hsb2 := SBv.out (i + 1)
      replace hP : w.rangeAt pb (po + i) [.int .i64 ((pl.getD i 0 : Nat) : Int)] := by rw [Nat.mul_one] at hP; exact hP
      generalize pl.getD i 0 = zi at *
      obtain ⟨fb, fo, rfl, hFl, hF⟩ := elw.out zi hz
      replace hF : w.rangeAt fb (fo + zi * 5) ((wnc (Lw zi)).toList) := hF
      have hdz : decide ((zi : Int) < n) = true := decide_eq_true (by omega)
      have hdz' : decide (zi < n) = true := decide_eq_true hz
      have hdz2 : decide ((n : Int) ≤ zi) = false := decide_eq_false (by omega)
      have hdz3 : decide (n ≤ zi) = false := decide_eq_false (by omega)
      have hdz4 : decide ((zi : Int) < 0) = false := decide_eq_false (by omega)
      have hz3 : (zi : Int) < n := by omega
      have hz0 : (0 : Int) ≤ zi := by omega
      have hv := hAW.out.v zi hz
      have hr := hAW.out.r zi hz
      have ha := hAW.out.w.a zi hz
      obtain ⟨si, hsi, hs2, hsee⟩ := hAW.out.see zi hz
      generalize Lw zi = wi at *
      obtain ⟨gb, go_, rfl, hGl, hG⟩ := els.out si hsi
      replace hG : w.rangeAt gb (go_ + si * 3) ((stn (S si)).toList) := hG
      have e1 : decide (wi 0 < edW Lw t0 pl i) = false := decide_eq_false (by omega)
      have e2 : decide (tb < wi 1) = false := decide_eq_false (by omega)
      have e3 : decide (wi 2 < 0) = false := decide_eq_false (by omega)
      have e4 : decide ((sn : Int) ≤ wi 2) = false := decide_eq_false (by omega)
      generalize edW Lw t0 pl i = ed at *
      rw [hst, hv] at hsb2
      rw [hv] at hst
      generalize sumF Lw 3 (pl.take i) = S0 at *
      replace hst := Lib.hid hst
      replace hen := Lib.hid hen
      replace hsee := Lib.hid hsee
      replace hs2 := Lib.hid hs2
      obtain ⟨M, hM⟩ : ∃ M : Nat, wi 1 = wi 0 + M := ⟨(wi 1 - wi 0).toNat, by omega⟩
      have hbig : S0 + M ≤ 43980465111040 ∧ 0 ≤ S0 ∧ wi 0 + M ≤ 1099511627776 ∧ 0 ≤ wi 0 := by have := htb2.out; omega
      replace hbig := Lib.hid hbig
      replace hM := Lib.hid hM
      have cp : wr.cell? ⟨pb, po + i, none⟩ = some (.int .i64 (zi : Int)) := (range_below hP hB hPl) 0 _ rfl
      clear hv hr ha hed hsb hsb2
      go_upto_region 23 with (fail)
      clear cp
      have lt_x := x.lt
      have lt_u := u.lt
      have hW0 : w.heap.size ≤ wr.heap.size := by have := hB.size; first | exact this | simpa using this
      apply wp_region_Q 9 [0, 1, 3, 7, 15, 31, 63, 127, 255] [7] [_, _, _, _, _, _, _, (fun p => .pointer (some ⟨p 7, 0, none⟩)), (fun _ => undef)] (fun p L w' => wr.heap.size ≤ w'.heap.size ∧ Below w.heap.size w w' ∧ blk w' xb (skc (f, .slice (some ⟨gb, go_, none⟩) sn sc, t0, t1)) 55 ∧ blk w' (xb + 1) (ruc g) 57 ∧ (L 7 = true → wr.heap.size ≤ p 7 ∧ blk w' (p 7) (bif L 8 then (wnc wi) else (wnc fun _ => 0)) 72)) _ [(0, 151), (1, 152), (2, 153), (3, 154), (4, 155), (5, 156), (6, 157), (7, 23)] [0, 1, 2, 3, 4, 5, 6, 7, 8]
      case hn => rfl
      case hB => kernel_rfl
      case hds => kernel_rfl
      case hA => (intro p; simp only [putsD, Act.put, List.setIfInBounds_toArray, List.set_cons_zero, List.set_cons_succ, List.getD_cons_zero, List.getD_cons_succ]; exact rfl)
      case h0 => exact fun p => ⟨Nat.le_refl _, hB, x, u, fun h => absurd h (by decide)⟩
      case hmore => exact fun p L w1 w2 ⟨hsz, hB, x, u, h_y⟩ hm => ⟨Nat.le_trans hsz hm.size, hB.trans (hm.mono (Nat.le_trans hW0 hsz)), x.below hm x.lt, u.below hm u.lt, fun hl => ⟨(h_y hl).1, (h_y hl).2.below hm (h_y hl).2.lt⟩⟩
      case hs =>
        intro more
        iterate 4 (refine stepV _ rfl rfl (fun _ _ _ h => h) (by intros; go_simp; exact ⟨rfl, rfl⟩) ?_)
        refine stepV 4 rfl rfl (fun _ _ _ h => h) ?_ ?_
        · rintro p L w1 ⟨hsz, hB, x, u, h_y⟩ hk
          have hr := range_below hP hB hPl
          have hc : w1.cell? ⟨pb, po + i, none⟩ = some (.int .i64 (zi : Int)) := hr 0 _ rfl
          go_simp
          exact ⟨rfl, rfl⟩
        refine stepV _ rfl rfl (fun _ _ _ h => h) (by intros; go_simp; exact ⟨rfl, rfl⟩) ?_
        refine stepV 6 rfl rfl (fun _ _ _ h => h) ?_ ?_
        · rintro p L w1 ⟨hsz, hB, x, u, h_y⟩ hk
          have hr := range_below hF hB hFl
          exact valR_range _ _ rfl _ _ rfl _ (fo + zi * 5) 0 hr (by first | rfl | omega) (wnc wi) (wnc_get wi) _ Try.underlying72 rfl (by rw [wnc_size]; kernel_rfl) rfl
        refine AllI.cons ?_ ?_
        · refine stepI_alloc 7 rfl (fun p => rfl) rfl (wnc fun _ => 0) 72 (fun p => rfl) ?_ ?_
          · intro p w1
            go_simp
            first | done | rfl | rw [zero_wnc]
          rintro p L w1 ⟨hsz, hB, x, u, h_y⟩ hk
          have L8 : L 8 = false := hk.2.2 8 rfl
          refine ⟨Nat.le_trans hsz (by simp), hB.alloc (Nat.le_trans (by first | exact hW0 | (have := hB.size; simp at this ⊢; omega)) hsz) _, x.alloc _, u.alloc _, fun _ => ⟨hsz, ?_⟩⟩
          rw [show upL L 7 8 = false from L8]
          exact blk.new _ _ _
        refine AllI.cons ?_ ?_
        · refine stepI_store 8 rfl (fun p => rfl) (fun p => rfl) _ _ _ rfl (fun p => p 7) 0 (fun p => rfl) (fun p => (wnc wi)) (fun p => rfl) (fun p => (wnc fun _ => 0)) (fun p => (wnc wi)) 72 (fun p => over_wnc _ _) (fun p => by first | (rw [wnc_size, wnc_size]; decide) | simp [wnc_size, wnc_size]) (fun p => by rw [wnc_size]; kernel_rfl) (fun p => wnc_one _) ?_ ?_
          · rintro p L w1 ⟨hsz, hB, x, u, h_y⟩ hk
            have L8 : L 8 = false := hk.1
            have hh := (h_y (hk.2.1 7 rfl)).2
            rw [L8] at hh
            try simp only [cond_true, cond_false] at hh
            exact hh
          · rintro p L w1 ⟨hsz, hB, x, u, h_y⟩ hk
            have L8 : L 8 = false := hk.1
            skip
            have hp := h_y (hk.2.1 7 rfl)
            refine ⟨(by simpa using hsz), Below.setRow hB (by first | exact Nat.le_trans hW0 hp.1 | exact ge_y | omega | (have := hB.size; simp at this ⊢; omega)) _, x.rowOther (by first | exact Nat.ne_of_lt (Nat.lt_of_lt_of_le lt_x hp.1) | omega) _, u.rowOther (by first | exact Nat.ne_of_lt (Nat.lt_of_lt_of_le lt_u hp.1) | omega) _, fun _ => ⟨hp.1, ?_⟩⟩
            rw [show upL L 8 8 = true from rfl]
            exact hp.2.row _
        exact AllI.nil
      case hV0 =>
        intro p q
        refine AllI.cons ?_ ?_
        · skip
          iterate 9 (refine AllI.cons (by first | exact .inl rfl | (refine .inr ?_; simp only [List.getD_cons_zero, List.getD_cons_succ]; done) | exact .inr rfl) ?_)
          exact AllI.nil
        exact AllI.nil
      case he =>
      clear hB x u
      rintro p wrr ⟨hsz, hB, x, u, h_y⟩
      obtain ⟨le_y, y⟩ := h_y rfl
      clear h_y
      replace y : blk wrr (p 7) (wnc wi) 72 := y
      have ne_x_y : xb ≠ p 7 := Nat.ne_of_lt (Nat.lt_of_lt_of_le lt_x le_y)
      have ne_u_y : (xb + 1) ≠ p 7 := Nat.ne_of_lt (Nat.lt_of_lt_of_le lt_u le_y)
      have ge_y : w.heap.size ≤ p 7 := Nat.le_trans hW0 le_y
      generalize p 7 = y_b at *
      clear lt_x
      clear lt_u
      clear hsz hW0
      have cy0 : wrr.cell? ⟨y_b, 0, none⟩ = some (.int .i64 (wi 0)) := y.cellIs rfl
      have cy1 : wrr.cell? ⟨y_b, 1, none⟩ = some (.int .i64 (wi 1)) := y.cellIs rfl
      have cy2 : wrr.cell? ⟨y_b, 2, none⟩ = some (.int .i64 (wi 2)) := y.cellIs rfl
      have cx8 : wrr.cell? ⟨xb, 8, none⟩ = some (.slice (some ⟨gb, go_, none⟩) sn sc) := x.cellIs rfl
      go_wp2_with (fail)
      clear cy0 cy1 cy2 cx8 e1 e2 e3 e4
      go_loopg [20, 24] M (fun h_ tv cv wr => ∃ k : Nat, h_ + k = M ∧ tv = .int .i64 (S0 + k) ∧ cv = .int .i64 (wi 0 + k) ∧ blk wr xb (skc (f, .slice (some ⟨gb, go_, none⟩) sn sc, t0, t1)) 55 ∧ blk wr (xb + 1) (ruc g) 57 ∧ blk wr y_b (wnc wi) 72 ∧ Below w.heap.size w wr)
      case atStart => exact ⟨0, by omega, by simp, by simp, x, u, y, hB⟩
      case round =>
        clear x u y hB ge_y ne_x_y ne_u_y le_y
        obtain ⟨k, hkg, rfl, rfl, x, u, y, hB⟩ := hrel
        have hb1 := hbig.out
        by_cases hkM : k < M
        · have dk : decide (wi 0 + (k : Int) < wi 0 + M) = true := decide_eq_true (by omega)
          have hwk1 : IntKind.i64.wrap (wi 0 + k + 1) = wi 0 + ((k + 1 : Nat) : Int) := by rw [IntKind.wrap_i64]; omega
          have hwk2 : IntKind.i64.wrap (S0 + k + 1) = S0 + ((k + 1 : Nat) : Int) := by rw [IntKind.wrap_i64]; omega
          have cy1 : wr.cell? ⟨y_b, 1, none⟩ = some (.int .i64 (wi 0 + M)) := by rw [← hM.out]; exact y.cellIs rfl
          have dk' : decide (k < M) = true := decide_eq_true hkM
          have dk2 : decide ((k : Int) < M) = true := decide_eq_true (by omega)
          have hv := hsee.out (wi 0 + k) (by omega) (by rw [hM.out]; omega)
          have IV := Lib.hid (fun w1 => inview_any f (S si) (wi 0 + k) w1 hf.out (hS.out si hsi))
          rw [hv.1, hv.2] at IV
          clear hv hb1
          have hds : decide ((si : Int) < sn) = true := decide_eq_true (by omega)
          have hds' : decide (si < sn) = true := decide_eq_true hsi
          have hs3 : (si : Int) < sn := by omega
          have hs0 : (0 : Int) ≤ si := by omega
          go_upto_region 29 with (fail)
          clear cy1
          have lt_x := x.lt
          have lt_u := u.lt
          have lt_y := y.lt
          have hW0 : w.heap.size ≤ wr.heap.size := by have := hB.size; first | exact this | simpa using this
          apply wp_region_I 15 [0, 1, 0, 4, 0, 16, 60, 124, 0, 511, 1023, 2047, 2047, 4095, 16383] [] [_, _, _, _, _, _, _, _, _, _, _, _, _, _, _] (fun p L w' => wr.heap.size ≤ w'.heap.size ∧ Below w.heap.size w w' ∧ blk w' xb (skc (f, .slice (some ⟨gb, go_, none⟩) sn sc, t0, t1)) 55 ∧ blk w' (xb + 1) (ruc g) 57 ∧ blk w' y_b (wnc wi) 72) _ [(0, 190), (1, 191), (2, 192), (3, 193), (4, 194), (5, 195), (6, 196), (7, 197), (8, 198), (9, 199), (10, 189), (11, 200), (12, 201), (13, 25), (14, 26)] [0, 1, 2, 3, 4, 5, 6, 7, 8, 9, 10, 11, 12, 13, 14]
          case hn => rfl
          case hm => kernel_rfl
          case hB => kernel_rfl
          case hds => kernel_rfl
          case hA => (intro p; simp only [putsD, Act.put, List.setIfInBounds_toArray, List.set_cons_zero, List.set_cons_succ, List.getD_cons_zero, List.getD_cons_succ]; exact rfl)
          case h0 => exact fun p => ⟨Nat.le_refl _, hB.drew, x.drew, u.drew, y.drew⟩
          case hmore => exact fun p L w1 w2 ⟨hsz, hB, x, u, y⟩ hm => ⟨Nat.le_trans hsz hm.size, hB.trans (hm.mono (Nat.le_trans hW0 hsz)), x.below hm x.lt, u.below hm u.lt, y.below hm y.lt⟩
          case hs =>
            intro more
            refine stepV _ rfl rfl (fun _ _ _ h => h) (by intros; go_simp; exact ⟨rfl, rfl⟩) ?_
            refine stepV 1 rfl rfl (fun _ _ _ h => h) ?_ ?_
            · rintro p L w1 ⟨hsz, hB, x, u, y⟩ hk
              exact valR_part _ _ rfl _ 0 rfl _ _ x (ofn f) (sk_o (f, .slice (some ⟨gb, go_, none⟩) sn sc, t0, t1)) _ Try.underlying50 rfl (by rw [ofn_size]; kernel_rfl) rfl
            refine stepV _ rfl rfl (fun _ _ _ h => h) (by intros; go_simp; exact ⟨rfl, rfl⟩) ?_
            refine stepV 3 rfl rfl (fun _ _ _ h => h) ?_ ?_
            · rintro p L w1 ⟨hsz, hB, x, u, y⟩ hk
              have hc : w1.cell? ⟨xb, 8, none⟩ = some (.slice (some ⟨gb, go_, none⟩) sn sc) := x.cellIs rfl
              go_simp
              exact ⟨rfl, rfl⟩
            refine stepV _ rfl rfl (fun _ _ _ h => h) (by intros; go_simp; exact ⟨rfl, rfl⟩) ?_
            refine stepV 5 rfl rfl (fun _ _ _ h => h) ?_ ?_
            · rintro p L w1 ⟨hsz, hB, x, u, y⟩ hk
              have hc : w1.cell? ⟨y_b, 2, none⟩ = some (.int .i64 (si : Int)) := by rw [← hs2.out]; exact y.cellIs rfl
              go_simp
              exact ⟨rfl, rfl⟩
            refine stepV _ rfl rfl (fun _ _ _ h => h) (by intros; go_simp; exact ⟨rfl, rfl⟩) ?_
            refine stepV 7 rfl rfl (fun _ _ _ h => h) ?_ ?_
            · rintro p L w1 ⟨hsz, hB, x, u, y⟩ hk
              have hr := range_below hG hB hGl
              exact valR_range _ _ rfl _ _ rfl _ (go_ + si * 3) 0 hr (by first | rfl | omega) (stn (S si)) (fun j _ => by rw [Nat.zero_add, Array.getElem?_toList]) _ Try.underlying63 rfl (by rw [stn_size]; kernel_rfl) rfl
            refine stepV _ rfl rfl (fun _ _ _ h => h) (by intros; go_simp; exact ⟨rfl, rfl⟩) ?_
            refine stepD 9 rfl (fun p => rfl) (fun _ _ _ h => h) more ?_ ?_
            · rintro p L w1 ⟨hsz, hB, x, u, y⟩ hk
              go_simp
              refine (IV.out _).mono ?_
              rintro e w2 ⟨rfl, h2⟩
              first | exact ⟨rfl, h2⟩ | (subst h2; exact ⟨rfl, Below.refl _ _⟩)
            iterate 5 (refine stepV _ rfl rfl (fun _ _ _ h => h) (by intros; go_simp; exact ⟨rfl, rfl⟩) ?_)
            exact AllI.nil
          case hV0 => exact fun p q => AllI.nil
          case he =>
          clear hB x u y
          rintro p wrr ⟨hsz, hB, x, u, y⟩
          clear lt_x
          clear lt_u
          clear lt_y
          clear hsz hW0
          clear IV
          go_wp2_with (fail)
          go_roundg (M - (k + 1))
          case rel => exact ⟨k + 1, by omega, by first | rfl | (congr 1; omega), by first | rfl | (congr 1; omega), x, u, y, hB⟩
          case measure => omega
        · obtain rfl : k = M := by omega
          have cy1 : wr.cell? ⟨y_b, 1, none⟩ = some (.int .i64 (wi 0 + k)) := by rw [← hM.out]; exact y.cellIs rfl
          have dk : decide (wi 0 + (k : Int) < wi 0 + k) = false := decide_eq_false (by omega)
          have dk' : decide (k < k) = false := decide_eq_false (by omega)
          clear hb1
          go_wp2_with (fail)
          go_roundg (m - (i + 1))
          case rel => exact ⟨i + 1, by omega, rfl, by rw [hst.out, hM.out]; congr 1; omega, by rw [hen.out, hM.out], x, u, hB⟩
          case measure => omega
    · obtain rfl : m = i := by omega
      have hdi : decide ((m : Int) < m) = false := decide_eq_false (by omega)
      have hdi' : decide (m < m) = false := decide_eq_false (by omega)
      rw [hlast.out]
      clear hig him STv hpl x
      obtain ⟨i0, hi, hz0, hz1, hz2⟩ := info_parts Try.infoInt
      go_wp2_with (fail)
      go_loopg [27, 28] on (fun h_ tv iv wr => ∃ (i : Nat) (q : List Nat) (v : Value), v = tv ∧ h_ + i = on ∧ iv = .int .i64 i ∧ q.length ≤ i ∧ Hid ((∀ k, k < q.length → q.getD k 0 < n) ∧ feasB Lw g.1 g.2.1 g.2.2 q = true) ∧ wr.ownsRow w.heap.size 3 1 v q.length (plv q) ∧ blk wr (xb + 1) (ruc g) 57 ∧ Below w.heap.size w wr)
      case atStart => exact ⟨0, [], _, rfl, by omega, rfl, Nat.le_refl _, ⟨fun k hk => by simp at hk, feas_nil (ru_ok hg0.out).2.1.1 (ru_ok hg0.out).2.2.1⟩, World.ownsRow_nil _ _ _ _, u, hB⟩
      case round =>
        clear u hB
        obtain ⟨i, q, v, rfl, hig, rfl, hqi, hq, own, u, hB⟩ := hrel
        have hwi : IntKind.i64.wrap ((i : Int) + 1) = ((i + 1 : Nat) : Int) := by have := q2.out; rw [IntKind.wrap_i64]; omega
        by_cases hc : i < on ∧ 0 < n
        · obtain ⟨ob, oo, rfl, hOl, hO⟩ := elo.out i hc.1
          replace hO : w.rangeAt ob (oo + i) [.int .i64 (z i)] := by rw [Nat.mul_one] at hO; exact hO
          have hdi : decide ((i : Int) < on) = true := decide_eq_true (by omega)
          have hdi' : decide (i < on) = true := decide_eq_true hc.1
          have hdn : decide ((0 : Int) < n) = true := decide_eq_true (by omega)
          have hdn' : decide (0 < n) = true := decide_eq_true hc.2
          have hi3 : (i : Int) < on := by omega
          have hi0 : (0 : Int) ≤ i := by omega
          have hpk := pick_bd (x := z i) (m := (n : Int)) (by omega)
          have PK := Lib.hid (fun w1 => pick_any (z i) (n : Int) w1 (by omega))
          obtain ⟨p, hp⟩ : ∃ p : Nat, pickV (z i) n = p := ⟨(pickV (z i) n).toNat, by omega⟩
          rw [hp] at hpk PK
          have hpn : p < n := by omega
          clear hp hpk
          have hq30 : q.length ≤ 30 := by have := q2.out; omega
          have hin2 := Lib.hid (in_snoc hq.out.1 hpn)
          have FE := Lib.hid (fun pa pc w1 x1 x2 => feasible_any Lw a pa n c pc (q ++ [p]) g w1 x1 hAW.out.w (by omega) x2 (by simp; omega) hin2.out hg0.out)
          have hql : (q ++ [p]).length = q.length + 1 := by simp
          generalize hfe : feasB Lw g.1 g.2.1 g.2.2 (q ++ [p]) = fe at *
          replace hfe := Lib.hid hfe
          generalize hlq : (q ++ [p]).length = lq at *
          replace hlq := Lib.hid hlq
          replace hql := Lib.hid hql
          clear hc
          go_upto_region 38 with (fail)
          refine wp_region_E 13 99 (fun w' => w'.cell? ⟨ob, oo + i, none⟩ = some (.int .i64 (z i))) rfl (by kernel_rfl) ?_
          replace own := ownsRow_drew own
          replace u := u.drew
          replace hB : Below w.heap.size w wr.drew := hB.drew
          generalize wr.drew = wd at *
          have co2 : ∀ w', Below w.heap.size w w' → w'.cell? ⟨ob, oo + i, none⟩ = some (.int .i64 (z i)) := fun w' hb => (range_below hO hb hOl) 0 _ rfl
          replace co2 := Lib.hid co2
          have co := co2.out _ hB
          clear hO
          apply wpE_take 1; (case ho' => exact rfl); (case hg => exact rfl); (case hB => kernel_rfl); (case hQ => exact fun _ _ _ h => h); (case hS => exact co); (case h => (intro wx co; go_simp; exact ⟨rfl, rfl⟩))
          simp only [Act.put, List.setIfInBounds_toArray, List.set_cons_zero, List.set_cons_succ]
          apply wpE_take 3; (case ho' => exact rfl); (case hg => exact rfl); (case hB => kernel_rfl); (case hQ => exact fun _ _ _ h => h); (case hS => exact co); (case h => (intro wx co; go_simp; exact ⟨rfl, rfl⟩))
          simp only [Act.put, List.setIfInBounds_toArray, List.set_cons_zero, List.set_cons_succ]
          apply wpE_take 4; (case ho' => exact rfl); (case hg => exact rfl); (case hB => kernel_rfl); (case hQ => exact fun _ _ _ h => h); (case hS => exact co); (case h => (intro wx co; go_simp; exact ⟨rfl, rfl⟩))
          simp only [Act.put, List.setIfInBounds_toArray, List.set_cons_zero, List.set_cons_succ]
          apply wpE_take 5; (case ho' => exact rfl); (case hg => exact rfl); (case hB => kernel_rfl); (case hQ => exact fun _ _ _ h => h); (case hS => exact co); (case h => (intro wx co; go_simp; exact ⟨rfl, rfl⟩))
          simp only [Act.put, List.setIfInBounds_toArray, List.set_cons_zero, List.set_cons_succ]
          apply wpE_take 6; (case ho' => exact rfl); (case hg => exact rfl); (case hB => kernel_rfl); (case hQ => exact fun _ _ _ h => h); (case hS => exact co); (case h => (intro wx co; go_simp; exact ⟨rfl, rfl⟩))
          simp only [Act.put, List.setIfInBounds_toArray, List.set_cons_zero, List.set_cons_succ]
          apply wpE_take 7; (case ho' => exact rfl); (case hg => exact rfl); (case hB => kernel_rfl); (case hQ => exact fun _ _ _ h => h); (case hS => exact co); (case h => (intro wx co; go_simp; exact ⟨rfl, rfl⟩))
          simp only [Act.put, List.setIfInBounds_toArray, List.set_cons_zero, List.set_cons_succ]
          apply wpE_take 8; (case ho' => exact rfl); (case hg => exact rfl); (case hB => kernel_rfl); (case hQ => exact fun _ _ _ h => h); (case hS => exact co); (case h => (intro wx co; go_simp; exact ⟨rfl, rfl⟩))
          simp only [Act.put, List.setIfInBounds_toArray, List.set_cons_zero, List.set_cons_succ]
          refine wpE_one 0 rfl (by kernel_rfl) ?_
          go_wp2_with (fail)
          obtain ⟨nb, hnb⟩ : ∃ nb, nb = wd.heap.size := ⟨_, rfl⟩
          have hnw : w.heap.size ≤ nb := by rw [hnb]; exact hB.size
          have own1 : (wd.alloc (.cells #[] 3)).ownsRow nb 3 1 (.slice (some ⟨nb, 0, none⟩) 0 0) 0 [] := by rw [hnb]; exact World.ownsRow_made wd #[] 0 (Nat.le_refl _) (by decide) rfl
          have hW : Below nb wd (wd.alloc (.cells #[] 3)) := by rw [hnb]; exact (Below.refl _ _).alloc (Nat.le_refl _) _
          have hbz : nb ≤ (wd.alloc (.cells #[] 3)).heap.size := by rw [hnb]; simp
          have ownd := own
          replace ownd := Lib.hid ownd
          have hltd : ∀ k, v.ownBlock = some k → k < nb := fun k hk => by rw [hnb]; exact (own.lt k hk).2
          replace hltd := Lib.hid hltd
          have hun : xb + 1 < nb := by rw [hnb]; exact u.lt
          replace own := ownsRow_keep own (fun k hk => hW.block k (hltd.out k hk))
          simp only [← hnb]
          generalize (wd.alloc (.cells #[] 3)) = wb at *
          clear hnb
          refine Nh_ok ⟨fun _ => co2.out _ (hB.trans (hW.mono hnw)), ?_⟩
          try simp only [Act.put, List.setIfInBounds_toArray, List.set_cons_zero, List.set_cons_succ]
          refine wpE_one 2 rfl (by kernel_rfl) ?_
          go_wp2_with (at_builtin; refine wpList_append_copy rfl _ _ rfl nb w.heap.size nb rfl own1 v q rfl own hq30 hbz ?_; intro v2 w2 own2 hg2)
          replace hW : Below nb wd w2 := hW.trans (show Below nb wb w2 from ⟨hg2.os, hg2.tape, hg2.output, hg2.size, fun k hk => hg2.block k (by omega) (fun e => by cases e; omega)⟩)
          have hbz2 : nb ≤ w2.heap.size := Nat.le_trans hbz hg2.size
          clear own1 hg2 own hbz
          refine Nh_ok ⟨fun _ => co2.out _ (hB.trans (hW.mono hnw)), ?_⟩
          try simp only [Act.put, List.setIfInBounds_toArray, List.set_cons_zero, List.set_cons_succ]
          refine wpE_one 9 rfl (by kernel_rfl) ?_
          go_wp2_with (go_at_call 23; with_reducible refine (PK.out _).mono ?_; rintro e w3 ⟨rfl, hb⟩)
          replace own2 := ownsRow_keep own2 (fun k hk => hb.block k (own2.lt k hk).2)
          replace hW := hW.trans (hb.mono hbz2)
          replace hbz2 := Nat.le_trans hbz2 hb.size
          clear hb PK
          refine Nh_ok ⟨fun _ => co2.out _ (hB.trans (hW.mono hnw)), ?_⟩
          try simp only [Act.put, List.setIfInBounds_toArray, List.set_cons_zero, List.set_cons_succ]
          refine wpE_one 10 rfl (by kernel_rfl) ?_
          go_wp2_with (fail)
          have hcn := cell_new w3 (.int .i64 (p : Int)) 3
          replace own2 : (w3.alloc (.cells #[.int .i64 (p : Int)] 3)).ownsRow nb 3 1 v2 q.length (plv q) := ownsRow_keep own2 (fun k hk => ((Below.refl w3.heap.size w3).alloc (Nat.le_refl _) (.cells #[.int .i64 (p : Int)] 3)).block k (own2.lt k hk).2)
          replace hW := hW.alloc hbz2 (.cells #[.int .i64 (p : Int)] 3)
          replace hbz2 : nb ≤ (w3.alloc (.cells #[.int .i64 (p : Int)] 3)).heap.size := by simp; omega
          generalize (w3.alloc (.cells #[.int .i64 (p : Int)] 3)) = w4 at *
          generalize w3.heap.size = nc at *
          refine Nh_ok ⟨fun _ => co2.out _ (hB.trans (hW.mono hnw)), ?_⟩
          try simp only [Act.put, List.setIfInBounds_toArray, List.set_cons_zero, List.set_cons_succ]
          have h63 : q.length + 1 ≤ maxLen := by unfold maxLen; omega
          have h56 : (q.length + 1) * 8 ≤ 140737488355328 := by omega
          refine wpE_one 11 rfl (by kernel_rfl) ?_
          go_wp2_with (at_builtin; refine wpList_append_own _ rfl _ _ 58 rfl nb 3 i0 (.int .i64 0) 1 8 Try.underlying58 hi hz0 hz1 hz2 rfl (by decide) _ _ _ rfl own2 ⟨nc, 0, none⟩ 1 1 [.int .i64 (p : Int)] rfl rfl hcn (by simp [Value.oneCell']) h63 h56 hbz2 ?_; intro v3 w5 own3 hg3 hnil)
          replace hW := hW.grown hg3 hbz2 (fun k hk => (own2.lt k hk).1)
          replace hbz2 := Nat.le_trans hbz2 hg3.size
          rw [← plv_snoc, ← hql.out] at own3
          clear own2 hg3 hnil hcn h63 h56
          have hBt := hB.trans (hW.mono hnw)
          refine Nh_ok ⟨fun _ => co2.out _ hBt, ?_⟩
          try simp only [Act.put, List.setIfInBounds_toArray, List.set_cons_zero, List.set_cons_succ]
          refine wpE_one 12 rfl (by kernel_rfl) ?_
          go_wp2_with (fail)
          refine Nh_ok ⟨fun _ => co2.out _ hBt, ?_⟩
          try simp only [Act.put, List.setIfInBounds_toArray, List.set_cons_zero, List.set_cons_succ]
          refine wpE_end (by kernel_rfl) ?_
          replace u := u.below hW hun
          replace ownd := Lib.hid (ownsRow_keep ownd.out (fun k hk => hW.block k (hltd.out k hk)))
          obtain ⟨pa2, pc2, hv3, hpl2, _⟩ := row_Pli (q := q ++ [p]) (by rw [hlq.out]; exact own3)
          rw [hlq.out] at hv3
          subst hv3
          replace own3 := ownsRow_low own3 hnw
          replace own3 := Lib.hid own3
          clear hB hW co2 co hltd
          have hB := hBt
          clear hBt
          go_upto_region 40 with (first
            | (refine wpList_load_rowG ?hw _ _ rfl _ rfl _ _ _ _ u Try.underlying57 rfl ?hi ?_; (case hw => (first | rfl | (simp [Region.wanted, yielded]; done))); (case hi => (first | kernel_rfl | (rw [ruc_size]; kernel_rfl))))
            | (go_at_call 25; with_reducible refine (FE.out _ _ _ (elw.out.below hB (Nat.le_refl _)) hpl2).mono ?_; rintro e w6 ⟨rfl, hb⟩))
          replace own3 := Lib.hid (ownsRow_keep own3.out (fun k hk => hb.block k (own3.out.lt k hk).2))
          replace ownd := Lib.hid (ownsRow_keep ownd.out (fun k hk => hb.block k (ownd.out.lt k hk).2))
          replace u := u.below hb u.lt
          replace hB := hB.trans (hb.mono hB.size)
          clear hb FE hpl2
          cases fe
          · go_wp2_with (fail)
            go_roundg (on - (i + 1))
            case rel => exact ⟨i + 1, q, _, rfl, by omega, rfl, by omega, hq, ownd.out, u, hB⟩
            case measure => omega
          · go_wp2_with (fail)
            go_roundg (on - (i + 1))
            case rel => exact ⟨i + 1, q ++ [p], _, rfl, by omega, rfl, by rw [hlq.out, hql.out]; omega, ⟨by rw [hlq.out]; exact hin2.out, hfe.out⟩, by rw [hlq.out]; exact own3.out, u, hB⟩
            case measure => omega
        · obtain ⟨pa2, pc2, rfl, hpl2, _⟩ := row_Pli own
          have VA := Lib.hid (fun w1 x1 x2 => value_any Lw a pa2 n c pc2 q w1 x1 hAW.out.w (by omega) x2 (by have := q2.out; omega) hq.out.1)
          have hbe := hPO.out.be q (fun k hk => by
            obtain ⟨j, hj, he⟩ := List.mem_iff_getElem.1 hk
            have := hq.out.1 j hj
            rw [← he]; simpa [List.getD, List.getElem?_eq_getElem hj] using this) hq.out.2
          have dle : decide (sumF Lw 3 q ≤ sumF Lw 3 pl) = true := decide_eq_true hbe
          clear hbe
          have hqq : decide ((i : Int) < on) = false ∨ decide ((i : Int) < on) = true ∧ decide ((0 : Int) < n) = false := by
            rcases Nat.lt_or_ge i on with h | h
            · exact .inr ⟨decide_eq_true (by omega), decide_eq_false (by omega)⟩
            · exact .inl (decide_eq_false (by omega))
          clear hc
          rcases hqq with h1 | ⟨h1, h2⟩
          · have h1' : decide (i < on) = false := decide_eq_false (by have := of_decide_eq_false h1; omega)
            go_wp2_with (go_at_call 26; with_reducible refine (VA.out _ (elw.out.below hB (Nat.le_refl _)) hpl2).mono ?_; rintro e w6 ⟨rfl, hb⟩)
            go_ret
            exact ⟨rfl, hB0.out.trans ((hB.trans (hb.mono hB.size)).mono hB0.out.size)⟩
          · have h1' : decide (i < on) = true := decide_eq_true (by have := of_decide_eq_true h1; omega)
            have h2' : decide (0 < n) = false := decide_eq_false (by have := of_decide_eq_false h2; omega)
            go_wp2_with (go_at_call 26; with_reducible refine (VA.out _ (elw.out.below hB (Nat.le_refl _)) hpl2).mono ?_; rintro e w6 ⟨rfl, hb⟩)
            go_ret
            exact ⟨rfl, hB0.out.trans ((hB.trans (hb.mono hB.size)).mono hB0.out.size)⟩
end Go.Proofs.Ytkmelddejdikgaa
