/-
  Square roots by the specification's own numbers (package perigeeref01): Root. Square roots and norms by the specification's own numbers (package perigeeref01): Sqrt, Hypot. Vectors of three numbers: what it is that one is valid, in the package and in its specification. Products and norms of vectors of three numbers, in the package and in its specification. A vector component by component: each, with the function that gives the components. Sines and cosines of package fixed and of its specification: what they return. The same of the specification of vectors: dot, two, Dot, Norm, result, Cross. Vector products, in the package and in its specification. Vector products as a whole, in the package and in its specification.
-/
import Derived.Test.YtkmelddejdikgaaHyp
import Derived.Test.YtkmelddejdikgaaAlg
import Derived.Test.YtkmelddejdikgaaFDot
import Derived.Laws.ResultCell
import Derived.Test.YtkmelddejdikgaaBase
set_option linter.unusedSimpArgs false
set_option linter.unusedVariables false
namespace Go.Proofs.Ytkmelddejdikgaa
open Go.RowKit PM Dt
/-- What stands throughout Root. -/
def SR (w : World) (n l : Nat) (w' : World) : Prop := blk w' w.heap.size (bigC n) 176 ∧ blk w' (w.heap.size + 1) (bigC 0) 176 ∧ blk w' (w.heap.size + 1 + 1) (bigC l) 176 ∧ Below w.heap.size w w'
theorem SR.drew {w : World} {n l : Nat} {w' : World} (h : SR w n l w') : SR w n l w'.drew := ⟨h.1.drew, h.2.1.drew, h.2.2.1.drew, h.2.2.2.drew⟩
theorem SR.alloc {w : World} {n l : Nat} {w' : World} (h : SR w n l w') (o : Obj) : SR w n l (w'.alloc o) :=
  ⟨h.1.alloc _, h.2.1.alloc _, h.2.2.1.alloc _, h.2.2.2.alloc (by have := h.1.lt; omega) _⟩
theorem SR.below {w : World} {n l : Nat} {w' w2 : World} (h : SR w n l w') (hB : Below w'.heap.size w' w2) : SR w n l w2 :=
  ⟨h.1.below hB h.1.lt, h.2.1.below hB h.2.1.lt, h.2.2.1.below hB h.2.2.1.lt, h.2.2.2.trans (hB.mono (by have := h.1.lt; omega))⟩
theorem SR.row {w : World} {n l : Nat} {w' : World} (h : SR w n l w') {g : Nat} (hg : w.heap.size + 1 + 1 < g) (c : Array Value) : SR w n l (w'.setRow g c) :=
  ⟨h.1.rowOther (by omega) _, h.2.1.rowOther (by omega) _, h.2.2.1.rowOther (by omega) _, Below.setRow h.2.2.2 (by omega) _⟩
theorem SR.size {w : World} {n l : Nat} {w' : World} (h : SR w n l w') : w.heap.size + 1 + 1 < w'.heap.size := h.2.2.1.lt
end Go.Proofs.Ytkmelddejdikgaa
namespace Go.Proofs.Ytkmelddejdikgaa
open Go.RowKit PM Dt
end Go.Proofs.Ytkmelddejdikgaa
namespace Go.Proofs.Ytkmelddejdikgaa
open Go.RowKit PM Dt
/-- Three numbers, as cells. -/
def vfn (f : Nat → Int) : Array Value := #[.int .i64 (f 0), .int .i64 (f 1), .int .i64 (f 2)]
theorem vfn_size (f : Nat → Int) : (vfn f).size = 3 := rfl
theorem vfn_one (f : Nat → Int) : (vfn f).all (·.oneCell') = true := by simp [vfn, Value.oneCell']
theorem vfn_get (f : Nat → Int) {i : Nat} (h : i < 3) : (vfn f)[i]? = some (.int .i64 (f i)) := by
  have : i = 0 ∨ i = 1 ∨ i = 2 := by omega
  rcases this with rfl | rfl | rfl <;> rfl
theorem vfn_congr {f g : Nat → Int} (h : ∀ i, i < 3 → f i = g i) : vfn f = vfn g := by
  unfold vfn; rw [h 0 (by omega), h 1 (by omega), h 2 (by omega)]
theorem vfn_set {f g : Nat → Int} {i : Nat} {v : Int} (h : i < 3) (hx : v = g i) (hg : ∀ j, j < 3 → j ≠ i → f j = g j) : (vfn f).setIfInBounds i (.int .i64 v) = vfn g := by
  subst hx
  have : i = 0 ∨ i = 1 ∨ i = 2 := by omega
  rcases this with rfl | rfl | rfl
  · unfold vfn; rw [hg 1 (by omega) (by omega), hg 2 (by omega) (by omega)]; rfl
  · unfold vfn; rw [hg 0 (by omega) (by omega), hg 2 (by omega) (by omega)]; rfl
  · unfold vfn; rw [hg 0 (by omega) (by omega), hg 1 (by omega) (by omega)]; rfl
theorem zero_vec : #[Value.int .i64 0, .int .i64 0, .int .i64 0] = vfn (fun _ => 0) := rfl
/-- Is a component valid? -/
def vb (a : Int) : Bool := decide (-1099511627776 ≤ a) && decide (a ≤ 1099511627776)
theorem vb_iff (a : Int) : vb a = true ↔ (-1099511627776 ≤ a ∧ a ≤ 1099511627776) := by unfold vb; rw [Bool.and_eq_true, decide_eq_true_eq, decide_eq_true_eq]
def okV (f : Nat → Int) : Bool := vb (f 0) && (vb (f 1) && vb (f 2))
theorem okV_iff (f : Nat → Int) : okV f = true ↔ ∀ i, i < 3 → vb (f i) = true := by
  unfold okV
  rw [Bool.and_eq_true, Bool.and_eq_true]
  constructor
  · rintro ⟨h0, h1, h2⟩ i hi
    have : i = 0 ∨ i = 1 ∨ i = 2 := by omega
    rcases this with rfl | rfl | rfl <;> assumption
  · intro h; exact ⟨h 0 (by omega), h 1 (by omega), h 2 (by omega)⟩
attribute [irreducible] vfn
theorem ints3 {w : World} {b : Nat} {f : Nat → Int} {t : TypeId} (h : blk w b (vfn f) t) : Ints w (.slice (some ⟨b, 0, none⟩) 3 3) [f 0, f 1, f 2] :=
  Or.inr ⟨by simp, b, 0, 3, rfl, h.lt, fun k hk => by
    have hk : k < 3 := hk
    rw [Nat.zero_add]
    refine (h.cellIs (vfn_get f hk)).trans ?_
    have : k = 0 ∨ k = 1 ∨ k = 2 := by omega
    rcases this with rfl | rfl | rfl <;> rfl⟩
theorem list_I3 {f : Nat → Int} (h : ∀ i, i < 3 → I64 (f i)) : ∀ k, k < [f 0, f 1, f 2].length → I64 ([f 0, f 1, f 2].getD k 0) := by
  intro k hk
  have hk : k < 3 := hk
  have : k = 0 ∨ k = 1 ∨ k = 2 := by omega
  rcases this with rfl | rfl | rfl
  · exact h 0 (by omega)
  · exact h 1 (by omega)
  · exact h 2 (by omega)
theorem results_vec {P : Program} {fn : Func} {p u : Tmp} {ty : TypeId} (h : fn.results = #[.cell p ty, .tmp u]) (tmps : Array Value) (w : World) (g : Nat) (t : TypeId) (cs : Array Value) (fr : Nat × Nat) (d : TypeDesc)
    (hp : tmps.getD p undef = .pointer (some ⟨g, 0, none⟩)) (hg : w.heap[g]? = some (.cells cs t fr))
    (hu : P.underlying ty = some d) (hd : (match d with | .struct _ | .array _ _ => true | _ => false) = true) (hi : (P.info? ty).map (·.size) = some cs.size) :
    (results fn tmps).run P w = .ok (.tuple #[.agg cs, tmps.getD u undef]) w := by
  rw [results_cell_tmp h]
  have hp' : tmps[p]?.getD undef = .pointer (some ⟨g, 0, none⟩) := by simpa using hp
  simp [hp', asAddr, run_loadVar_row w g t ty cs fr d hg hu hd hi, Result.andThen]
set_option maxRecDepth 100000 in
theorem within_any (a : Int) (w : World) : Calls Try.prog 137 #[.int .i64 a] w fun e w' => e = .returned (.bool (vb a)) ∧ w = w' := by
  by_cases h1 : -1099511627776 ≤ a
  · have d1 : decide (-1099511627776 ≤ a) = true := decide_eq_true h1
    by_cases h2 : a ≤ 1099511627776
    · have d2 : decide (a ≤ 1099511627776) = true := decide_eq_true h2
      have hv : vb a = true := by unfold vb; rw [d1, d2]; rfl
      rw [hv]
      clear h1 h2 hv
      go_enter Try.func137, Try.ntmps137
      go_wp2_with (fail)
      go_ret
      exact ⟨rfl, rfl⟩
    · have d2 : decide (a ≤ 1099511627776) = false := decide_eq_false h2
      have hv : vb a = false := by unfold vb; rw [d1, d2]; rfl
      rw [hv]
      clear h1 h2 hv
      go_enter Try.func137, Try.ntmps137
      go_wp2_with (fail)
      go_ret
      exact ⟨rfl, rfl⟩
  · have d1 : decide (-1099511627776 ≤ a) = false := decide_eq_false h1
    have hv : vb a = false := by unfold vb; rw [d1]; rfl
    rw [hv]
    clear h1 hv
    go_enter Try.func137, Try.ntmps137
    go_wp2_with (fail)
    go_ret
    exact ⟨rfl, rfl⟩
set_option maxRecDepth 100000 in
theorem valid_any (f : Nat → Int) (w : World) : Calls Try.prog 78 #[.agg (vfn f)] w fun e w' => e = .returned (.bool (okV f)) ∧ Below w.heap.size w w' := by
  have W0 := Lib.hid (fun w => within_any (f 0) w)
  have W1 := Lib.hid (fun w => within_any (f 1) w)
  have W2 := Lib.hid (fun w => within_any (f 2) w)
  have p : blk (w.alloc (.cells (vfn f) 31)) w.heap.size (vfn f) 31 := blk.new _ _ _
  have hB : Below w.heap.size w (w.alloc (.cells (vfn f) 31)) := by go_grown
  have c0 : (w.alloc (.cells (vfn f) 31)).cell? ⟨w.heap.size, 0, none⟩ = some (.int .i64 (f 0)) := p.cellIs (vfn_get f (by omega))
  have c1 : (w.alloc (.cells (vfn f) 31)).cell? ⟨w.heap.size, 1, none⟩ = some (.int .i64 (f 1)) := p.cellIs (vfn_get f (by omega))
  have c2 : (w.alloc (.cells (vfn f) 31)).cell? ⟨w.heap.size, 2, none⟩ = some (.int .i64 (f 2)) := p.cellIs (vfn_get f (by omega))
  unfold okV
  generalize vb (f 0) = b0 at *
  generalize vb (f 1) = b1 at *
  generalize vb (f 2) = b2 at *
  cases b0 <;> cases b1 <;> cases b2
  all_goals
    go_enter Try.func78, Try.ntmps78
    go_wp2_with (first
      | (go_at_call 137; with_reducible refine (W0.out _).mono ?_; rintro e w1 ⟨rfl, rfl⟩)
      | (go_at_call 137; with_reducible refine (W1.out _).mono ?_; rintro e w1 ⟨rfl, rfl⟩)
      | (go_at_call 137; with_reducible refine (W2.out _).mono ?_; rintro e w1 ⟨rfl, rfl⟩))
    go_ret
    exact ⟨rfl, hB⟩
end Go.Proofs.Ytkmelddejdikgaa
namespace Go.Proofs.Ytkmelddejdikgaa
open Go.RowKit PM Dt
theorem wpList_load_rowG {P : Program} {ops : Array Oper} {rest : List Oper} {o : Oper} {a : Act} {w : World} {Q : Exit → Act → World → Prop} (hw : Region.wanted o (yielded ops a.tmps) = true) (ty : TypeId) (x : Operand) (ho : o.op = .load ty x)
    (g : Nat) (hx : a.eval x = .pointer (some ⟨g, 0, none⟩)) (t : TypeId) (cs : Array Value) (fr : Nat × Nat) (d : TypeDesc) (hg : w.heap[g]? = some (.cells cs t fr))
    (hu : P.underlying ty = some d) (hd : (match d with | .struct _ | .array _ _ => true | _ => false) = true) (hi : (P.info? ty).map (·.size) = some cs.size)
    (h : wpList P ops Q rest (a.put o.dst (.agg cs)) w) : wpList P ops Q (o :: rest) a w :=
  wpList_step fun K hK => by rw [if_pos hw]; exact wp_load_row ty x ho g hx t cs fr d hg hu hd hi (hK _ _ h)
theorem vb_I {a : Int} (h : vb a = true) : I64 a := by
  have := (vb_iff a).1 h
  exact ⟨by omega, by omega⟩
theorem dotOK {S : Int} (h1 : -1237940039285380274899124224 ≤ S) (h2 : S ≤ 1237940039285380274899124224) : fitV (rnd S) = rnd S ∧ fitE (rnd S) = 0 := fit_of (by unfold rnd; omega) (by unfold rnd; omega)
theorem vb_prod {a b : Int} (ha : vb a = true) (hb : vb b = true) : -1208925819614629174706176 ≤ a * b ∧ a * b ≤ 1208925819614629174706176 := by
  have h1 := (vb_iff a).1 ha
  have h2 := (vb_iff b).1 hb
  have := bmul (P := 1099511627776) (R := 1099511627776) h1.1 h1.2 h2.1 h2.2
  exact this
/-- The product of two vectors, as an integer. -/
def d3 (f g : Nat → Int) : Int := dotS [f 0, f 1, f 2] [g 0, g 1, g 2]
theorem okV_I {f : Nat → Int} (hf : okV f = true) : ∀ i, i < 3 → I64 (f i) := fun i hi => vb_I ((okV_iff f).1 hf i hi)
end Go.Proofs.Ytkmelddejdikgaa
namespace Go.Proofs.Ytkmelddejdikgaa
open Go.RowKit PM Dt
/-- Are all three components there, and valid? -/
def goodE (x er : Nat → Int) : Bool := (er 0 == 0 && vb (x 0)) && ((er 1 == 0 && vb (x 1)) && (er 2 == 0 && vb (x 2)))
theorem goodE_iff (x er : Nat → Int) : goodE x er = true ↔ ∀ i, i < 3 → er i = 0 ∧ vb (x i) = true := by
  unfold goodE
  simp only [Bool.and_eq_true, beq_iff_eq]
  constructor
  · rintro ⟨h0, h1, h2⟩ i hi
    have : i = 0 ∨ i = 1 ∨ i = 2 := by omega
    rcases this with rfl | rfl | rfl <;> assumption
  · intro h; exact ⟨h 0 (by omega), h 1 (by omega), h 2 (by omega)⟩
theorem goodE_no {x er : Nat → Int} {i : Nat} (h : i < 3) (hb : ¬ (er i = 0 ∧ vb (x i) = true)) : goodE x er = false := by
  rw [Bool.eq_false_iff]; intro h2; exact hb ((goodE_iff x er).1 h2 i h)
def pre3 (x : Nat → Int) (k : Nat) : Nat → Int := fun j => if j < k then x j else 0
/-- The vector, and the error's number. -/
def eachF (x er : Nat → Int) : Nat → Int := if goodE x er then x else fun _ => 0
def eachE (x er : Nat → Int) : Int := if goodE x er then 0 else 7
set_option maxRecDepth 100000 in
theorem each_no (v : Value) (w : World) : Calls Try.prog 81 #[.bool false, v] w fun e w' => e = .returned (.tuple #[.agg (vfn fun _ => 0), .int .i64 2]) ∧ Below w.heap.size w w' := by
  go_enter Try.func81, Try.ntmps81
  go_upto_region 2 with (fail)
  rw [zero_vec]
  have p : blk ((w.alloc (.cells (vfn fun _ => 0) 31)).alloc (.cells (vfn fun _ => 0) 31)) w.heap.size (vfn fun _ => 0) 31 := (blk.new _ _ _).alloc _
  have q : blk ((w.alloc (.cells (vfn fun _ => 0) 31)).alloc (.cells (vfn fun _ => 0) 31)) (w.heap.size + 1) (vfn fun _ => 0) 31 := blk.new' (by simp)
  have hB : Below w.heap.size w ((w.alloc (.cells (vfn fun _ => 0) 31)).alloc (.cells (vfn fun _ => 0) 31)) := by go_grown
  generalize (w.alloc (.cells (vfn fun _ => 0) 31)).alloc (.cells (vfn fun _ => 0) 31) = w0 at *
  go_wp2_with (first | (refine wpList_load_rowG ?hw _ _ rfl _ rfl _ _ _ _ q Try.underlying31 rfl ?hi ?_; (case hw => (first | rfl | (simp [Region.wanted, yielded]; done))); (case hi => (rw [vfn_size]; kernel_rfl))) | (refine wpList_store_row rfl _ _ _ rfl _ rfl _ rfl _ _ p (by rw [vfn_size]; kernel_rfl) (by simp only [vfn_size]) (vfn_one _) ?_))
  refine bodyPost_ret (results_vec rfl _ _ _ _ _ _ _ rfl (p.row (vfn (fun _ => 0))) Try.underlying31 rfl (by rw [vfn_size]; kernel_rfl)) rfl ?_; refine ⟨?_, Below.setRow hB (Nat.le_refl _) _⟩
  rfl
end Go.Proofs.Ytkmelddejdikgaa
namespace Go.Proofs.Ytkmelddejdikgaa
open Go.RowKit PM Dt
/-- A product. -/
def mulV (a b : Int) : Int := ratioV a b 1073741824
theorem fitV_I (q : Int) : I64 (fitV q) := by
  unfold fitV inI I64
  split
  · rename_i h; simp at h; omega
  · omega
theorem ratioV_I (a b c : Int) : I64 (ratioV a b c) := by
  unfold ratioV
  split
  · unfold I64; omega
  · exact fitV_I _
/-- The sum of k terms, the last first. -/
def psum (y : Int) (t : Nat → Int) : Nat → Int
  | 0 => 0
  | k + 1 => mulV y (wrap64 (t (4 - k) - psum y t k))
attribute [irreducible] psum mulV
end Go.Proofs.Ytkmelddejdikgaa
namespace Go.Proofs.Ytkmelddejdikgaa
open Go.RowKit PM Dt
theorem vb_neg {a : Int} (h : vb a = true) : vb (-a) = true := (vb_iff _).2 (by have := (vb_iff a).1 h; omega)
def normV (f : Nat → Int) : Int := if okV f then fitV (hypQ [f 0, f 1, f 2]) else 0
def normE (f : Nat → Int) : Int := if okV f then fitE (hypQ [f 0, f 1, f 2]) else 2
set_option maxRecDepth 100000 in
set_option maxHeartbeats 1000000 in
theorem vnorm_any (f : Nat → Int) (w : World) : Calls Try.prog 36 #[.agg (vfn f)] w fun e w' => e = .returned (.tuple #[.int .i64 (normV f), .int .i64 (normE f)]) ∧ Below w.heap.size w w' := by
  have V1 := Lib.hid (fun w => valid_any f w)
  have D := Lib.hid (fun (h : okV f = true) (b : Nat) (w : World) (p : blk w b (vfn f) 31) => hypot_any [f 0, f 1, f 2] _ w (ints3 p) (list_I3 (okV_I h)))
  rw [show (if 8 < [f 0, f 1, f 2].length then (0 : Int) else fitV (hypQ [f 0, f 1, f 2])) = fitV (hypQ [f 0, f 1, f 2]) from if_neg (by simp), show (if 8 < [f 0, f 1, f 2].length then (2 : Int) else fitE (hypQ [f 0, f 1, f 2])) = fitE (hypQ [f 0, f 1, f 2]) from if_neg (by simp)] at D
  unfold normV normE
  obtain ⟨bf, hf⟩ : ∃ b, okV f = b := ⟨_, rfl⟩
  rw [hf] at V1 D ⊢
  clear hf
  generalize fitV (hypQ [f 0, f 1, f 2]) = X at *
  generalize fitE (hypQ [f 0, f 1, f 2]) = E at *
  go_enter Try.func36, Try.ntmps36
  go_upto_region 1 with (fail)
  have p : blk (w.alloc (.cells (vfn f) 31)) w.heap.size (vfn f) 31 := blk.new _ _ _
  have hB : Below w.heap.size w (w.alloc (.cells (vfn f) 31)) := by go_grown
  generalize w.alloc (.cells (vfn f) 31) = w0 at *
  cases bf
  · go_wp2_with (first | (refine wpList_load_rowG ?hw _ _ rfl _ rfl _ _ _ _ p Try.underlying31 rfl ?hi ?_; (case hw => (first | rfl | (simp [Region.wanted, yielded]; done))); (case hi => (rw [vfn_size]; kernel_rfl))) | (go_at_call 78; refine (V1.out _).mono ?_; rintro e w1 ⟨rfl, hb⟩; replace hB := hB.trans (hb.mono hB.size); replace p := p.below hb p.lt; clear hb))
    go_ret2
    exact ⟨rfl, hB⟩
  · replace D := Lib.hid (D.out rfl)
    go_wp2_with (first
      | (refine wpList_load_rowG ?hw _ _ rfl _ rfl _ _ _ _ p Try.underlying31 rfl ?hi ?_; (case hw => (first | rfl | (simp [Region.wanted, yielded]; done))); (case hi => (rw [vfn_size]; kernel_rfl)))
      | (go_at_call 78; refine (V1.out _).mono ?_; rintro e w1 ⟨rfl, hb⟩; replace hB := hB.trans (hb.mono hB.size); replace p := p.below hb p.lt; clear hb)
      | (go_at_call 80; refine (D.out _ _ p).mono ?_; rintro e w2 ⟨rfl, rfl⟩))
    go_ret2
    exact ⟨rfl, hB⟩
end Go.Proofs.Ytkmelddejdikgaa
namespace Go.Proofs.Ytkmelddejdikgaa
open Go.RowKit PM Dt
end Go.Proofs.Ytkmelddejdikgaa
namespace Go.Proofs.Ytkmelddejdikgaa
open Go.RowKit PM Dt
theorem good_zero (x : Nat → Int) : goodE x (fun _ => 0) = okV x := by unfold goodE okV; simp
def resF (x : Nat → Int) : Nat → Int := if okV x then x else fun _ => 0
def resE (x : Nat → Int) : Int := if okV x then 0 else 7
theorem each_res (x : Nat → Int) : eachF x (fun _ => 0) = resF x ∧ eachE x (fun _ => 0) = resE x := by
  unfold eachF eachE resF resE; rw [good_zero]; exact ⟨rfl, rfl⟩
end Go.Proofs.Ytkmelddejdikgaa
