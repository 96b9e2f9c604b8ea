/-
  Numbers that are doubled until one of them is great, and a row of numbers in a block of its own. Shifted of the specification. Unit quaternions: the greatest component. Unit quaternions, in the package and in the specification. QuatsUnits returns true: the walk.
-/
import Derived.Test.YthkklhfnmodpnaaVecF
import Derived.ArgAppend
import Derived.Test.YthkklhfnmodpnaaQuatD
import Derived.Test.YthkklhfnmodpnaaLawQ
set_option linter.unusedSimpArgs false
set_option linter.unusedVariables false
namespace Go.Proofs.Ythkklhfnmodpnaa
open Go.RowKit PM Dt
/-- Is a number below 2^45 in absolute value? -/
def sm (a : Int) : Bool := decide (-35184372088832 < a) && decide (a < 35184372088832)
theorem sm_iff (a : Int) : sm a = true ↔ (-35184372088832 < a ∧ a < 35184372088832) := by unfold sm; rw [Bool.and_eq_true, decide_eq_true_eq, decide_eq_true_eq]
def sml (n : Nat) (f : Nat → Int) : Bool := (List.range n).all fun i => sm (f i)
theorem sml_iff (n : Nat) (f : Nat → Int) : sml n f = true ↔ ∀ i, i < n → sm (f i) = true := by
  unfold sml; rw [List.all_eq_true]
  exact ⟨fun h i hi => h i (List.mem_range.2 hi), fun h i hi => h i (List.mem_range.1 hi)⟩
theorem sml_no {n : Nat} {f : Nat → Int} {i : Nat} (hi : i < n) (h : sm (f i) = false) : sml n f = false := by
  rw [Bool.eq_false_iff]; intro h2
  rw [(sml_iff n f).1 h2 i hi] at h; cases h
def dbl (f : Nat → Int) : Nat → Int := fun i => 2 * f i
/-- Doubled until it is great. -/
def shft (n : Nat) : Nat → (Nat → Int) → (Nat → Int)
  | 0, f => f
  | k + 1, f => if sml n f then shft n k (dbl f) else f
def low (n k : Nat) (f : Nat → Int) : Prop := ∃ i, i < n ∧ (35184372088832 : Int) ≤ 2 ^ k * (f i).natAbs
def upb (n : Nat) (f : Nat → Int) : Prop := ∀ i, i < n → -70368744177664 ≤ f i ∧ f i ≤ 70368744177664
theorem low_zero {n : Nat} {f : Nat → Int} (h : low n 0 f) : sml n f = false := by
  obtain ⟨i, hi, h⟩ := h
  refine sml_no hi ?_
  rw [Bool.eq_false_iff]; intro h2
  have := (sm_iff _).1 h2
  rw [Int.pow_zero, Int.one_mul] at h
  omega
theorem low_step {n k : Nat} {f : Nat → Int} (h : low n (k + 1) f) : low n k (dbl f) := by
  obtain ⟨i, hi, h⟩ := h
  refine ⟨i, hi, ?_⟩
  have e : ((dbl f i).natAbs : Int) = 2 * (f i).natAbs := by unfold dbl; omega
  rw [e, ← Int.mul_assoc]
  rw [Int.pow_succ] at h
  exact h
theorem low_start {n : Nat} {f : Nat → Int} {i : Nat} (hi : i < n) (h : f i ≠ 0) : low n 45 f := by
  refine ⟨i, hi, ?_⟩
  have : (1 : Int) ≤ (f i).natAbs := by omega
  have e : (2 : Int) ^ 45 = 35184372088832 := by decide
  rw [e]; omega
theorem upb_step {n : Nat} {f : Nat → Int} (h : sml n f = true) : upb n (dbl f) := by
  intro i hi
  have := (sm_iff _).1 ((sml_iff n f).1 h i hi)
  unfold dbl; omega
theorem upb_I {n : Nat} {f : Nat → Int} (h : upb n f) : ∀ i, i < n → I64 (f i) := fun i hi => ⟨by have := (h i hi).1; omega, by have := (h i hi).2; omega⟩
theorem shft_big {n k : Nat} {f : Nat → Int} (h : sml n f = false) : shft n k f = f := by
  cases k with
  | zero => rfl
  | succ k => rw [shft, if_neg (by rw [h]; simp)]
theorem shft_step {n k : Nat} {f : Nat → Int} (h : sml n f = true) : shft n (k + 1) f = shft n k (dbl f) := by rw [shft, if_pos h]
theorem shft_upb {n : Nat} : ∀ (k : Nat) (f : Nat → Int), upb n f → upb n (shft n k f)
  | 0, f, h => h
  | k + 1, f, h => by
    by_cases hs : sml n f = true
    · rw [shft_step hs]; exact shft_upb k (dbl f) (upb_step hs)
    · rw [shft_big (by simpa using hs)]; exact h
/-- A block whose first cells are these numbers. -/
def rowb (w : World) (b n : Nat) (f : Nat → Int) : Prop := ∃ cs t, blk w b cs t ∧ ∀ j, j < n → cs[j]? = some (.int .i64 (f j))
theorem rowb.lt {w : World} {b n : Nat} {f : Nat → Int} (h : rowb w b n f) : b < w.heap.size := by obtain ⟨_, _, h, _⟩ := h; exact h.lt
theorem rowb.below {w w' : World} {b n : Nat} {f : Nat → Int} (h : rowb w b n f) {B : Nat} (hm : Below B w w') (hb : b < B) : rowb w' b n f := by
  obtain ⟨cs, t, h, hc⟩ := h; exact ⟨cs, t, h.below hm hb, hc⟩
theorem rowb.drew {w : World} {b n : Nat} {f : Nat → Int} (h : rowb w b n f) : rowb w.drew b n f := h
theorem rowb.cell {w : World} {b n : Nat} {f : Nat → Int} (h : rowb w b n f) {j : Nat} (hj : j < n) : w.cell? ⟨b, j, none⟩ = some (.int .i64 (f j)) := by
  obtain ⟨cs, t, h, hc⟩ := h; exact h.cellIs (hc j hj)
theorem rowb.free {w : World} {b n : Nat} {f : Nat → Int} (h : rowb w b n f) (j : Nat) : w.frozen? ⟨b, j, none⟩ = false := by
  obtain ⟨cs, t, h, hc⟩ := h; exact h.free j
theorem rowb.set {w : World} {b n : Nat} {f g : Nat → Int} (h : rowb w b n f) {i : Nat} {v : Int} (hi : i < n) (hv : v = g i) (hg : ∀ j, j < n → j ≠ i → f j = g j) : rowb (w.setCell ⟨b, i, none⟩ (.int .i64 v)) b n g := by
  obtain ⟨cs, t, h, hc⟩ := h
  refine ⟨_, t, h.set i _, fun j hj => ?_⟩
  have hsz : i < cs.size := by
    have := hc i hi
    rcases Nat.lt_or_ge i cs.size with h' | h'
    · exact h'
    · rw [Array.getElem?_eq_none h'] at this; cases this
  by_cases e : j = i
  · subst e; rw [Array.getElem?_setIfInBounds_self_of_lt hsz, hv]
  · rw [Array.getElem?_setIfInBounds_ne (Ne.symm e), hc j hj, hg j hj e]
theorem rowb.setOther {w : World} {b n : Nat} {f : Nat → Int} (h : rowb w b n f) {a : Addr} (ha : b ≠ a.block) (v : Value) : rowb (w.setCell a v) b n f := by
  obtain ⟨cs, t, h, hc⟩ := h; exact ⟨cs, t, h.setOther ha v, hc⟩
theorem rowb.congr {w : World} {b n : Nat} {f g : Nat → Int} (h : rowb w b n f) (hg : ∀ j, j < n → f j = g j) : rowb w b n g := by
  obtain ⟨cs, t, h, hc⟩ := h; exact ⟨cs, t, h, fun j hj => by rw [hc j hj, hg j hj]⟩
def listN (n : Nat) (f : Nat → Int) : List Int := (List.range n).map f
theorem listN_len (n : Nat) (f : Nat → Int) : (listN n f).length = n := by simp [listN]
theorem listN_get {n : Nat} {f : Nat → Int} {k : Nat} (h : k < n) : (listN n f).getD k 0 = f k := by simp [listN, List.getD_eq_getElem?_getD, List.getElem?_range h]
/-- Such a row, as a slice. -/
theorem rowb.ints {w : World} {b n c : Nat} {f : Nat → Int} (h : rowb w b n f) (hn : 0 < n) : Ints w (.slice (some ⟨b, 0, none⟩) n c) (listN n f) := by
  refine Or.inr ⟨by rw [listN_len]; omega, b, 0, c, by rw [listN_len], h.lt, fun k hk => ?_⟩
  rw [listN_len] at hk
  rw [Nat.zero_add, h.cell hk, listN_get hk]
theorem rowb_qfn {w : World} {b : Nat} {cs : Array Value} {t : TypeId} {n : Nat} {f : Nat → Int} (h : blk w b cs t) (hc : ∀ j, j < n → cs[j]? = some (.int .i64 (f j))) : rowb w b n f := ⟨cs, t, h, hc⟩
end Go.Proofs.Ythkklhfnmodpnaa
namespace Go.Proofs.Ythkklhfnmodpnaa
open Go.RowKit PM Dt
theorem int_info : ∃ inf z, Try.prog.info? 2 = some inf ∧ inf.zero = some z ∧ inf.size = 1 ∧ inf.bytes = 8 ∧ z.cells.size = 1 := by
  have h1 : (Try.prog.info? 2).map (fun i => (i.size, i.bytes, i.zero.map fun z => z.cells.size)) = some (1, 8, some 1) := by kernel_rfl
  cases hi : Try.prog.info? 2 with
  | none => rw [hi] at h1; cases h1
  | some inf =>
    rw [hi] at h1
    simp only [Option.map_some, Option.some.injEq, Prod.mk.injEq] at h1
    obtain ⟨a, b, c⟩ := h1
    cases hz : inf.zero with
    | none => rw [hz] at c; cases c
    | some z =>
      rw [hz] at c
      exact ⟨inf, z, rfl, hz, a, b, by simpa using c⟩
theorem rowb_of_take {w : World} {b n : Nat} {f : Nat → Int} {cur : Array Value} {t : TypeId} (h : blk w b cur t) (ht : cur.toList.take n = (listN n f).map (Value.int .i64)) : rowb w b n f := by
  refine ⟨cur, t, h, fun j hj => ?_⟩
  have e : (cur.toList.take n)[j]? = cur.toList[j]? := List.getElem?_take_of_lt hj
  rw [ht] at e
  rw [← Array.getElem?_toList, ← e]
  simp [listN, List.getElem?_range hj]
theorem addr_add (a j : Nat) : (⟨a, 0, none⟩ : Addr).add j = ⟨a, j, none⟩ := by
  unfold Addr.add
  split <;> simp_all
set_option maxRecDepth 100000 in
set_option maxHeartbeats 4000000 in
theorem shifted_any (n : Nat) (f : Nat → Int) (a c : Nat) (w : World) (hn : 0 < n) (hn8 : n ≤ 8) (hr : rowb w a n f) (hl : low n 45 f) (hu : upb n f) :
    Calls Try.prog 88 #[.slice (some ⟨a, 0, none⟩) n c] w fun e w' => ∃ b cap, e = .returned (.slice (some ⟨b, 0, none⟩) n cap) ∧ rowb w' b n (shft n 45 f) ∧ w.heap.size ≤ b ∧ Below w.heap.size w w' := by
  have HL := Lib.hid hl
  have HU := Lib.hid hu
  clear hl hu
  obtain ⟨F, hF⟩ : ∃ F, shft n 45 f = F := ⟨_, rfl⟩
  have HF := Lib.hid hF
  rw [hF]
  clear hF
  obtain ⟨inf, z, i1, i2, i3, i4, i5⟩ := int_info
  have hinf := Lib.hid i1
  clear i1
  have hcell : Hid (∀ j u, ((listN n f).map (Value.int .i64))[j]? = some u → w.cell? ⟨a, j, none⟩ = some u) := by
    intro j u h
    have hj : j < n := by
      rcases Nat.lt_or_ge j n with h' | h'
      · exact h'
      · rw [List.getElem?_eq_none (by simp [listN_len]; exact h')] at h; cases h
    rw [hr.cell hj]
    simpa [listN, List.getElem?_range hj] using h
  have hlt := hr.lt
  clear hr
  have hcell2 : Hid (∀ o : Obj, ∀ j u, ((listN n f).map (Value.int .i64))[j]? = some u → (w.alloc o).cell? ((⟨a, 0, none⟩ : Addr).add j) = some u) := by
    intro o j u h
    rw [addr_add]
    exact (World.cell?_alloc_old w o ⟨a, j, none⟩ (Nat.ne_of_lt hlt)).trans (hcell.out j u h)
  go_enter Try.func88, Try.ntmps88
  go_wp2_with (refine wpList_append_grows _ rfl _ _ 57 rfl 2 inf z 1 8 Try.underlying57 hinf.out i2 i3 i4 i5 (by omega) (some ⟨w.heap.size, 0, none⟩) 0 0 [] rfl (by simp) rfl (by simp) ⟨a, 0, none⟩ n c ((listN n f).map (Value.int .i64)) rfl (by simp [listN_len]) (hcell2.out _) (by intro u hu; obtain ⟨x, _, rfl⟩ := List.mem_map.1 hu; rfl) (by omega) (by simp [maxLen]; omega) (by omega) (fun v' w' ho hg => ?_); refine Or.elim ho.2 (fun h => absurd h.2 (by omega)) (fun h => ?_); obtain ⟨b, cap, cur, rfl, hb, hblk, hle, hmax, hsz, htake⟩ := h)
  have r : rowb w' b n f := rowb_of_take hblk (by simpa using htake)
  have hB : Below w.heap.size w w' := Below.grown (row := none) ((Below.refl _ _).alloc (Nat.le_refl _) _) hg (by simp) (by simp)
  have hb0 : w.heap.size ≤ b := by simp at hb; omega
  clear ho hg hb hblk hle hmax hsz htake i2 i3 i4 i5 hinf hcell hcell2
  try simp only [Nat.zero_add]
  go_loopg [] 45 (fun k_ wr => ∃ (k : Nat) (h : Nat → Int), k = k_ ∧ Hid (low n k h) ∧ Hid (upb n h) ∧ Hid (shft n k h = F) ∧ rowb wr b n h ∧ Below w.heap.size w wr)
  case atStart => exact ⟨45, f, rfl, HL, HU, HF, r, hB⟩
  case round =>
    clear r hB HL HU HF
    obtain ⟨k, h, hk_, hlow, hupb, hF, r, hB⟩ := hrel
    go_wp2_with (fail)
    go_loopg [4] n (fun g2 iv wi => ∃ i : Nat, g2 + i = n ∧ iv = .int .i64 i ∧ Hid (∀ j, j < i → sm (h j) = true) ∧ wr = wi)
    case atStart => exact ⟨0, by omega, rfl, fun j hj => by omega, rfl⟩
    case round =>
      obtain ⟨i, hi, rfl, hall, rfl⟩ := hrel
      by_cases hin : i < n
      · have hdk : decide ((i : Int) < (n : Int)) = true := decide_eq_true (by omega)
        have hdk' : decide (i < n) = true := decide_eq_true hin
        have hin' : (i : Int) < (n : Int) := by omega
        have hw3 : IntKind.i64.wrap ((i : Int) + 1) = ((i + 1 : Nat) : Int) := by rw [IntKind.wrap_i64]; omega
        have ck : wr.cell? ⟨b, i, none⟩ = some (.int .i64 (h i)) := r.cell hin
        by_cases h1 : 35184372088832 ≤ h i
        · have d1 : decide (35184372088832 ≤ h i) = true := decide_eq_true h1
          have hs : Hid (h = F) := (shft_big (sml_no hin (by rw [Bool.eq_false_iff]; intro hc; have := (sm_iff _).1 hc; omega))).symm.trans hF.out
          clear h1
          go_wp2_with (fail)
          go_ret
          exact ⟨b, cap, rfl, by rw [← hs.out]; exact r, hb0, hB⟩
        · have d1 : decide (35184372088832 ≤ h i) = false := decide_eq_false h1
          by_cases h2 : h i ≤ -35184372088832
          · have d2 : decide (h i ≤ -35184372088832) = true := decide_eq_true h2
            have hs : Hid (h = F) := (shft_big (sml_no hin (by rw [Bool.eq_false_iff]; intro hc; have := (sm_iff _).1 hc; omega))).symm.trans hF.out
            clear h1 h2
            go_wp2_with (fail)
            go_ret
            exact ⟨b, cap, rfl, by rw [← hs.out]; exact r, hb0, hB⟩
          · have d2 : decide (h i ≤ -35184372088832) = false := decide_eq_false h2
            have HS := Lib.hid ((sm_iff (h i)).2 ⟨by omega, by omega⟩)
            clear h1 h2
            go_wp2_with (fail)
            go_roundg (n - (i + 1))
            case rel =>
              refine ⟨i + 1, by omega, rfl, fun j hj => ?_, rfl⟩
              by_cases e : j = i
              · subst e; exact HS.out
              · exact hall.out j (by omega)
            case measure => omega
      · obtain rfl : i = n := by omega
        have hdk : decide ((i : Int) < (i : Int)) = false := decide_eq_false (by omega)
        have HS := Lib.hid ((sml_iff i h).2 hall.out)
        obtain ⟨m, rfl⟩ : ∃ m, k = m + 1 := by
          cases k with
          | zero => have := low_zero hlow.out; rw [HS.out] at this; cases this
          | succ m => exact ⟨m, rfl⟩
        go_wp2_with (fail)
        go_loopg [5] i (fun g3 iv wi => ∃ j : Nat, g3 + j = i ∧ iv = .int .i64 j ∧ rowb wi b i (fun q => if q < j then 2 * h q else h q) ∧ Below w.heap.size w wi)
        case atStart => exact ⟨0, by omega, rfl, r.congr fun q _ => by simp, hB⟩
        case round =>
          clear r hB
          obtain ⟨j, hj, rfl, r, hB⟩ := hrel
          by_cases hjn : j < i
          · have hdk : decide ((j : Int) < (i : Int)) = true := decide_eq_true (by omega)
            have hdk' : decide (j < i) = true := decide_eq_true hjn
            have hjn' : (j : Int) < (i : Int) := by omega
            have hw3 : IntKind.i64.wrap ((j : Int) + 1) = ((j + 1 : Nat) : Int) := by rw [IntKind.wrap_i64]; omega
            have hw2 : IntKind.i64.wrap (2 * h j) = 2 * h j := by have := hupb.out j hjn; rw [IntKind.wrap_i64]; omega
            have ck : wr.cell? ⟨b, j, none⟩ = some (.int .i64 (h j)) := by rw [r.cell hjn]; simp
            have fz : wr.frozen? ⟨b, j, none⟩ = false := r.free _
            go_wp2_with (fail)
            go_roundg (i - (j + 1))
            case rel =>
              refine ⟨j + 1, by omega, rfl, r.set hjn (by simp) (fun q hq hne => ?_), hB.setCell (by exact hb0) _⟩
              have : (q < j + 1) = (q < j) := propext (by omega)
              simp only [this]
            case measure => omega
          · obtain rfl : j = i := by omega
            have hdk : decide ((j : Int) < (j : Int)) = false := decide_eq_false (by omega)
            go_wp2_with (fail)
            go_roundg m
            case rel => exact ⟨m, dbl h, rfl, low_step hlow.out, upb_step HS.out, (shft_step HS.out).symm.trans hF.out, r.congr fun q hq => by simp [hq, dbl], hB⟩
            case measure => omega
end Go.Proofs.Ythkklhfnmodpnaa
namespace Go.Proofs.Ythkklhfnmodpnaa
open Go.RowKit PM Dt
def mx (x y : Int) : Int := if y > x then y else x
theorem run_max {P : Program} (w : World) (ats : Array TypeId) (ty : TypeId) : ∀ (xs : List Int) (x : Int), (Builtin.max_ ats ty (((x :: xs).map (Value.int .i64)).toArray)).run P w = .ok (.int .i64 (xs.foldl mx x)) w := by
  have key : ∀ (xs : List Int) (x : Int), ((xs.map (Value.int .i64)).foldlM Builtin.max2 (Value.int .i64 x)).run P w = .ok (.int .i64 (xs.foldl mx x)) w := by
    intro xs
    induction xs with
    | nil => intro x; rfl
    | cons y ys ih =>
      intro x
      rw [List.map_cons, List.foldlM_cons, Sem.run_bind]
      have : (Builtin.max2 (Value.int .i64 x) (Value.int .i64 y)).run P w = .ok (.int .i64 (mx x y)) w := rfl
      rw [this, Result.andThen_ok, ih]
      rfl
  intro xs x
  exact key xs x
theorem mx_lt {c : Int} : ∀ (xs : List Int) (x : Int), (xs.foldl mx x < c) ↔ (x < c ∧ ∀ y ∈ xs, y < c)
  | [], x => by simp
  | y :: ys, x => by
    rw [List.foldl_cons, mx_lt ys]
    have : (mx x y < c) ↔ (x < c ∧ y < c) := by unfold mx; split <;> omega
    rw [this]
    simp only [List.mem_cons, forall_eq_or_imp]
    exact ⟨fun ⟨⟨a, b⟩, d⟩ => ⟨a, b, d⟩, fun ⟨a, b, d⟩ => ⟨⟨a, b⟩, d⟩⟩
theorem wpList_max {P : Program} {ops : Array Oper} {rest : List Oper} {o : Oper} {a : Act} {w : World} {Q : Exit → Act → World → Prop} (hg : o.guard = none) {args : Array Operand} {ats : Array TypeId}
    (ho : o.op = Op.call { callee := Callee.builtin Builtin.max, args := args, argTypes := ats }) (xs : List Int) (x M : Int) (hM : xs.foldl mx x = M) (hargs0 : args.toList.map a.eval = (x :: xs).map (Value.int .i64))
    (h : wpList P ops Q rest (a.put o.dst (.int .i64 M)) w) : wpList P ops Q (o :: rest) a w := by
  refine wpList_pure (.int .i64 M) hg ?_ h
  have hargs : args.map a.eval = ((x :: xs).map (Value.int .i64)).toArray := by
    rw [← hargs0]; apply Array.ext'; simp
  have hr := run_max (P := P) w ats o.type xs x
  rw [hM, ← hargs] at hr
  simp [execOp, ho, resolve, invoke, builtin, hr, Result.andThen, DetR]
def lrg (f : Nat → Int) : Int := [-f 0, f 1, -f 1, f 2, -f 2, f 3, -f 3].foldl mx (f 0)
theorem lrg_lt (f : Nat → Int) : decide (lrg f < 35184372088832) = sml 4 f := by
  have h1 : (lrg f < 35184372088832) ↔ sml 4 f = true := by
    unfold lrg
    rw [mx_lt, sml_iff]
    simp only [List.mem_cons, List.not_mem_nil, or_false, forall_eq_or_imp, forall_eq]
    constructor
    · rintro ⟨a, b, c, d, e, g, h, i⟩ j hj
      rw [sm_iff]
      have : j = 0 ∨ j = 1 ∨ j = 2 ∨ j = 3 := by omega
      rcases this with rfl | rfl | rfl | rfl <;> omega
    · intro h
      have h0 := (sm_iff _).1 (h 0 (by omega))
      have h1 := (sm_iff _).1 (h 1 (by omega))
      have h2 := (sm_iff _).1 (h 2 (by omega))
      have h3 := (sm_iff _).1 (h 3 (by omega))
      omega
  cases hb : sml 4 f with
  | true => exact decide_eq_true (h1.2 hb)
  | false => exact decide_eq_false fun hc => by rw [h1.1 hc] at hb; cases hb
set_option maxRecDepth 100000 in
set_option maxHeartbeats 2000000 in
theorem largest_any (f : Nat → Int) (w : World) (h : upb 4 f) : Calls Try.prog 101 #[.agg (qfn f)] w fun e w' => e = .returned (.int .i64 (lrg f)) ∧ Below w.heap.size w w' := by
  have n0 : wrap64 (-f 0) = -f 0 := by have := h 0 (by omega); unfold wrap64; omega
  have n1 : wrap64 (-f 1) = -f 1 := by have := h 1 (by omega); unfold wrap64; omega
  have n2 : wrap64 (-f 2) = -f 2 := by have := h 2 (by omega); unfold wrap64; omega
  have n3 : wrap64 (-f 3) = -f 3 := by have := h 3 (by omega); unfold wrap64; omega
  have hM : Hid ([wrap64 (-f 0), f 1, wrap64 (-f 1), f 2, wrap64 (-f 2), f 3, wrap64 (-f 3)].foldl mx (f 0) = lrg f) := by show _ = _; rw [n0, n1, n2, n3]; rfl
  generalize lrg f = M at *
  clear h
  go_enter Try.func101, Try.ntmps101
  go_upto_region 1 with (fail)
  have p : blk (w.alloc (.cells (qfn f) 34)) w.heap.size (qfn f) 34 := blk.new _ _ _
  have hB : Below w.heap.size w (w.alloc (.cells (qfn f) 34)) := by go_grown
  generalize w.alloc (.cells (qfn f) 34) = w0 at *
  have c0 : w0.cell? ⟨w.heap.size, 0, none⟩ = some (.int .i64 (f 0)) := p.cellIs (qfn_get f (by omega))
  have c1 : w0.cell? ⟨w.heap.size, 1, none⟩ = some (.int .i64 (f 1)) := p.cellIs (qfn_get f (by omega))
  have c2 : w0.cell? ⟨w.heap.size, 2, none⟩ = some (.int .i64 (f 2)) := p.cellIs (qfn_get f (by omega))
  have c3 : w0.cell? ⟨w.heap.size, 3, none⟩ = some (.int .i64 (f 3)) := p.cellIs (qfn_get f (by omega))
  go_wp2_with (refine wpList_max rfl rfl _ _ _ hM.out rfl ?_)
  go_ret
  exact ⟨rfl, hB⟩
end Go.Proofs.Ythkklhfnmodpnaa
namespace Go.Proofs.Ythkklhfnmodpnaa
open Go.RowKit PM Dt
/-- Is it the quaternion of zeros? -/
def zQ (f : Nat → Int) : Bool := (List.range 4).all fun j => f j == 0
theorem zQ_no {f : Nat → Int} (h : zQ f = false) : low 4 45 f := by
  have : ∃ j, j < 4 ∧ f j ≠ 0 := by
    apply Classical.byContradiction
    intro hn
    have : zQ f = true := by
      unfold zQ; rw [List.all_eq_true]
      intro j hj
      have hj := List.mem_range.1 hj
      exact beq_iff_eq.2 (Classical.byContradiction fun hc => hn ⟨j, hj, hc⟩)
    rw [h] at this; cases this
  obtain ⟨j, hj, hz⟩ := this
  exact low_start hj hz
theorem ok_upb {f : Nat → Int} (h : okQ f = true) : upb 4 f := fun i hi => by
  have := (vb_iff _).1 ((okQ_iff f).1 h i hi)
  omega
def uN (f : Nat → Int) : Int := fitV (nQ (shft 4 45 f))
def uX (f : Nat → Int) (i : Nat) : Int := ratioV (shft 4 45 f i) 1073741824 (uN f)
def uEr (f : Nat → Int) (i : Nat) : Int := ratioE (shft 4 45 f i) 1073741824 (uN f)
def qunF (f : Nat → Int) : Nat → Int := if okQ f then (if zQ f then fun _ => 0 else uX f) else fun _ => 0
def qunE (f : Nat → Int) : Int := if okQ f then (if zQ f then 4 else 0) else 2
theorem quat_eq0 (f : Nat → Int) (w : World) : (Op.equalIn 10000 34 (.agg (qfn f)) (.agg #[.int .i64 0, .int .i64 0, .int .i64 0, .int .i64 0])).run Try.prog w = .ok (zQ f) w := by
  rw [zero_quat]
  obtain ⟨i, hi⟩ : ∃ i, Try.prog.info? 2 = some i := Option.isSome_iff_exists.1 (by kernel_rfl)
  have hc : Try.prog.cellsOf 2 = 1 := by kernel_rfl
  exact run_equalIn_ints (P := Try.prog) Try.underlying34 hi hc Try.underlying2 f (fun _ => 0) (qfn f) (qfn fun _ => 0) (fun j hj => qfn_get _ hj) (fun j hj => qfn_get _ hj) 9998 w
set_option maxRecDepth 100000 in
theorem unitC_any (F : Nat → Int) (N : Int) (b c : Nat) (t : TypeId) (w : World) (hF : upb 4 F) (hN : I64 N) (p : blk w b (qfn F) 34) (q : blk w c #[.int .i64 N] t) (i : Nat) (hi : i < 4) :
    Calls Try.prog 102 #[.int .i64 i, .pointer (some ⟨b, 0, none⟩), .pointer (some ⟨c, 0, none⟩)] w fun e w' => e = .returned (.tuple #[.int .i64 (ratioV (F i) 1073741824 N), .int .i64 (ratioE (F i) 1073741824 N)]) ∧ Below w.heap.size w w' := by
  have R := Lib.hid (fun w => ratio_any (F i) 1073741824 N w (upb_I hF i hi) ⟨by decide, by decide⟩ hN)
  generalize ratioV (F i) 1073741824 N = V at *
  generalize ratioE (F i) 1073741824 N = E at *
  have hdk : decide ((i : Int) < 4) = true := decide_eq_true (by omega)
  have hdk' : decide (i < 4) = true := decide_eq_true hi
  have hi3 : (i : Int) < 4 := by omega
  clear hF hN
  go_enter Try.func102, Try.ntmps102
  go_upto_region 1 with (fail)
  have hB : More w w := Below.refl _ _
  refine wp_region_Y 99 9 rfl (by kernel_rfl) ?_
  replace p := p.drew
  replace q := q.drew
  replace hB : More w w.drew := hB.drew
  generalize w.drew = wo at *
  refine wpY_takeB 0 (.int .i64 i) rfl rfl (by kernel_rfl) (fun w1 => by go_simp; exact ⟨rfl, Below.refl _ _⟩) ?_
  simp only [Act.put, List.setIfInBounds_toArray, List.set_cons_zero, List.set_cons_succ]
  refine wpY_takeB 1 (.pointer (some ⟨b, i, none⟩)) rfl rfl (by kernel_rfl) (fun w1 => by go_simp; first | exact ⟨rfl, Below.refl _ _⟩ | (rw [if_pos hi3]; exact ⟨rfl, Below.refl _ _⟩)) ?_
  simp only [Act.put, List.setIfInBounds_toArray, List.set_cons_zero, List.set_cons_succ]
  refine wpY_takeA 2 (.int .i64 (F i)) rfl rfl (by kernel_rfl) (by kernel_rfl) (fun w1 h1 => by have hc : w1.cell? ⟨b, i, none⟩ = some (.int .i64 (F i)) := (p.below h1 p.lt).cellIs (qfn_get _ hi); go_simp; exact ⟨rfl, Below.refl _ _⟩) ?_
  simp only [Act.put, List.setIfInBounds_toArray, List.set_cons_zero, List.set_cons_succ]
  refine wpY_takeA 3 (.int .i64 N) rfl rfl (by kernel_rfl) (by kernel_rfl) (fun w1 h1 => by have hc : w1.cell? ⟨c, 0, none⟩ = some (.int .i64 N) := (q.below h1 q.lt).cellIs rfl; go_simp; exact ⟨rfl, Below.refl _ _⟩) ?_
  simp only [Act.put, List.setIfInBounds_toArray, List.set_cons_zero, List.set_cons_succ]
  refine wpY_takeA 4 (.tuple #[.int .i64 V, .int .i64 E]) rfl rfl (by kernel_rfl) (by kernel_rfl) (fun w1 h1 => ?_) ?_
  · go_simp
    refine (R.out _).mono ?_
    rintro e w2 ⟨rfl, h2⟩
    exact ⟨rfl, h2⟩
  simp only [Act.put, List.setIfInBounds_toArray, List.set_cons_zero, List.set_cons_succ]
  refine wpY_takeB 5 (.int .i64 V) rfl rfl (by kernel_rfl) (fun w1 => by go_simp; exact ⟨rfl, Below.refl _ _⟩) ?_
  simp only [Act.put, List.setIfInBounds_toArray, List.set_cons_zero, List.set_cons_succ]
  refine wpY_takeB 6 (.int .i64 E) rfl rfl (by kernel_rfl) (fun w1 => by go_simp; exact ⟨rfl, Below.refl _ _⟩) ?_
  simp only [Act.put, List.setIfInBounds_toArray, List.set_cons_zero, List.set_cons_succ]
  refine wpY_takeB 7 (.int .i64 V) rfl rfl (by kernel_rfl) (fun w1 => by go_simp; exact ⟨rfl, Below.refl _ _⟩) ?_
  simp only [Act.put, List.setIfInBounds_toArray, List.set_cons_zero, List.set_cons_succ]
  refine wpY_takeB 8 (.int .i64 E) rfl rfl (by kernel_rfl) (fun w1 => by go_simp; exact ⟨rfl, Below.refl _ _⟩) ?_
  simp only [Act.put, List.setIfInBounds_toArray, List.set_cons_zero, List.set_cons_succ]
  refine wpY_end (by kernel_rfl) (fun w3 h3 => ?_)
  replace hB := More.trans hB h3
  go_wp2_with (fail)
  go_ret2
  exact ⟨rfl, hB⟩
set_option maxRecDepth 100000 in
set_option maxHeartbeats 2000000 in
theorem quadU_any (x er : Nat → Int) (c1 c2 : Value) (w : World)
    (hf : Hid (∀ i : Nat, i < 4 → ∀ w1, Below w.heap.size w w1 → Calls Try.prog 102 #[.int .i64 i, c1, c2] w1 fun e w' => e = .returned (.tuple #[.int .i64 (x i), .int .i64 (er i)]) ∧ Below w1.heap.size w1 w')) :
    Calls Try.prog 71 #[.func (.func 102) #[] #[c1, c2]] w fun e w' => e = .returned (.agg (qfn x)) ∧ Below w.heap.size w w' := by
  go_enter Try.func71, Try.ntmps71
  go_upto_region 2 with (fail)
  rw [zero_quat]
  have p : blk ((w.alloc (.cells (qfn fun _ => 0) 34)).alloc (.cells (qfn fun _ => 0) 34)) w.heap.size (qfn fun _ => 0) 34 := (blk.new _ _ _).alloc _
  have q : blk ((w.alloc (.cells (qfn fun _ => 0) 34)).alloc (.cells (qfn fun _ => 0) 34)) (w.heap.size + 1) (qfn fun _ => 0) 34 := blk.new' (by simp)
  have hB : Below w.heap.size w ((w.alloc (.cells (qfn fun _ => 0) 34)).alloc (.cells (qfn fun _ => 0) 34)) := by go_grown
  generalize (w.alloc (.cells (qfn fun _ => 0) 34)).alloc (.cells (qfn fun _ => 0) 34) = w0 at *
  go_wp2_with (fail)
  go_loopg [5] 4 (fun g iv wr => ∃ k : Nat, g + k = 4 ∧ iv = .int .i64 k ∧ blk wr w.heap.size (qfn fun _ => 0) 34 ∧ blk wr (w.heap.size + 1) (qfn (pre4 x k)) 34 ∧ Below w.heap.size w wr)
  case atStart => exact ⟨0, rfl, rfl, p, by rw [show qfn (pre4 x 0) = qfn (fun _ => 0) from qfn_congr fun i _ => by simp [pre4]]; exact q, hB⟩
  case round =>
    clear p q hB
    obtain ⟨k, hk, rfl, p, q, hB⟩ := hrel
    by_cases hkn : k < 4
    · have hdk : decide ((k : Int) < 4) = true := decide_eq_true (by omega)
      have hdk' : decide (k < 4) = true := decide_eq_true (by omega)
      have hw3 : IntKind.i64.wrap ((k : Int) + 1) = ((k + 1 : Nat) : Int) := by rw [IntKind.wrap_i64]; omega
      have HC := Lib.hid (hf.out k hkn)
      have hi4 : (k : Int) < 4 := by omega
      go_wp2_with (go_at_call 102; refine (HC.out _ hB).mono ?_; rintro e w1 ⟨rfl, hb⟩; replace hB := hB.trans (hb.mono hB.size); replace p := p.below hb p.lt; replace q := q.below hb q.lt; clear hb; have fz : w1.frozen? ⟨w.heap.size + 1, k, none⟩ = false := q.free _; have cz : w1.cell? ⟨w.heap.size + 1, k, none⟩ = some (.int .i64 (pre4 x k k)) := q.cellIs (qfn_get _ hkn))
      go_roundg (4 - (k + 1))
      case rel =>
        refine ⟨k + 1, by omega, rfl, p.setOther (by simp) _, q.set' (qfn_set hkn ?_ ?_), hB.setCell (by simp) _⟩
        · simp [pre4]
        · intro j hj hne; simp only [pre4]; split <;> split <;> first | rfl | omega
      case measure => omega
    · obtain rfl : k = 4 := by omega
      have e4 : qfn (pre4 x 4) = qfn x := qfn_congr fun i hi => by simp [pre4, hi]
      rw [e4] at q
      go_wp2_with (first | (refine wpList_load_rowG ?hw _ _ rfl _ rfl _ _ _ _ q Try.underlying34 rfl ?hi ?_; (case hw => (first | rfl | (simp [Region.wanted, yielded]; done))); (case hi => (rw [qfn_size]; kernel_rfl))) | (refine wpList_store_row rfl _ _ _ rfl _ rfl _ rfl _ _ p (by rw [qfn_size]; kernel_rfl) (by simp only [qfn_size]) (qfn_one _) ?_))
      refine bodyPost_ret (results_cell_row rfl _ _ _ _ _ _ _ rfl (p.row (qfn x)) Try.underlying34 rfl (by rw [qfn_size]; kernel_rfl)) rfl ?_; refine ⟨?_, Below.setRow hB (by omega) _⟩
      rfl
set_option maxRecDepth 100000 in
set_option maxHeartbeats 800000 in
theorem qunit_any (f : Nat → Int) (w : World) : Calls Try.prog 55 #[.agg (qfn f)] w fun e w' => e = .returned (.tuple #[.agg (qfn (qunF f)), .int .i64 (qunE f)]) ∧ Below w.heap.size w w' := by
  have V := Lib.hid (fun w => bounded_any f w)
  have EQ0 := quat_eq0 f
  unfold qunF qunE
  obtain ⟨X, hX⟩ : ∃ X, uX f = X := ⟨_, rfl⟩
  rw [hX]
  have HX := Lib.hid hX
  clear hX
  obtain ⟨bk, hk⟩ : ∃ b, okQ f = b := ⟨_, rfl⟩
  obtain ⟨bz, hz⟩ : ∃ b, zQ f = b := ⟨_, rfl⟩
  rw [hk] at V ⊢
  rw [hz] at EQ0 ⊢
  have HK := Lib.hid hk
  have HZ := Lib.hid hz
  clear hk hz
  go_enter Try.func55, Try.ntmps55
  go_upto_region 1 with (fail)
  rw [zero_quat]
  have p : blk ((w.alloc (.cells (qfn f) 34)).alloc (.cells (qfn fun _ => 0) 34)) w.heap.size (qfn f) 34 := (blk.new _ _ _).alloc _
  have r : blk ((w.alloc (.cells (qfn f) 34)).alloc (.cells (qfn fun _ => 0) 34)) (w.heap.size + 1) (qfn fun _ => 0) 34 := blk.new' (by simp)
  have hB : Below w.heap.size w ((w.alloc (.cells (qfn f) 34)).alloc (.cells (qfn fun _ => 0) 34)) := by go_grown
  generalize (w.alloc (.cells (qfn f) 34)).alloc (.cells (qfn fun _ => 0) 34) = w0 at *
  cases bk
  · go_wp2_with (first | (refine wpList_load_rowG ?hw _ _ rfl _ rfl _ _ _ _ p Try.underlying34 rfl ?hi ?_; (case hw => (first | rfl | (simp [Region.wanted, yielded]; done))); (case hi => (rw [qfn_size]; kernel_rfl))) | (go_at_call 70; with_reducible refine (V.out _).mono ?_; rintro e w1 ⟨rfl, hb⟩; replace hB := hB.trans (hb.mono hB.size); replace p := p.below hb p.lt; replace r := r.below hb r.lt; clear hb) | (rw [zero_quat]; refine wpList_store_row rfl _ _ _ rfl _ rfl _ rfl _ _ r (by rw [qfn_size]; kernel_rfl) (by simp only [qfn_size]) (qfn_one _) ?_))
    refine bodyPost_ret (results_vec rfl _ _ _ _ _ _ _ rfl (r.row (qfn (fun _ => 0))) Try.underlying34 rfl (by rw [qfn_size]; kernel_rfl)) rfl ?_; refine ⟨?_, Below.setRow hB (by omega) _⟩
    rfl
  cases bz
  case true =>
    go_wp2_with (first | (refine wpList_load_rowG ?hw _ _ rfl _ rfl _ _ _ _ p Try.underlying34 rfl ?hi ?_; (case hw => (first | rfl | (simp [Region.wanted, yielded]; done))); (case hi => (rw [qfn_size]; kernel_rfl))) | (go_at_call 70; with_reducible refine (V.out _).mono ?_; rintro e w1 ⟨rfl, hb⟩; replace hB := hB.trans (hb.mono hB.size); replace p := p.below hb p.lt; replace r := r.below hb r.lt; clear hb) | (rw [zero_quat]; refine wpList_store_row rfl _ _ _ rfl _ rfl _ rfl _ _ r (by rw [qfn_size]; kernel_rfl) (by simp only [qfn_size]) (qfn_one _) ?_))
    refine bodyPost_ret (results_vec rfl _ _ _ _ _ _ _ rfl (r.row (qfn (fun _ => 0))) Try.underlying34 rfl (by rw [qfn_size]; kernel_rfl)) rfl ?_; refine ⟨?_, Below.setRow hB (by omega) _⟩
    rfl
  have HL := Lib.hid (zQ_no HZ.out)
  have HU := Lib.hid (ok_upb HK.out)
  obtain ⟨F, hF⟩ : ∃ F, shft 4 45 f = F := ⟨_, rfl⟩
  have HF := Lib.hid hF
  clear hF
  go_wp2_with (first | (refine wpList_load_rowG ?hw _ _ rfl _ rfl _ _ _ _ p Try.underlying34 rfl ?hi ?_; (case hw => (first | rfl | (simp [Region.wanted, yielded]; done))); (case hi => (rw [qfn_size]; kernel_rfl))) | (go_at_call 70; with_reducible refine (V.out _).mono ?_; rintro e w1 ⟨rfl, hb⟩; replace hB := hB.trans (hb.mono hB.size); replace p := p.below hb p.lt; replace r := r.below hb r.lt; clear hb))
  go_loopg [] 45 (fun k_ wr => ∃ (k : Nat) (h : Nat → Int), k = k_ ∧ Hid (low 4 k h) ∧ Hid (upb 4 h) ∧ Hid (shft 4 k h = F) ∧ blk wr w.heap.size (qfn h) 34 ∧ blk wr (w.heap.size + 1) (qfn fun _ => 0) 34 ∧ Below w.heap.size w wr)
  case atStart => exact ⟨45, f, rfl, HL, HU, HF, p, r, hB⟩
  case round =>
    clear p r hB HL HU
    obtain ⟨k, h, hk_, hlow, hupb, hF, p, r, hB⟩ := hrel
    have LG := Lib.hid (fun w => largest_any h w hupb.out)
    have lt := lrg_lt h
    generalize lrg h = M at *
    obtain ⟨bs, hs⟩ : ∃ b, sml 4 h = b := ⟨_, rfl⟩
    rw [hs] at lt
    have HS := Lib.hid hs
    clear hs
    cases bs
    · -- it is great enough
      have e : Hid (h = F) := (shft_big HS.out).symm.trans hF.out
      obtain rfl : h = F := e.out
      have HN := Lib.hid (fun b w t p => hyp4_any h b w t (fun i hi => upb_I hupb.out i hi) p)
      have hnI := fitV_I (nQ h)
      have HX2 : Hid (X = fun i => ratioV (h i) 1073741824 (fitV (nQ h))) := by show _ = _; rw [← HX.out]; unfold uX uN; rw [HF.out]
      generalize fitV (nQ h) = N at *
      generalize fitE (nQ h) = E at *
      go_upto_region 12 with (first | (refine wpList_load_rowG ?hw _ _ rfl _ rfl _ _ _ _ p Try.underlying34 rfl ?hi ?_; (case hw => (first | rfl | (simp [Region.wanted, yielded]; done))); (case hi => (rw [qfn_size]; kernel_rfl))) | (go_at_call 101; with_reducible refine (LG.out _).mono ?_; rintro e w2 ⟨rfl, hb⟩; replace hB := hB.trans (hb.mono hB.size); replace p := p.below hb p.lt; replace r := r.below hb r.lt; clear hb) | (go_at_call 75; refine (HN.out _ _ _ p).mono ?_; rintro e w3 ⟨rfl, rfl⟩))
      have n1 := blk.new w2 #[.int .i64 N] 2
      replace p := p.alloc (.cells #[.int .i64 N] 2)
      replace r := r.alloc (.cells #[.int .i64 N] 2)
      replace hB := hB.alloc hB.size (.cells #[.int .i64 N] 2)
      generalize w2.alloc (.cells #[.int .i64 N] 2) = w4 at *
      generalize w2.heap.size = nb at *
      go_wp2_with (first
        | (go_at_call 71; refine (quadU_any (fun i => ratioV (h i) 1073741824 N) (fun i => ratioE (h i) 1073741824 N) _ _ _ (fun i hi wx hx => unitC_any h N _ _ _ wx hupb.out hnI (p.below hx p.lt) (n1.below hx n1.lt) i hi)).mono ?_; rintro e w5 ⟨rfl, hb⟩; rw [← HX2.out]; replace hB := hB.trans (hb.mono hB.size); replace r := r.below hb r.lt; clear hb)
        | (refine wpList_store_row rfl _ _ _ rfl _ rfl _ rfl _ _ r (by rw [qfn_size]; kernel_rfl) (by simp only [qfn_size]) (qfn_one _) ?_))
      refine bodyPost_ret (results_vec rfl _ _ _ _ _ _ _ rfl (r.row (qfn X)) Try.underlying34 rfl (by rw [qfn_size]; kernel_rfl)) rfl ?_; refine ⟨?_, Below.setRow hB (by omega) _⟩
      rfl
    · obtain ⟨m, rfl⟩ : ∃ m, k = m + 1 := by
        cases k with
        | zero => have := low_zero hlow.out; rw [HS.out] at this; cases this
        | succ m => exact ⟨m, rfl⟩
      go_wp2_with (first | (refine wpList_load_rowG ?hw _ _ rfl _ rfl _ _ _ _ p Try.underlying34 rfl ?hi ?_; (case hw => (first | rfl | (simp [Region.wanted, yielded]; done))); (case hi => (rw [qfn_size]; kernel_rfl))) | (go_at_call 101; with_reducible refine (LG.out _).mono ?_; rintro e w2 ⟨rfl, hb⟩; replace hB := hB.trans (hb.mono hB.size); replace p := p.below hb p.lt; replace r := r.below hb r.lt; clear hb))
      go_loopg [20] 4 (fun g3 iv wi => ∃ j : Nat, g3 + j = 4 ∧ iv = .int .i64 j ∧ blk wi w.heap.size (qfn (fun q => if q < j then 2 * h q else h q)) 34 ∧ blk wi (w.heap.size + 1) (qfn fun _ => 0) 34 ∧ Below w.heap.size w wi)
      case atStart => exact ⟨0, by omega, rfl, by rw [show qfn (fun q => if q < 0 then 2 * h q else h q) = qfn h from qfn_congr fun q _ => by simp]; exact p, r, hB⟩
      case round =>
        clear p r hB
        obtain ⟨j, hj, rfl, p, r, hB⟩ := hrel
        by_cases hjn : j < 4
        · have hdk : decide ((j : Int) < 4) = true := decide_eq_true (by omega)
          have hdk' : decide (j < 4) = true := decide_eq_true hjn
          have hjn' : (j : Int) < 4 := by omega
          have hw3 : IntKind.i64.wrap ((j : Int) + 1) = ((j + 1 : Nat) : Int) := by rw [IntKind.wrap_i64]; omega
          have hw2 : IntKind.i64.wrap (h j * 2) = 2 * h j := by have := hupb.out j hjn; rw [IntKind.wrap_i64]; omega
          have ck : wr.cell? ⟨w.heap.size, j, none⟩ = some (.int .i64 (h j)) := (p.cellIs (qfn_get _ hjn)).trans (by simp)
          have fz : wr.frozen? ⟨w.heap.size, j, none⟩ = false := p.free _
          go_wp2_with (fail)
          go_roundg (4 - (j + 1))
          case rel =>
            refine ⟨j + 1, by omega, rfl, p.set' (qfn_set hjn (by simp) (fun q hq hne => ?_)), r.setOther (by simp) _, hB.setCell (by simp) _⟩
            have : (q < j + 1) = (q < j) := propext (by omega)
            simp only [this]
          case measure => omega
        · obtain rfl : j = 4 := by omega
          have e4 : qfn (fun q => if q < 4 then 2 * h q else h q) = qfn (dbl h) := qfn_congr fun q hq => by simp [hq, dbl]
          rw [e4] at p
          go_wp2_with (fail)
          go_roundg m
          case rel => exact ⟨m, dbl h, rfl, low_step hlow.out, upb_step HS.out, (shft_step HS.out).symm.trans hF.out, p, r, hB⟩
          case measure => omega
theorem rhypS_any (F : Nat → Int) (b c : Nat) (w : World) (h : ∀ i, i < 4 → I64 (F i)) (p : rowb w b 4 F) :
    Calls Try.prog 76 #[.slice (some ⟨b, 0, none⟩) 4 c] w fun e w' => e = .returned (.tuple #[.int .i64 (fitV (nQ F)), .int .i64 (fitE (nQ F))]) ∧ Below w.heap.size w w' :=
  (rhypot_any [F 0, F 1, F 2, F 3] _ w (p.ints (c := c) (by omega)) (list_I4 h)).mono fun e w' h => ⟨h.1.trans (by rw [if_neg (by simp), if_neg (by simp)]; rfl), h.2⟩
set_option maxRecDepth 100000 in
set_option maxHeartbeats 800000 in
theorem rqunit_any (f : Nat → Int) (w : World) : Calls Try.prog 56 #[.agg (qfn f)] w fun e w' => e = .returned (.tuple #[.agg (qfn (qunF f)), .int .i64 (qunE f)]) ∧ Below w.heap.size w w' := by
  have V := Lib.hid (fun w => rbounded_any f w)
  have EQ0 := quat_eq0 f
  unfold qunF qunE
  obtain ⟨X, hX⟩ : ∃ X, uX f = X := ⟨_, rfl⟩
  rw [hX]
  have HX := Lib.hid hX
  clear hX
  obtain ⟨bk, hk⟩ : ∃ b, okQ f = b := ⟨_, rfl⟩
  obtain ⟨bz, hz⟩ : ∃ b, zQ f = b := ⟨_, rfl⟩
  rw [hk] at V ⊢
  rw [hz] at EQ0 ⊢
  have HK := Lib.hid hk
  have HZ := Lib.hid hz
  clear hk hz
  go_enter Try.func56, Try.ntmps56
  go_upto_region 1 with (fail)
  rw [zero_quat]
  have p : blk ((w.alloc (.cells (qfn f) 34)).alloc (.cells (qfn fun _ => 0) 34)) w.heap.size (qfn f) 34 := (blk.new _ _ _).alloc _
  have r : blk ((w.alloc (.cells (qfn f) 34)).alloc (.cells (qfn fun _ => 0) 34)) (w.heap.size + 1) (qfn fun _ => 0) 34 := blk.new' (by simp)
  have hB : Below w.heap.size w ((w.alloc (.cells (qfn f) 34)).alloc (.cells (qfn fun _ => 0) 34)) := by go_grown
  generalize (w.alloc (.cells (qfn f) 34)).alloc (.cells (qfn fun _ => 0) 34) = w0 at *
  cases bk
  · go_wp2_with (first | (refine wpList_load_rowG ?hw _ _ rfl _ rfl _ _ _ _ p Try.underlying34 rfl ?hi ?_; (case hw => (first | rfl | (simp [Region.wanted, yielded]; done))); (case hi => (rw [qfn_size]; kernel_rfl))) | (go_at_call 73; with_reducible refine (V.out _).mono ?_; rintro e w1 ⟨rfl, hb⟩; replace hB := hB.trans (hb.mono hB.size); replace p := p.below hb p.lt; replace r := r.below hb r.lt; clear hb) | (rw [zero_quat]; refine wpList_store_row rfl _ _ _ rfl _ rfl _ rfl _ _ r (by rw [qfn_size]; kernel_rfl) (by simp only [qfn_size]) (qfn_one _) ?_))
    refine bodyPost_ret (results_vec rfl _ _ _ _ _ _ _ rfl (r.row (qfn (fun _ => 0))) Try.underlying34 rfl (by rw [qfn_size]; kernel_rfl)) rfl ?_; refine ⟨?_, Below.setRow hB (by omega) _⟩
    rfl
  cases bz
  case true =>
    go_wp2_with (first | (refine wpList_load_rowG ?hw _ _ rfl _ rfl _ _ _ _ p Try.underlying34 rfl ?hi ?_; (case hw => (first | rfl | (simp [Region.wanted, yielded]; done))); (case hi => (rw [qfn_size]; kernel_rfl))) | (go_at_call 73; with_reducible refine (V.out _).mono ?_; rintro e w1 ⟨rfl, hb⟩; replace hB := hB.trans (hb.mono hB.size); replace p := p.below hb p.lt; replace r := r.below hb r.lt; clear hb) | (rw [zero_quat]; refine wpList_store_row rfl _ _ _ rfl _ rfl _ rfl _ _ r (by rw [qfn_size]; kernel_rfl) (by simp only [qfn_size]) (qfn_one _) ?_))
    refine bodyPost_ret (results_vec rfl _ _ _ _ _ _ _ rfl (r.row (qfn (fun _ => 0))) Try.underlying34 rfl (by rw [qfn_size]; kernel_rfl)) rfl ?_; refine ⟨?_, Below.setRow hB (by omega) _⟩
    rfl
  have HL := zQ_no HZ.out
  have HU := ok_upb HK.out
  have SH := Lib.hid (fun a c w hr => shifted_any 4 f a c w (by omega) (by omega) hr HL HU)
  have hFu := Lib.hid (shft_upb 45 f HU)
  obtain ⟨F, hF⟩ : ∃ F, shft 4 45 f = F := ⟨_, rfl⟩
  rw [hF] at SH hFu
  have HN := Lib.hid (fun b c w p => rhypS_any F b c w (fun i hi => upb_I hFu.out i hi) p)
  have hnI := fitV_I (nQ F)
  have HX2 : Hid (∀ i, X i = ratioV (F i) 1073741824 (fitV (nQ F))) := by intro i; rw [← HX.out]; unfold uX uN; rw [hF]
  generalize fitV (nQ F) = N at *
  generalize fitE (nQ F) = E at *
  clear hF HL HU HX HK HZ
  go_upto_region 6 with (first | (refine wpList_load_rowG ?hw _ _ rfl _ rfl _ _ _ _ p Try.underlying34 rfl ?hi ?_; (case hw => (first | rfl | (simp [Region.wanted, yielded]; done))); (case hi => (rw [qfn_size]; kernel_rfl))) | (go_at_call 73; with_reducible refine (V.out _).mono ?_; rintro e w1 ⟨rfl, hb⟩; replace hB := hB.trans (hb.mono hB.size); replace p := p.below hb p.lt; replace r := r.below hb r.lt; clear hb) | (go_at_call 88; refine (SH.out _ _ _ (rowb_qfn p (fun j hj => qfn_get f hj))).mono ?_; rintro e w2 ⟨pb, cap, rfl, rp, hpb, hb⟩; have hpb2 : w.heap.size < pb := Nat.lt_of_lt_of_le p.lt hpb; replace hB := hB.trans (hb.mono hB.size); replace p := p.below hb p.lt; replace r := r.below hb r.lt; clear hb hpb))
  go_upto_region 7 with (go_at_call 76; refine (HN.out _ _ _ rp).mono ?_; rintro e w3 ⟨rfl, hb⟩; replace hB := hB.trans (hb.mono hB.size); replace p := p.below hb p.lt; replace r := r.below hb r.lt; replace rp := rp.below hb rp.lt; clear hb)
  go_wp2_with (fail)
  go_loopg [7] 4 (fun g_ iv wr => ∃ k : Nat, g_ + k = 4 ∧ iv = .int .i64 k ∧ blk wr w.heap.size (qfn (fun q => if q < k then X q else f q)) 34 ∧ blk wr (w.heap.size + 1) (qfn fun _ => 0) 34 ∧ rowb wr pb 4 F ∧ Below w.heap.size w wr)
  case atStart => exact ⟨0, rfl, rfl, by rw [show qfn (fun q => if q < 0 then X q else f q) = qfn f from qfn_congr fun q _ => by simp]; exact p, r, rp, hB⟩
  case round =>
    clear p r rp hB
    obtain ⟨k, hk, rfl, p, r, rp, hB⟩ := hrel
    by_cases hkn : k < 4
    · have hdk : decide ((k : Int) < 4) = true := decide_eq_true (by omega)
      have hdk' : decide (k < 4) = true := decide_eq_true hkn
      have hw3 : IntKind.i64.wrap ((k : Int) + 1) = ((k + 1 : Nat) : Int) := by rw [IntKind.wrap_i64]; omega
      have hk3 : (k : Int) < 4 := by omega
      have ck : wr.cell? ⟨pb, k, none⟩ = some (.int .i64 (F k)) := rp.cell hkn
      have RK := Lib.hid (fun w => rratio_any (F k) 1073741824 N w (upb_I hFu.out k hkn) ⟨by decide, by decide⟩ hnI)
      rw [← HX2.out k] at RK
      generalize ratioE (F k) 1073741824 N = YE at *
      go_wp2_with (go_at_call 85; refine (RK.out _).mono ?_; rintro e w5 ⟨rfl, hb⟩; replace hB := hB.trans (hb.mono hB.size); replace p := p.below hb p.lt; replace r := r.below hb r.lt; replace rp := rp.below hb rp.lt; clear hb; have fz : w5.frozen? ⟨w.heap.size, k, none⟩ = false := p.free _; have cz : w5.cell? ⟨w.heap.size, k, none⟩ = some (.int .i64 (f k)) := (p.cellIs (qfn_get _ hkn)).trans (by simp))
      go_roundg (4 - (k + 1))
      case rel =>
        refine ⟨k + 1, by omega, rfl, p.set' (qfn_set hkn (by simp) (fun q hq hne => ?_)), r.setOther (by simp) _, rp.setOther (by simp; omega) _, hB.setCell (by simp) _⟩
        have : (q < k + 1) = (q < k) := propext (by omega)
        simp only [this]
      case measure => omega
    · obtain rfl : k = 4 := by omega
      have e4 : qfn (fun q => if q < 4 then X q else f q) = qfn X := qfn_congr fun q hq => by simp [hq]
      rw [e4] at p
      go_wp2_with (first | (refine wpList_load_rowG ?hw _ _ rfl _ rfl _ _ _ _ p Try.underlying34 rfl ?hi ?_; (case hw => (first | rfl | (simp [Region.wanted, yielded]; done))); (case hi => (rw [qfn_size]; kernel_rfl))) | (refine wpList_store_row rfl _ _ _ rfl _ rfl _ rfl _ _ r (by rw [qfn_size]; kernel_rfl) (by simp only [qfn_size]) (qfn_one _) ?_))
      refine bodyPost_ret (results_vec rfl _ _ _ _ _ _ _ rfl (r.row (qfn X)) Try.underlying34 rfl (by rw [qfn_size]; kernel_rfl)) rfl ?_; refine ⟨?_, Below.setRow hB (by omega) _⟩
      rfl
end Go.Proofs.Ythkklhfnmodpnaa
namespace Go.Proofs.Ythkklhfnmodpnaa
open Go.RowKit PM Dt
set_option maxRecDepth 100000 in
set_option maxHeartbeats 4000000 in
theorem qunits_any (f : Nat → Int) (w : World) : Calls Try.prog 16 #[.agg (qfn f)] w fun e w' => e = .returned (.bool true) ∧ Below w.heap.size w w' := by
  have A1 := Lib.hid (fun w => qunit_any f w)
  have A2 := Lib.hid (fun w => rqunit_any f w)
  generalize qunF f = FA at *
  generalize qunE f = EA at *
  have hqA := quat_eq_self FA
  go_enter Try.func16, Try.ntmps16
  go_upto_region 1 with (fail)
  have p : blk (w.alloc (.cells (qfn f) 34)) w.heap.size (qfn f) 34 := blk.new _ _ _
  have hB : Below w.heap.size w (w.alloc (.cells (qfn f) 34)) := by go_grown
  generalize w.alloc (.cells (qfn f) 34) = w0 at *
  go_upto_region 2 with (first
    | (refine wpList_load_rowG ?hw _ _ rfl _ rfl _ _ _ _ p Try.underlying34 rfl ?hi ?_; (case hw => (first | rfl | (simp [Region.wanted, yielded]; done))); (case hi => (rw [qfn_size]; kernel_rfl)))
    | (go_at_call 55; with_reducible refine (A1.out _).mono ?_; rintro e w1 ⟨rfl, hb⟩; replace hB := hB.trans (hb.mono hB.size); replace p := p.below hb p.lt; clear hb)
    | (rw [zero_quat]; refine wpList_store_row rfl _ _ _ rfl _ rfl _ rfl _ _ (blk.new _ _ _) (by rw [qfn_size]; kernel_rfl) (by simp only [qfn_size]) (qfn_one _) ?_))
  have r1 := (blk.new w1 (qfn fun _ => 0) 34).row (qfn FA)
  replace hB := Below.setRow (hB.alloc hB.size (.cells (qfn fun _ => 0) 34)) (g := w1.heap.size) hB.size (qfn FA)
  have hne : ∀ x, x < w1.heap.size → x ≠ w1.heap.size := fun x hx => Nat.ne_of_lt hx
  replace p := (p.alloc (.cells (qfn fun _ => 0) 34)).rowOther (hne _ p.lt) (qfn FA)
  clear hne
  generalize (w1.alloc (.cells (qfn fun _ => 0) 34)).setRow w1.heap.size (qfn FA) = w1x at *
  generalize w1.heap.size = r1_b at *
  go_upto_region 3 with (first
    | (refine wpList_load_rowG ?hw _ _ rfl _ rfl _ _ _ _ p Try.underlying34 rfl ?hi ?_; (case hw => (first | rfl | (simp [Region.wanted, yielded]; done))); (case hi => (rw [qfn_size]; kernel_rfl)))
    | (go_at_call 56; with_reducible refine (A2.out _).mono ?_; rintro e w2 ⟨rfl, hb⟩; replace hB := hB.trans (hb.mono hB.size); replace p := p.below hb p.lt; replace r1 := r1.below hb r1.lt; clear hb)
    | (rw [zero_quat]; refine wpList_store_row rfl _ _ _ rfl _ rfl _ rfl _ _ (blk.new _ _ _) (by rw [qfn_size]; kernel_rfl) (by simp only [qfn_size]) (qfn_one _) ?_))
  have r2 := (blk.new w2 (qfn fun _ => 0) 34).row (qfn FA)
  replace hB := Below.setRow (hB.alloc hB.size (.cells (qfn fun _ => 0) 34)) (g := w2.heap.size) hB.size (qfn FA)
  have hne : ∀ x, x < w2.heap.size → x ≠ w2.heap.size := fun x hx => Nat.ne_of_lt hx
  replace p := (p.alloc (.cells (qfn fun _ => 0) 34)).rowOther (hne _ p.lt) (qfn FA)
  replace r1 := (r1.alloc (.cells (qfn fun _ => 0) 34)).rowOther (hne _ r1.lt) (qfn FA)
  clear hne
  generalize (w2.alloc (.cells (qfn fun _ => 0) 34)).setRow w2.heap.size (qfn FA) = w2x at *
  generalize w2.heap.size = r2_b at *
  go_wp2_with (first
    | (refine wpList_load_rowG ?hw _ _ rfl _ rfl _ _ _ _ r1 Try.underlying34 rfl ?hi ?_; (case hw => (first | rfl | (simp [Region.wanted, yielded]; done))); (case hi => (rw [qfn_size]; kernel_rfl)))
    | (refine wpList_load_rowG ?hw _ _ rfl _ rfl _ _ _ _ r2 Try.underlying34 rfl ?hi ?_; (case hw => (first | rfl | (simp [Region.wanted, yielded]; done))); (case hi => (rw [qfn_size]; kernel_rfl)))
    | (go_at_call 30; refine (awakeQ_any _).mono ?_; rintro e wx ⟨rfl, hb⟩; replace hB := hB.trans (hb.mono hB.size); clear hb))
  go_ret
  exact ⟨rfl, hB⟩
end Go.Proofs.Ythkklhfnmodpnaa
