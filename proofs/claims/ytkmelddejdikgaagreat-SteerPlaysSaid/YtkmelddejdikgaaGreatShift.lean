/-
  Numbers that are doubled until one of them is great, and a row of numbers in a block of its own. Shifted of the specification. The builtin max over integers.
-/
import Derived.Test.YtkmelddejdikgaaGreatVecF
import Derived.ArgAppend
import Derived.Test.YtkmelddejdikgaaGreatBase
set_option linter.unusedSimpArgs false
set_option linter.unusedVariables false
namespace Go.Proofs.YtkmelddejdikgaaGreat
open Go.RowKit PM Dt
def sm (a : Int) : Bool := decide (-35184372088832 < a) && decide (a < 35184372088832)
theorem sm_iff (a : Int) : sm a = true ↔ (-35184372088832 < a ∧ a < 35184372088832) := by unfold sm; rw [Bool.and_eq_true, decide_eq_true_eq, decide_eq_true_eq]
def sml (n : Nat) (f : Nat → Int) : Bool := (List.range n).all fun i => sm (f i)
theorem sml_iff (n : Nat) (f : Nat → Int) : sml n f = true ↔ ∀ i, i < n → sm (f i) = true := by
 unfold sml; rw [List.all_eq_true]
 exact ⟨fun h i hi => h i (List.mem_range.2 hi), fun h i hi => h i (List.mem_range.1 hi)⟩
theorem sml_no {n : Nat} {f : Nat → Int} {i : Nat} (hi : i < n) (h : sm (f i) = false) : sml n f = false := by
 rw [Bool.eq_false_iff]; intro h2
 rw [(sml_iff n f).1 h2 i hi] at h; cases h
def dbl (f : Nat → Int) : Nat → Int := fun i => 2 * f i
def shft (n : Nat) : Nat → (Nat → Int) → (Nat → Int)
 | 0, f => f
 | k + 1, f => if sml n f then shft n k (dbl f) else f
def low (n k : Nat) (f : Nat → Int) : Prop := ∃ i, i < n ∧ (35184372088832 : Int) ≤ 2 ^ k * (f i).natAbs
def upb (n : Nat) (f : Nat → Int) : Prop := ∀ i, i < n → -70368744177664 ≤ f i ∧ f i ≤ 70368744177664
theorem low_zero {n : Nat} {f : Nat → Int} (h : low n 0 f) : sml n f = false := by
 obtain ⟨i, hi, h⟩ := h
 refine sml_no hi ?_
 rw [Bool.eq_false_iff]; intro h2
 have := (sm_iff _).1 h2
 rw [Int.pow_zero, Int.one_mul] at h
 omega
theorem low_step {n k : Nat} {f : Nat → Int} (h : low n (k + 1) f) : low n k (dbl f) := by
 obtain ⟨i, hi, h⟩ := h
 refine ⟨i, hi, ?_⟩
 have e : ((dbl f i).natAbs : Int) = 2 * (f i).natAbs := by unfold dbl; omega
 rw [e, ← Int.mul_assoc]
 rw [Int.pow_succ] at h
 exact h
theorem low_start {n : Nat} {f : Nat → Int} {i : Nat} (hi : i < n) (h : f i ≠ 0) : low n 45 f := by
 refine ⟨i, hi, ?_⟩
 have : (1 : Int) ≤ (f i).natAbs := by omega
 have e : (2 : Int) ^ 45 = 35184372088832 := by decide
 rw [e]; omega
theorem upb_step {n : Nat} {f : Nat → Int} (h : sml n f = true) : upb n (dbl f) := by
 intro i hi
 have := (sm_iff _).1 ((sml_iff n f).1 h i hi)
 unfold dbl; omega
theorem upb_I {n : Nat} {f : Nat → Int} (h : upb n f) : ∀ i, i < n → I64 (f i) := fun i hi => ⟨by have := (h i hi).1; omega, by have := (h i hi).2; omega⟩
theorem shft_big {n k : Nat} {f : Nat → Int} (h : sml n f = false) : shft n k f = f := by
 cases k with
 | zero => rfl
 | succ k => rw [shft, if_neg (by rw [h]; simp)]
theorem shft_step {n k : Nat} {f : Nat → Int} (h : sml n f = true) : shft n (k + 1) f = shft n k (dbl f) := by rw [shft, if_pos h]
theorem shft_upb {n : Nat} : ∀ (k : Nat) (f : Nat → Int), upb n f → upb n (shft n k f)
 | 0, f, h => h
 | k + 1, f, h => by
   by_cases hs : sml n f = true
   ·rw [shft_step hs]; exact shft_upb k (dbl f) (upb_step hs)
   ·rw [shft_big (by simpa using hs)]; exact h
def rowb (w : World) (b n : Nat) (f : Nat → Int) : Prop := ∃ cs t, blk w b cs t ∧ ∀ j, j < n → cs[j]? = some (.int .i64 (f j))
theorem rowb.lt {w : World} {b n : Nat} {f : Nat → Int} (h : rowb w b n f) : b < w.heap.size := by obtain ⟨_, _, h, _⟩ := h; exact h.lt
theorem rowb.below {w w' : World} {b n : Nat} {f : Nat → Int} (h : rowb w b n f) {B : Nat} (hm : Below B w w') (hb : b < B) : rowb w' b n f := by
 obtain ⟨cs, t, h, hc⟩ := h; exact ⟨cs, t, h.below hm hb, hc⟩
theorem rowb.drew {w : World} {b n : Nat} {f : Nat → Int} (h : rowb w b n f) : rowb w.drew b n f := h
theorem rowb.cell {w : World} {b n : Nat} {f : Nat → Int} (h : rowb w b n f) {j : Nat} (hj : j < n) : w.cell? ⟨b, j, none⟩ = some (.int .i64 (f j)) := by
 obtain ⟨cs, t, h, hc⟩ := h; exact h.cellIs (hc j hj)
theorem rowb.free {w : World} {b n : Nat} {f : Nat → Int} (h : rowb w b n f) (j : Nat) : w.frozen? ⟨b, j, none⟩ = false := by
 obtain ⟨cs, t, h, hc⟩ := h; exact h.free j
theorem rowb.set {w : World} {b n : Nat} {f g : Nat → Int} (h : rowb w b n f) {i : Nat} {v : Int} (hi : i < n) (hv : v = g i) (hg : ∀ j, j < n → j ≠ i → f j = g j) : rowb (w.setCell ⟨b, i, none⟩ (.int .i64 v)) b n g := by
 obtain ⟨cs, t, h, hc⟩ := h
 refine ⟨_, t, h.set i _, fun j hj => ?_⟩
 have hsz : i < cs.size := by
  have := hc i hi
  rcases Nat.lt_or_ge i cs.size with h' | h'
  ·exact h'
  ·rw [Array.getElem?_eq_none h'] at this; cases this
 by_cases e : j = i
 ·subst e; rw [Array.getElem?_setIfInBounds_self_of_lt hsz, hv]
 ·rw [Array.getElem?_setIfInBounds_ne (Ne.symm e), hc j hj, hg j hj e]
theorem rowb.setOther {w : World} {b n : Nat} {f : Nat → Int} (h : rowb w b n f) {a : Addr} (ha : b ≠ a.block) (v : Value) : rowb (w.setCell a v) b n f := by
 obtain ⟨cs, t, h, hc⟩ := h; exact ⟨cs, t, h.setOther ha v, hc⟩
theorem rowb.congr {w : World} {b n : Nat} {f g : Nat → Int} (h : rowb w b n f) (hg : ∀ j, j < n → f j = g j) : rowb w b n g := by
 obtain ⟨cs, t, h, hc⟩ := h; exact ⟨cs, t, h, fun j hj => by rw [hc j hj, hg j hj]⟩
def listN (n : Nat) (f : Nat → Int) : List Int := (List.range n).map f
theorem listN_len (n : Nat) (f : Nat → Int) : (listN n f).length = n := by simp [listN]
theorem listN_get {n : Nat} {f : Nat → Int} {k : Nat} (h : k < n) : (listN n f).getD k 0 = f k := by simp [listN, List.getD_eq_getElem?_getD, List.getElem?_range h]
theorem rowb.ints {w : World} {b n c : Nat} {f : Nat → Int} (h : rowb w b n f) (hn : 0 < n) : Ints w (.slice (some ⟨b, 0, none⟩) n c) (listN n f) := by
 refine Or.inr ⟨by rw [listN_len]; omega, b, 0, c, by rw [listN_len], h.lt, fun k hk => ?_⟩
 rw [listN_len] at hk
 rw [Nat.zero_add, h.cell hk, listN_get hk]
theorem rowb_qfn {w : World} {b : Nat} {cs : Array Value} {t : TypeId} {n : Nat} {f : Nat → Int} (h : blk w b cs t) (hc : ∀ j, j < n → cs[j]? = some (.int .i64 (f j))) : rowb w b n f := ⟨cs, t, h, hc⟩
theorem int_info : ∃ inf z, Tryz.prog.info? 2 = some inf ∧ inf.zero = some z ∧ inf.size = 1 ∧ inf.bytes = 8 ∧ z.cells.size = 1 := by
 have h1 : (Tryz.prog.info? 2).map (fun i => (i.size, i.bytes, i.zero.map fun z => z.cells.size)) = some (1, 8, some 1) := by kernel_rfl
 cases hi : Tryz.prog.info? 2 with
 | none => rw [hi] at h1; cases h1
 | some inf =>
   rw [hi] at h1
   simp only [Option.map_some, Option.some.injEq, Prod.mk.injEq] at h1
   obtain ⟨a, b, c⟩ := h1
   cases hz : inf.zero with
   | none => rw [hz] at c; cases c
   | some z =>
     rw [hz] at c
     exact ⟨inf, z, rfl, hz, a, b, by simpa using c⟩
theorem rowb_of_take {w : World} {b n : Nat} {f : Nat → Int} {cur : Array Value} {t : TypeId} (h : blk w b cur t) (ht : cur.toList.take n = (listN n f).map (Value.int .i64)) : rowb w b n f := by
 refine ⟨cur, t, h, fun j hj => ?_⟩
 have e : (cur.toList.take n)[j]? = cur.toList[j]? := List.getElem?_take_of_lt hj
 rw [ht] at e
 rw [← Array.getElem?_toList, ← e]
 simp [listN, List.getElem?_range hj]
theorem addr_add (a j : Nat) : (⟨a, 0, none⟩ : Addr).add j = ⟨a, j, none⟩ := by
 unfold Addr.add
 split <;> simp_all
set_option maxRecDepth 100000 in
set_option maxHeartbeats 4000000 in
theorem shifted_any (n : Nat) (f : Nat → Int) (a c : Nat) (w : World) (hn : 0 < n) (hn8 : n ≤ 8) (hr : rowb w a n f) (hl : low n 45 f) (hu : upb n f) :
 Calls Tryz.prog 88 #[.slice (some ⟨a, 0, none⟩) n c] w fun e w' => ∃ b cap, e = .returned (.slice (some ⟨b, 0, none⟩) n cap) ∧ rowb w' b n (shft n 45 f) ∧ w.heap.size ≤ b ∧ Below w.heap.size w w' := by
 have HL := Lib.hid hl
 have HU := Lib.hid hu
 clear hl hu
 obtain ⟨F, hF⟩ : ∃ F, shft n 45 f = F := ⟨_, rfl⟩
 have HF := Lib.hid hF
 rw [hF]
 clear hF
 obtain ⟨inf, z, i1, i2, i3, i4, i5⟩ := int_info
 have hinf := Lib.hid i1
 clear i1
 have hcell : Hid (∀ j u, ((listN n f).map (Value.int .i64))[j]? = some u → w.cell? ⟨a, j, none⟩ = some u) := by
  intro j u h
  have hj : j < n := by
   rcases Nat.lt_or_ge j n with h' | h'
   ·exact h'
   ·rw [List.getElem?_eq_none (by simp [listN_len]; exact h')] at h; cases h
  rw [hr.cell hj]
  simpa [listN, List.getElem?_range hj] using h
 have hlt := hr.lt
 clear hr
 have hcell2 : Hid (∀ o : Obj, ∀ j u, ((listN n f).map (Value.int .i64))[j]? = some u → (w.alloc o).cell? ((⟨a, 0, none⟩ : Addr).add j) = some u) := by
  intro o j u h
  rw [addr_add]
  exact (World.cell?_alloc_old w o ⟨a, j, none⟩ (Nat.ne_of_lt hlt)).trans (hcell.out j u h)
 go_enter Tryz.func88, Tryz.ntmps88
 go_wp2_with (refine wpList_append_grows _ rfl _ _ 86 rfl 2 inf z 1 8 Tryz.underlying86 hinf.out i2 i3 i4 i5 (by omega) (some ⟨w.heap.size, 0, none⟩) 0 0 [] rfl (by simp) rfl (by simp) ⟨a, 0, none⟩ n c ((listN n f).map (Value.int .i64)) rfl (by simp [listN_len]) (hcell2.out _) (by intro u hu; obtain ⟨x, _, rfl⟩ := List.mem_map.1 hu; rfl) (by omega) (by simp [maxLen]; omega) (by omega) (fun v' w' ho hg => ?_); refine Or.elim ho.2 (fun h => absurd h.2 (by omega)) (fun h => ?_); obtain ⟨b, cap, cur, rfl, hb, hblk, hle, hmax, hsz, htake⟩ := h)
 have r : rowb w' b n f := rowb_of_take hblk (by simpa using htake)
 have hB : Below w.heap.size w w' := Below.grown (row := none) ((Below.refl _ _).alloc (Nat.le_refl _) _) hg (by simp) (by simp)
 have hb0 : w.heap.size ≤ b := by simp at hb; omega
 clear ho hg hb hblk hle hmax hsz htake i2 i3 i4 i5 hinf hcell hcell2
 try simp only [Nat.zero_add]
 go_loopg [] 45 (fun k_ wr => ∃ (k : Nat) (h : Nat → Int), k = k_ ∧ Hid (low n k h) ∧ Hid (upb n h) ∧ Hid (shft n k h = F) ∧ rowb wr b n h ∧ Below w.heap.size w wr)
 case atStart => exact ⟨45, f, rfl, HL, HU, HF, r, hB⟩
 case round =>
  clear r hB HL HU HF
  obtain ⟨k, h, hk_, hlow, hupb, hF, r, hB⟩ := hrel
  go_wp2_with (fail)
  go_loopg [4] n (fun g2 iv wi => ∃ i : Nat, g2 + i = n ∧ iv = .int .i64 i ∧ Hid (∀ j, j < i → sm (h j) = true) ∧ wr = wi)
  case atStart => exact ⟨0, by omega, rfl, fun j hj => by omega, rfl⟩
  case round =>
   obtain ⟨i, hi, rfl, hall, rfl⟩ := hrel
   by_cases hin : i < n
   ·have hdk : decide ((i : Int) < (n : Int)) = true := decide_eq_true (by omega)
    have hdk' : decide (i < n) = true := decide_eq_true hin
    have hin' : (i : Int) < (n : Int) := by omega
    have hw3 : IntKind.i64.wrap ((i : Int) + 1) = ((i + 1 : Nat) : Int) := by rw [IntKind.wrap_i64]; omega
    have ck : wr.cell? ⟨b, i, none⟩ = some (.int .i64 (h i)) := r.cell hin
    by_cases h1 : 35184372088832 ≤ h i
    ·have d1 : decide (35184372088832 ≤ h i) = true := decide_eq_true h1
     have hs : Hid (h = F) := (shft_big (sml_no hin (by rw [Bool.eq_false_iff]; intro hc; have := (sm_iff _).1 hc; omega))).symm.trans hF.out
     clear h1
     go_wp2_with (fail)
     go_ret
     exact ⟨b, cap, rfl, by rw [← hs.out]; exact r, hb0, hB⟩
    ·have d1 : decide (35184372088832 ≤ h i) = false := decide_eq_false h1
     by_cases h2 : h i ≤ -35184372088832
     ·have d2 : decide (h i ≤ -35184372088832) = true := decide_eq_true h2
      have hs : Hid (h = F) := (shft_big (sml_no hin (by rw [Bool.eq_false_iff]; intro hc; have := (sm_iff _).1 hc; omega))).symm.trans hF.out
      clear h1 h2
      go_wp2_with (fail)
      go_ret
      exact ⟨b, cap, rfl, by rw [← hs.out]; exact r, hb0, hB⟩
     ·have d2 : decide (h i ≤ -35184372088832) = false := decide_eq_false h2
      have HS := Lib.hid ((sm_iff (h i)).2 ⟨by omega, by omega⟩)
      clear h1 h2
      go_wp2_with (fail)
      go_roundg (n - (i + 1))
      case rel =>
       refine ⟨i + 1, by omega, rfl, fun j hj => ?_, rfl⟩
       by_cases e : j = i
       ·subst e; exact HS.out
       ·exact hall.out j (by omega)
      case measure => omega
   ·obtain rfl : i = n := by omega
    have hdk : decide ((i : Int) < (i : Int)) = false := decide_eq_false (by omega)
    have HS := Lib.hid ((sml_iff i h).2 hall.out)
    obtain ⟨m, rfl⟩ : ∃ m, k = m + 1 := by
     cases k with
     | zero => have := low_zero hlow.out; rw [HS.out] at this; cases this
     | succ m => exact ⟨m, rfl⟩
    go_wp2_with (fail)
    go_loopg [5] i (fun g3 iv wi => ∃ j : Nat, g3 + j = i ∧ iv = .int .i64 j ∧ rowb wi b i (fun q => if q < j then 2 * h q else h q) ∧ Below w.heap.size w wi)
    case atStart => exact ⟨0, by omega, rfl, r.congr fun q _ => by simp, hB⟩
    case round =>
     clear r hB
     obtain ⟨j, hj, rfl, r, hB⟩ := hrel
     by_cases hjn : j < i
     ·have hdk : decide ((j : Int) < (i : Int)) = true := decide_eq_true (by omega)
      have hdk' : decide (j < i) = true := decide_eq_true hjn
      have hjn' : (j : Int) < (i : Int) := by omega
      have hw3 : IntKind.i64.wrap ((j : Int) + 1) = ((j + 1 : Nat) : Int) := by rw [IntKind.wrap_i64]; omega
      have hw2 : IntKind.i64.wrap (2 * h j) = 2 * h j := by have := hupb.out j hjn; rw [IntKind.wrap_i64]; omega
      have ck : wr.cell? ⟨b, j, none⟩ = some (.int .i64 (h j)) := by rw [r.cell hjn]; simp
      have fz : wr.frozen? ⟨b, j, none⟩ = false := r.free _
      go_wp2_with (fail)
      go_roundg (i - (j + 1))
      case rel =>
       refine ⟨j + 1, by omega, rfl, r.set hjn (by simp) (fun q hq hne => ?_), hB.setCell (by exact hb0) _⟩
       have : (q < j + 1) = (q < j) := propext (by omega)
       simp only [this]
      case measure => omega
     ·obtain rfl : j = i := by omega
      have hdk : decide ((j : Int) < (j : Int)) = false := decide_eq_false (by omega)
      go_wp2_with (fail)
      go_roundg m
      case rel => exact ⟨m, dbl h, rfl, low_step hlow.out, upb_step HS.out, (shft_step HS.out).symm.trans hF.out, r.congr fun q hq => by simp [hq, dbl], hB⟩
      case measure => omega
end Go.Proofs.YtkmelddejdikgaaGreat
namespace Go.Proofs.YtkmelddejdikgaaGreat
open Go.RowKit Dt
def mx (x y : Int) : Int := if y > x then y else x
theorem run_max {P : Program} (w : World) (ats : Array TypeId) (ty : TypeId) : ∀ (xs : List Int) (x : Int), (Builtin.max_ ats ty (((x :: xs).map (Value.int .i64)).toArray)).run P w = .ok (.int .i64 (xs.foldl mx x)) w := by
 have key : ∀ (xs : List Int) (x : Int), ((xs.map (Value.int .i64)).foldlM Builtin.max2 (Value.int .i64 x)).run P w = .ok (.int .i64 (xs.foldl mx x)) w := by
  intro xs
  induction xs with
  | nil => intro x; rfl
  | cons y ys ih =>
    intro x
    rw [List.map_cons, List.foldlM_cons, Sem.run_bind]
    have : (Builtin.max2 (Value.int .i64 x) (Value.int .i64 y)).run P w = .ok (.int .i64 (mx x y)) w := rfl
    rw [this, Result.andThen_ok, ih]
    rfl
 intro xs x
 exact key xs x
theorem wpList_max {P : Program} {ops : Array Oper} {rest : List Oper} {o : Oper} {a : Act} {w : World} {Q : Exit → Act → World → Prop} (hg : o.guard = none) {args : Array Operand} {ats : Array TypeId}
 (ho : o.op = Op.call { callee := Callee.builtin Builtin.max, args := args, argTypes := ats }) (xs : List Int) (x M : Int) (hM : xs.foldl mx x = M) (hargs0 : args.toList.map a.eval = (x :: xs).map (Value.int .i64))
 (h : wpList P ops Q rest (a.put o.dst (.int .i64 M)) w) : wpList P ops Q (o :: rest) a w := by
 refine wpList_pure (.int .i64 M) hg ?_ h
 have hargs : args.map a.eval = ((x :: xs).map (Value.int .i64)).toArray := by
  rw [← hargs0]; apply Array.ext'; simp
 have hr := run_max (P := P) w ats o.type xs x
 rw [hM, ← hargs] at hr
 simp [execOp, ho, resolve, invoke, builtin, hr, Result.andThen, DetR]
end Go.Proofs.YtkmelddejdikgaaGreat
