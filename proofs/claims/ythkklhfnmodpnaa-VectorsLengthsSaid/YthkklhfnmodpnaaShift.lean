/-
  Shifted of the specification.
-/
import Derived.Test.YthkklhfnmodpnaaUnitM
import Derived.ArgAppend
set_option linter.unusedSimpArgs false
set_option linter.unusedVariables false
namespace Go.Proofs.Ythkklhfnmodpnaa
open Go.RowKit PM Dt
theorem int_info : ∃ inf z, Try.prog.info? 2 = some inf ∧ inf.zero = some z ∧ inf.size = 1 ∧ inf.bytes = 8 ∧ z.cells.size = 1 := by
  have h1 : (Try.prog.info? 2).map (fun i => (i.size, i.bytes, i.zero.map fun z => z.cells.size)) = some (1, 8, some 1) := by kernel_rfl
  cases hi : Try.prog.info? 2 with
  | none => rw [hi] at h1; cases h1
  | some inf =>
    rw [hi] at h1
    simp only [Option.map_some, Option.some.injEq, Prod.mk.injEq] at h1
    obtain ⟨a, b, c⟩ := h1
    cases hz : inf.zero with
    | none => rw [hz] at c; cases c
    | some z =>
      rw [hz] at c
      exact ⟨inf, z, rfl, hz, a, b, by simpa using c⟩
theorem rowb_of_take {w : World} {b n : Nat} {f : Nat → Int} {cur : Array Value} {t : TypeId} (h : blk w b cur t) (ht : cur.toList.take n = (listN n f).map (Value.int .i64)) : rowb w b n f := by
  refine ⟨cur, t, h, fun j hj => ?_⟩
  have e : (cur.toList.take n)[j]? = cur.toList[j]? := List.getElem?_take_of_lt hj
  rw [ht] at e
  rw [← Array.getElem?_toList, ← e]
  simp [listN, List.getElem?_range hj]
theorem addr_add (a j : Nat) : (⟨a, 0, none⟩ : Addr).add j = ⟨a, j, none⟩ := by
  unfold Addr.add
  split <;> simp_all
set_option maxRecDepth 100000 in
set_option maxHeartbeats 4000000 in
theorem shifted_any (n : Nat) (f : Nat → Int) (a c : Nat) (w : World) (hn : 0 < n) (hn8 : n ≤ 8) (hr : rowb w a n f) (hl : low n 45 f) (hu : upb n f) :
    Calls Try.prog 88 #[.slice (some ⟨a, 0, none⟩) n c] w fun e w' => ∃ b cap, e = .returned (.slice (some ⟨b, 0, none⟩) n cap) ∧ rowb w' b n (shft n 45 f) ∧ w.heap.size ≤ b ∧ Below w.heap.size w w' := by
  have HL := Lib.hid hl
  have HU := Lib.hid hu
  clear hl hu
  obtain ⟨F, hF⟩ : ∃ F, shft n 45 f = F := ⟨_, rfl⟩
  have HF := Lib.hid hF
  rw [hF]
  clear hF
  obtain ⟨inf, z, i1, i2, i3, i4, i5⟩ := int_info
  have hinf := Lib.hid i1
  clear i1
  have hcell : Hid (∀ j u, ((listN n f).map (Value.int .i64))[j]? = some u → w.cell? ⟨a, j, none⟩ = some u) := by
    intro j u h
    have hj : j < n := by
      rcases Nat.lt_or_ge j n with h' | h'
      · exact h'
      · rw [List.getElem?_eq_none (by simp [listN_len]; exact h')] at h; cases h
    rw [hr.cell hj]
    simpa [listN, List.getElem?_range hj] using h
  have hlt := hr.lt
  clear hr
  have hcell2 : Hid (∀ o : Obj, ∀ j u, ((listN n f).map (Value.int .i64))[j]? = some u → (w.alloc o).cell? ((⟨a, 0, none⟩ : Addr).add j) = some u) := by
    intro o j u h
    rw [addr_add]
    exact (World.cell?_alloc_old w o ⟨a, j, none⟩ (Nat.ne_of_lt hlt)).trans (hcell.out j u h)
  go_enter Try.func88, Try.ntmps88
  go_wp2_with (refine wpList_append_grows _ rfl _ _ 57 rfl 2 inf z 1 8 Try.underlying57 hinf.out i2 i3 i4 i5 (by omega) (some ⟨w.heap.size, 0, none⟩) 0 0 [] rfl (by simp) rfl (by simp) ⟨a, 0, none⟩ n c ((listN n f).map (Value.int .i64)) rfl (by simp [listN_len]) (hcell2.out _) (by intro u hu; obtain ⟨x, _, rfl⟩ := List.mem_map.1 hu; rfl) (by omega) (by simp [maxLen]; omega) (by omega) (fun v' w' ho hg => ?_); refine Or.elim ho.2 (fun h => absurd h.2 (by omega)) (fun h => ?_); obtain ⟨b, cap, cur, rfl, hb, hblk, hle, hmax, hsz, htake⟩ := h)
  have r : rowb w' b n f := rowb_of_take hblk (by simpa using htake)
  have hB : Below w.heap.size w w' := Below.grown (row := none) ((Below.refl _ _).alloc (Nat.le_refl _) _) hg (by simp) (by simp)
  have hb0 : w.heap.size ≤ b := by simp at hb; omega
  clear ho hg hb hblk hle hmax hsz htake i2 i3 i4 i5 hinf hcell hcell2
  try simp only [Nat.zero_add]
  go_loopg [] 45 (fun k_ wr => ∃ (k : Nat) (h : Nat → Int), k = k_ ∧ Hid (low n k h) ∧ Hid (upb n h) ∧ Hid (shft n k h = F) ∧ rowb wr b n h ∧ Below w.heap.size w wr)
  case atStart => exact ⟨45, f, rfl, HL, HU, HF, r, hB⟩
  case round =>
    clear r hB HL HU HF
    obtain ⟨k, h, hk_, hlow, hupb, hF, r, hB⟩ := hrel
    go_wp2_with (fail)
    go_loopg [4] n (fun g2 iv wi => ∃ i : Nat, g2 + i = n ∧ iv = .int .i64 i ∧ Hid (∀ j, j < i → sm (h j) = true) ∧ wr = wi)
    case atStart => exact ⟨0, by omega, rfl, fun j hj => by omega, rfl⟩
    case round =>
      obtain ⟨i, hi, rfl, hall, rfl⟩ := hrel
      by_cases hin : i < n
      · have hdk : decide ((i : Int) < (n : Int)) = true := decide_eq_true (by omega)
        have hdk' : decide (i < n) = true := decide_eq_true hin
        have hin' : (i : Int) < (n : Int) := by omega
        have hw3 : IntKind.i64.wrap ((i : Int) + 1) = ((i + 1 : Nat) : Int) := by rw [IntKind.wrap_i64]; omega
        have ck : wr.cell? ⟨b, i, none⟩ = some (.int .i64 (h i)) := r.cell hin
        by_cases h1 : 35184372088832 ≤ h i
        · have d1 : decide (35184372088832 ≤ h i) = true := decide_eq_true h1
          have hs : Hid (h = F) := (shft_big (sml_no hin (by rw [Bool.eq_false_iff]; intro hc; have := (sm_iff _).1 hc; omega))).symm.trans hF.out
          clear h1
          go_wp2_with (fail)
          go_ret
          exact ⟨b, cap, rfl, by rw [← hs.out]; exact r, hb0, hB⟩
        · have d1 : decide (35184372088832 ≤ h i) = false := decide_eq_false h1
          by_cases h2 : h i ≤ -35184372088832
          · have d2 : decide (h i ≤ -35184372088832) = true := decide_eq_true h2
            have hs : Hid (h = F) := (shft_big (sml_no hin (by rw [Bool.eq_false_iff]; intro hc; have := (sm_iff _).1 hc; omega))).symm.trans hF.out
            clear h1 h2
            go_wp2_with (fail)
            go_ret
            exact ⟨b, cap, rfl, by rw [← hs.out]; exact r, hb0, hB⟩
          · have d2 : decide (h i ≤ -35184372088832) = false := decide_eq_false h2
            have HS := Lib.hid ((sm_iff (h i)).2 ⟨by omega, by omega⟩)
            clear h1 h2
            go_wp2_with (fail)
            go_roundg (n - (i + 1))
            case rel =>
              refine ⟨i + 1, by omega, rfl, fun j hj => ?_, rfl⟩
              by_cases e : j = i
              · subst e; exact HS.out
              · exact hall.out j (by omega)
            case measure => omega
      · obtain rfl : i = n := by omega
        have hdk : decide ((i : Int) < (i : Int)) = false := decide_eq_false (by omega)
        have HS := Lib.hid ((sml_iff i h).2 hall.out)
        obtain ⟨m, rfl⟩ : ∃ m, k = m + 1 := by
          cases k with
          | zero => have := low_zero hlow.out; rw [HS.out] at this; cases this
          | succ m => exact ⟨m, rfl⟩
        go_wp2_with (fail)
        go_loopg [5] i (fun g3 iv wi => ∃ j : Nat, g3 + j = i ∧ iv = .int .i64 j ∧ rowb wi b i (fun q => if q < j then 2 * h q else h q) ∧ Below w.heap.size w wi)
        case atStart => exact ⟨0, by omega, rfl, r.congr fun q _ => by simp, hB⟩
        case round =>
          clear r hB
          obtain ⟨j, hj, rfl, r, hB⟩ := hrel
          by_cases hjn : j < i
          · have hdk : decide ((j : Int) < (i : Int)) = true := decide_eq_true (by omega)
            have hdk' : decide (j < i) = true := decide_eq_true hjn
            have hjn' : (j : Int) < (i : Int) := by omega
            have hw3 : IntKind.i64.wrap ((j : Int) + 1) = ((j + 1 : Nat) : Int) := by rw [IntKind.wrap_i64]; omega
            have hw2 : IntKind.i64.wrap (2 * h j) = 2 * h j := by have := hupb.out j hjn; rw [IntKind.wrap_i64]; omega
            have ck : wr.cell? ⟨b, j, none⟩ = some (.int .i64 (h j)) := by rw [r.cell hjn]; simp
            have fz : wr.frozen? ⟨b, j, none⟩ = false := r.free _
            go_wp2_with (fail)
            go_roundg (i - (j + 1))
            case rel =>
              refine ⟨j + 1, by omega, rfl, r.set hjn (by simp) (fun q hq hne => ?_), hB.setCell (by exact hb0) _⟩
              have : (q < j + 1) = (q < j) := propext (by omega)
              simp only [this]
            case measure => omega
          · obtain rfl : j = i := by omega
            have hdk : decide ((j : Int) < (j : Int)) = false := decide_eq_false (by omega)
            go_wp2_with (fail)
            go_roundg m
            case rel => exact ⟨m, dbl h, rfl, low_step hlow.out, upb_step HS.out, (shft_step HS.out).symm.trans hF.out, r.congr fun q hq => by simp [hq, dbl], hB⟩
            case measure => omega
end Go.Proofs.Ythkklhfnmodpnaa
