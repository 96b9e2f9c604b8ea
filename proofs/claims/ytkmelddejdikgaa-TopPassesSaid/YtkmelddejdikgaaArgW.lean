/-
  A sky, rules and integers among the parameters, opened.
-/
import Derived.Test.YtkmelddejdikgaaArg
import Derived.Test.YtkmelddejdikgaaPaL
set_option linter.unusedSimpArgs false
set_option linter.unusedVariables false
namespace Go.Proofs.Ytkmelddejdikgaa
open Go.ChangeShapes Go.WideShapes Go.ChangeAt Go.RowKit PM Dt
theorem wfU {a : Int} (h : (Lit.int .u32 a).wf = true) : U32 a := by
  simp [Lit.wf, IntKind.min, IntKind.max, IntKind.signed, IntKind.bits] at h
  unfold U32; omega
theorem getI {l : List Value} {i : Nat} (h : ∃ v, l[i]? = some v ∧ okK (some .i64) v) : ∃ n, l[i]? = some (.int .i64 n) ∧ I64 n := by
  obtain ⟨v, hv, n, rfl, hw⟩ := h
  exact ⟨n, hv, wfI64 hw⟩
theorem getU {l : List Value} {i : Nat} (h : ∃ v, l[i]? = some v ∧ okK (some .u32) v) : ∃ n, l[i]? = some (.int .u32 n) ∧ U32 n := by
  obtain ⟨v, hv, n, rfl, hw⟩ := h
  exact ⟨n, hv, wfU hw⟩
/-- The elements of a slice that is one cell of what was read. -/
theorem open_cell {H : Type} {enc : TypeId × Value → H} {P : Program} {w : World} {base : Nat} {spare : Nat → Bool} {held : Bool} {t e : TypeId} {fuel : Nat} {cs : List Value} {x : DataW H × List MemPlace} {ks : List (Option IntKind)} (ht : P.underlying t = some (.slice e)) (hb : flatB P e ks = true) (hpos : 0 < ks.length)
    (hf : DataW.trod enc P w base spare held fuel t cs = some x) :
    ∃ a n cap, cs = [.slice a n cap] ∧ ∃ C : Nat → List Value, Els w a n ks.length C ∧ ∀ k, k < n → (C k).length = ks.length ∧ ∀ (i : Nat) (q : Option IntKind), ks[i]? = some q → ∃ u, (C k)[i]? = some u ∧ okK q u := by
  have hsz : P.cellsOf e = ks.length := by
    simp only [flatB, Bool.and_eq_true, decide_eq_true_eq] at hb
    exact hb.1
  rcases DataW.trod_slice ht hf with ⟨hc, _⟩ | ⟨a, len, cap, elems, rest, n, _, hc, _, hbase, hlc, hcm, hel, hE, _, _⟩
  · exact ⟨none, 0, 0, hc, fun _ => [], fun k hk => by omega, fun k hk => by omega⟩
  · have key : ∀ k, ∃ l : List Value, k < len → w.cells? base (a.add (k * ks.length)) ks.length = some l ∧ ∃ z, DataW.trod enc P w base spare held n e l = some z := fun k => by
      by_cases hk : k < len
      · have h1 := hE k hk
        rw [List.getElem?_eq_getElem (by omega), hsz, Option.bind_eq_some_iff] at h1
        obtain ⟨l, hl, hz⟩ := h1
        exact ⟨l, fun _ => ⟨hl, _, hz⟩⟩
      · exact ⟨[], fun h => absurd h hk⟩
    obtain ⟨C, hC⟩ := Classical.skolem.1 key
    refine ⟨some a, len, cap, hc, C, fun k hk => ?_, fun k hk => ?_⟩
    · obtain ⟨b, off, spot⟩ := a
      have h0 := World.cells?_some (hC 0 (by omega)).1
      have hsp : spot = none := by
        have h1 := h0.2.2 0 hpos
        rw [List.getElem?_eq_getElem (by omega)] at h1
        simpa [Addr.add] using World.cell?_spot h1
      subst hsp
      have h2 := World.cells?_some (hC k hk).1
      refine ⟨b, off, rfl, ?_, fun j u hj => ?_⟩
      · have := World.cells?_block (hC k hk).1 hpos
        simpa [Addr.add] using (by
          by_cases hz : k * ks.length = 0
          · simpa [Addr.add, hz] using this
          · simpa [Addr.add, hz] using this)
      · have hjl : j < (C k).length := (List.getElem?_eq_some_iff.1 hj).1
        have h3 := h2.2.2 j (by omega)
        rw [Go.WideShapes.add_plain, Go.WideShapes.add_plain] at h3
        rw [h3, hj]
    · have h2 := World.cells?_some (hC k hk).1
      obtain ⟨z, hz⟩ := (hC k hk).2
      exact ⟨h2.2.1, fun i q hq => flat_all hb hz i q hq⟩
theorem list3w {α : Type} (l : List α) (h : l.length = 3) : ∃ c0 c1 c2, l = [c0, c1, c2] := by
  match l, h with
  | [c0, c1, c2], _ => exact ⟨c0, c1, c2, rfl⟩
theorem list11w {α : Type} (l : List α) (h : l.length = 11) : ∃ c0 c1 c2 c3 c4 c5 c6 c7 c8 c9 c10, l = [c0, c1, c2, c3, c4, c5, c6, c7, c8, c9, c10] := by
  match l, h with
  | [c0, c1, c2, c3, c4, c5, c6, c7, c8, c9, c10], _ => exact ⟨c0, c1, c2, c3, c4, c5, c6, c7, c8, c9, c10, rfl⟩
def of8 (a b c d e f g h : Int) : Nat → Int
  | 0 => a
  | 1 => b
  | 2 => c
  | 3 => d
  | 4 => e
  | 5 => f
  | 6 => g
  | _ => h
/-- What a sky is. -/
abbrev SkyT := (Nat → Int) × (Option Addr × Nat × Nat) × (Nat → Nat → Int) × Int × Int
def skyA (x : SkyT) : Value := .agg (skc (x.1, .slice x.2.1.1 x.2.1.2.1 x.2.1.2.2, x.2.2.2.1, x.2.2.2.2))
def Wsky (x : SkyT) : Prop := OO x.1 ∧ (∀ k, k < x.2.1.2.1 → SS (x.2.2.1 k)) ∧ I64 x.2.2.2.1 ∧ I64 x.2.2.2.2
def Esky (w : World) (x : SkyT) : Prop := Els w x.2.1.1 x.2.1.2.1 3 (fun k => (stn (x.2.2.1 k)).toList)
set_option maxRecDepth 100000 in
theorem open_sky {H : Type} {enc : TypeId × Value → H} {W : World} {base : Nat} {spare : Nat → Bool} {held : Bool} {v : Value} {d : DataW H} {p : List MemPlace}
    (hval : Value.okWide Try.prog W .any base 55 v) (h : DataW.Trod enc Try.prog W 0 spare held 55 v d p) : ∃ x, v = skyA x ∧ Wsky x ∧ Esky W x := by
  obtain ⟨cs, rfl, hsz, _⟩ : ∃ cs, v = .agg cs ∧ cs.size = Try.prog.cellsOf 55 ∧ Row.okWide Try.prog W .any base 55 cs := by
    simpa [Value.okWide, Try.underlying55] using hval
  rw [show Try.prog.cellsOf 55 = 11 by kernel_rfl] at hsz
  obtain ⟨l⟩ := cs
  obtain ⟨c0, c1, c2, c3, c4, c5, c6, c7, c8, c9, c10, rfl⟩ := list11w l hsz
  obtain ⟨fuel, hf⟩ := h
  obtain ⟨xs, n, _, hx, hl, hlen, hF⟩ := DataW.trod_struct Try.underlying55 hf
  obtain ⟨y0, y1, y2, rfl⟩ := list3w xs (by simpa using hlen)
  have k0 : Try.prog.cellsOf 50 = 8 := by kernel_rfl
  have k1 : Try.prog.cellsOf 51 = 1 := by kernel_rfl
  have k2 : Try.prog.cellsOf 53 = 2 := by kernel_rfl
  have h0 := hF 0 _ rfl
  have h1 := hF 1 _ rfl
  have h2 := hF 2 _ rfl
  have f0 : DataW.trod enc Try.prog W 0 spare held n 50 (List.take (Try.prog.cellsOf 50) (List.drop 0 [c0, c1, c2, c3, c4, c5, c6, c7, c8, c9, c10])) = some y0 := h0
  rw [k0] at f0
  replace f0 : DataW.trod enc Try.prog W 0 spare held n 50 [c0, c1, c2, c3, c4, c5, c6, c7] = some y0 := f0
  have f1 : DataW.trod enc Try.prog W 0 spare held n 51 (List.take (Try.prog.cellsOf 51) (List.drop 8 [c0, c1, c2, c3, c4, c5, c6, c7, c8, c9, c10])) = some y1 := h1
  rw [k1] at f1
  replace f1 : DataW.trod enc Try.prog W 0 spare held n 51 [c8] = some y1 := f1
  have f2 : DataW.trod enc Try.prog W 0 spare held n 53 (List.take (Try.prog.cellsOf 53) (List.drop 9 [c0, c1, c2, c3, c4, c5, c6, c7, c8, c9, c10])) = some y2 := h2
  rw [k2] at f2
  replace f2 : DataW.trod enc Try.prog W 0 spare held n 53 [c9, c10] = some y2 := f2
  have A := fun i k hk => flat_all (ks := [some .i64, some .i64, some .i64, some .u32, some .u32, some .u32, some .u32, some .i64]) (by kernel_rfl) f0 i k hk
  have B := fun i k hk => flat_all (ks := [some .i64, some .i64]) (by kernel_rfl) f2 i k hk
  obtain ⟨n0, e0, w0⟩ := getI (A 0 _ rfl)
  cases e0
  obtain ⟨n1, e1, w1⟩ := getI (A 1 _ rfl)
  cases e1
  obtain ⟨n2, e2, w2⟩ := getI (A 2 _ rfl)
  cases e2
  obtain ⟨n3, e3, w3⟩ := getU (A 3 _ rfl)
  cases e3
  obtain ⟨n4, e4, w4⟩ := getU (A 4 _ rfl)
  cases e4
  obtain ⟨n5, e5, w5⟩ := getU (A 5 _ rfl)
  cases e5
  obtain ⟨n6, e6, w6⟩ := getU (A 6 _ rfl)
  cases e6
  obtain ⟨n7, e7, w7⟩ := getI (A 7 _ rfl)
  cases e7
  obtain ⟨n9, e9, w9⟩ := getI (B 0 _ rfl)
  cases e9
  obtain ⟨n10, e10, w10⟩ := getI (B 1 _ rfl)
  cases e10
  obtain ⟨a, m, cap, hc8, C, hE, hC⟩ := open_cell (ks := [some .u32, some .u32, some .i64]) Try.underlying51 (by kernel_rfl) (by decide) f1
  obtain rfl : c8 = .slice a m cap := by simpa using hc8
  have key : ∀ k, ∃ s : Nat → Int, k < m → C k = (stn s).toList ∧ SS s := fun k => by
    by_cases hk : k < m
    · obtain ⟨g0, g1⟩ := hC k hk
      obtain ⟨d0, d1, d2, hd⟩ := list3w (C k) g0
      rw [hd] at g1
      obtain ⟨m0, q0, v0⟩ := getU (g1 0 _ rfl)
      obtain ⟨m1, q1, v1⟩ := getU (g1 1 _ rfl)
      obtain ⟨m2, q2, v2⟩ := getI (g1 2 _ rfl)
      cases q0
      cases q1
      cases q2
      exact ⟨of8 m0 m1 m2 0 0 0 0 0, fun _ => ⟨hd, v0, v1, v2⟩⟩
    · exact ⟨fun _ => 0, fun h => absurd h hk⟩
  obtain ⟨S, hS⟩ := Classical.skolem.1 key
  refine ⟨(of8 n0 n1 n2 n3 n4 n5 n6 n7, (a, m, cap), S, n9, n10), rfl, ⟨⟨⟨w0, w1, w2, w7⟩, w3, w4, w5, w6⟩, fun k hk => (hS k hk).2, w9, w10⟩, fun k hk => ?_⟩
  obtain ⟨b, off, r1, r2, r3⟩ := hE k hk
  rw [(hS k hk).1] at r3
  exact ⟨b, off, r1, r2, r3⟩
set_option maxRecDepth 100000 in
theorem open_rules {H : Type} {enc : TypeId × Value → H} {W : World} {base : Nat} {spare : Nat → Bool} {held : Bool} {v : Value} {d : DataW H} {p : List MemPlace}
    (hval : Value.okWide Try.prog W .any base 57 v) (h : DataW.Trod enc Try.prog W 0 spare held 57 v d p) : ∃ x, v = .agg (ruc x) ∧ True := by
  obtain ⟨cs, rfl, hsz, _⟩ : ∃ cs, v = .agg cs ∧ cs.size = Try.prog.cellsOf 57 ∧ Row.okWide Try.prog W .any base 57 cs := by
    simpa [Value.okWide, Try.underlying57] using hval
  rw [show Try.prog.cellsOf 57 = 3 by kernel_rfl] at hsz
  obtain ⟨l⟩ := cs
  obtain ⟨c0, c1, c2, rfl⟩ := list3w l hsz
  obtain ⟨fuel, hf⟩ := h
  have A := fun i k hk => flat_all (ks := [some .i64, some .i64, some .i64]) (by kernel_rfl) hf i k hk
  obtain ⟨n0, e0, w0⟩ := getI (A 0 _ rfl)
  cases e0
  obtain ⟨n1, e1, w1⟩ := getI (A 1 _ rfl)
  cases e1
  obtain ⟨n2, e2, w2⟩ := getI (A 2 _ rfl)
  cases e2
  exact ⟨(n0, n1, n2), rfl, trivial⟩
def intc (x : Int) : Array Value := #[.int .i64 x]
set_option maxRecDepth 100000 in
theorem open_ints1 {H : Type} {enc : TypeId × Value → H} {W : World} {base : Nat} {spare : Nat → Bool} {held : Bool} {v : Value} {d : DataW H} {p : List MemPlace}
    (hval : Value.okWide Try.prog W .any base 58 v) (h : DataW.Trod enc Try.prog W 0 spare held 58 v d p) : ∃ a n cap, v = .slice a n cap ∧ n ≤ maxLen ∧ ∃ M : Nat → Int, ElemsA W a n 1 (fun k => (intc (M k)).toList) ∧ ∀ k, k < n → I64 (M k) := by
  obtain ⟨a, n, cap, rfl, hc, hm, C, hC, hk⟩ := open_elems (ks := [some .i64]) Try.underlying58 (by kernel_rfl) (by decide) hval h
  have key : ∀ k, ∃ x, k < n → C k = (intc x).toList ∧ I64 x := fun k => by
    by_cases hkn : k < n
    · obtain ⟨g0, g1⟩ := hk k hkn
      obtain ⟨m0, q0, v0⟩ := getI (g1 0 _ rfl)
      refine ⟨m0, fun _ => ⟨?_, v0⟩⟩
      match hl : C k, g0 with
      | [c], _ => rw [hl] at q0; cases q0; rfl
    · exact ⟨0, fun h => absurd h hkn⟩
  obtain ⟨M, hM⟩ := Classical.skolem.1 key
  refine ⟨a, n, cap, rfl, by omega, M, fun k hkn => ?_, fun k hkn => (hM k hkn).2⟩
  show ∃ b off, a = some ⟨b, off, none⟩ ∧ b < W.heap.size ∧ W.rangeAt b (off + k * 1) ((intc (M k)).toList)
  rw [← (hM k hkn).1]
  exact hC k hkn
end Go.Proofs.Ytkmelddejdikgaa
