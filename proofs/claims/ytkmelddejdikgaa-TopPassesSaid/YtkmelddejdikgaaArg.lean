/-
  The first line of the translated program as a list of signs, and what the rows ask of it. Small laws for the rows: what it means that an argument fits its kind, and the closed facts of a row. A vector of three numbers as a row's argument: opened and shut. The frame of rows: parameters of types without references, and slices of these, opened; what is read is read again behind the call.
-/
import Derived.Test.YtkmelddejdikgaaRows
import Derived.ProofKit
import Derived.JoinedOf
import Derived.Test.YtkmelddejdikgaaHyp
import Derived.OpenShut
import Derived.Test.YtkmelddejdikgaaLawVec
import Derived.Laws.IdiomArrays
import Derived.WalkKit
import Derived.ShutString
import Derived.ChangeOld
import Derived.Below
import Derived.Test.YtkmelddejdikgaaGyA
import Derived.WideKeyArgs
set_option linter.unusedSimpArgs false
set_option linter.unusedVariables false
namespace Go.Proofs.Ytkmelddejdikgaa
def headLine : String := "harness 56cb0a195e1de27e407ed297ebc1e53fe242d58c6e0944952e7e992012229712 cut at perigee/perigeelaw20.StarsResiduals perigee/perigeelaw20.StarsKnown perigee/perigeelaw20.StarsExchanged perigee/perigeelaw20.StarsExact perigee/perigeetop.TopPasses perigee/perigeelaw26.SteerSuns perigee/perigeelaw26.SteerPoints perigee/perigeelaw21.GyrosSettles"
def headSigns : List Char := [Char.ofNat 104, Char.ofNat 97, Char.ofNat 114, Char.ofNat 110, Char.ofNat 101, Char.ofNat 115, Char.ofNat 115, Char.ofNat 32, Char.ofNat 53, Char.ofNat 54, Char.ofNat 99, Char.ofNat 98, Char.ofNat 48, Char.ofNat 97, Char.ofNat 49, Char.ofNat 57, Char.ofNat 53, Char.ofNat 101, Char.ofNat 49, Char.ofNat 100, Char.ofNat 101, Char.ofNat 50, Char.ofNat 55, Char.ofNat 101, Char.ofNat 52, Char.ofNat 48, Char.ofNat 55, Char.ofNat 101, Char.ofNat 100, Char.ofNat 50, Char.ofNat 57, Char.ofNat 55, Char.ofNat 101, Char.ofNat 98, Char.ofNat 99, Char.ofNat 49, Char.ofNat 101, Char.ofNat 53, Char.ofNat 51, Char.ofNat 102, Char.ofNat 101, Char.ofNat 50, Char.ofNat 52, Char.ofNat 50, Char.ofNat 100, Char.ofNat 53, Char.ofNat 56, Char.ofNat 99, Char.ofNat 54, Char.ofNat 101, Char.ofNat 48, Char.ofNat 57, Char.ofNat 52, Char.ofNat 52, Char.ofNat 57, Char.ofNat 53, Char.ofNat 50, Char.ofNat 101, Char.ofNat 55, Char.ofNat 101, Char.ofNat 57, Char.ofNat 57, Char.ofNat 50, Char.ofNat 48, Char.ofNat 49, Char.ofNat 50, Char.ofNat 50, Char.ofNat 50, Char.ofNat 57, Char.ofNat 55, Char.ofNat 49, Char.ofNat 50, Char.ofNat 32, Char.ofNat 99, Char.ofNat 117, Char.ofNat 116, Char.ofNat 32, Char.ofNat 97, Char.ofNat 116, Char.ofNat 32, Char.ofNat 112, Char.ofNat 101, Char.ofNat 114, Char.ofNat 105, Char.ofNat 103, Char.ofNat 101, Char.ofNat 101, Char.ofNat 47, Char.ofNat 112, Char.ofNat 101, Char.ofNat 114, Char.ofNat 105, Char.ofNat 103, Char.ofNat 101, Char.ofNat 101, Char.ofNat 108, Char.ofNat 97, Char.ofNat 119, Char.ofNat 50, Char.ofNat 48, Char.ofNat 46, Char.ofNat 83, Char.ofNat 116, Char.ofNat 97, Char.ofNat 114, Char.ofNat 115, Char.ofNat 82, Char.ofNat 101, Char.ofNat 115, Char.ofNat 105, Char.ofNat 100, Char.ofNat 117, Char.ofNat 97, Char.ofNat 108, Char.ofNat 115, Char.ofNat 32, Char.ofNat 112, Char.ofNat 101, Char.ofNat 114, Char.ofNat 105, Char.ofNat 103, Char.ofNat 101, Char.ofNat 101, Char.ofNat 47, Char.ofNat 112, Char.ofNat 101, Char.ofNat 114, Char.ofNat 105, Char.ofNat 103, Char.ofNat 101, Char.ofNat 101, Char.ofNat 108, Char.ofNat 97, Char.ofNat 119, Char.ofNat 50, Char.ofNat 48, Char.ofNat 46, Char.ofNat 83, Char.ofNat 116, Char.ofNat 97, Char.ofNat 114, Char.ofNat 115, Char.ofNat 75, Char.ofNat 110, Char.ofNat 111, Char.ofNat 119, Char.ofNat 110, Char.ofNat 32, Char.ofNat 112, Char.ofNat 101, Char.ofNat 114, Char.ofNat 105, Char.ofNat 103, Char.ofNat 101, Char.ofNat 101, Char.ofNat 47, Char.ofNat 112, Char.ofNat 101, Char.ofNat 114, Char.ofNat 105, Char.ofNat 103, Char.ofNat 101, Char.ofNat 101, Char.ofNat 108, Char.ofNat 97, Char.ofNat 119, Char.ofNat 50, Char.ofNat 48, Char.ofNat 46, Char.ofNat 83, Char.ofNat 116, Char.ofNat 97, Char.ofNat 114, Char.ofNat 115, Char.ofNat 69, Char.ofNat 120, Char.ofNat 99, Char.ofNat 104, Char.ofNat 97, Char.ofNat 110, Char.ofNat 103, Char.ofNat 101, Char.ofNat 100, Char.ofNat 32, Char.ofNat 112, Char.ofNat 101, Char.ofNat 114, Char.ofNat 105, Char.ofNat 103, Char.ofNat 101, Char.ofNat 101, Char.ofNat 47, Char.ofNat 112, Char.ofNat 101, Char.ofNat 114, Char.ofNat 105, Char.ofNat 103, Char.ofNat 101, Char.ofNat 101, Char.ofNat 108, Char.ofNat 97, Char.ofNat 119, Char.ofNat 50, Char.ofNat 48, Char.ofNat 46, Char.ofNat 83, Char.ofNat 116, Char.ofNat 97, Char.ofNat 114, Char.ofNat 115, Char.ofNat 69, Char.ofNat 120, Char.ofNat 97, Char.ofNat 99, Char.ofNat 116, Char.ofNat 32, Char.ofNat 112, Char.ofNat 101, Char.ofNat 114, Char.ofNat 105, Char.ofNat 103, Char.ofNat 101, Char.ofNat 101, Char.ofNat 47, Char.ofNat 112, Char.ofNat 101, Char.ofNat 114, Char.ofNat 105, Char.ofNat 103, Char.ofNat 101, Char.ofNat 101, Char.ofNat 116, Char.ofNat 111, Char.ofNat 112, Char.ofNat 46, Char.ofNat 84, Char.ofNat 111, Char.ofNat 112, Char.ofNat 80, Char.ofNat 97, Char.ofNat 115, Char.ofNat 115, Char.ofNat 101, Char.ofNat 115, Char.ofNat 32, Char.ofNat 112, Char.ofNat 101, Char.ofNat 114, Char.ofNat 105, Char.ofNat 103, Char.ofNat 101, Char.ofNat 101, Char.ofNat 47, Char.ofNat 112, Char.ofNat 101, Char.ofNat 114, Char.ofNat 105, Char.ofNat 103, Char.ofNat 101, Char.ofNat 101, Char.ofNat 108, Char.ofNat 97, Char.ofNat 119, Char.ofNat 50, Char.ofNat 54, Char.ofNat 46, Char.ofNat 83, Char.ofNat 116, Char.ofNat 101, Char.ofNat 101, Char.ofNat 114, Char.ofNat 83, Char.ofNat 117, Char.ofNat 110, Char.ofNat 115, Char.ofNat 32, Char.ofNat 112, Char.ofNat 101, Char.ofNat 114, Char.ofNat 105, Char.ofNat 103, Char.ofNat 101, Char.ofNat 101, Char.ofNat 47, Char.ofNat 112, Char.ofNat 101, Char.ofNat 114, Char.ofNat 105, Char.ofNat 103, Char.ofNat 101, Char.ofNat 101, Char.ofNat 108, Char.ofNat 97, Char.ofNat 119, Char.ofNat 50, Char.ofNat 54, Char.ofNat 46, Char.ofNat 83, Char.ofNat 116, Char.ofNat 101, Char.ofNat 101, Char.ofNat 114, Char.ofNat 80, Char.ofNat 111, Char.ofNat 105, Char.ofNat 110, Char.ofNat 116, Char.ofNat 115, Char.ofNat 32, Char.ofNat 112, Char.ofNat 101, Char.ofNat 114, Char.ofNat 105, Char.ofNat 103, Char.ofNat 101, Char.ofNat 101, Char.ofNat 47, Char.ofNat 112, Char.ofNat 101, Char.ofNat 114, Char.ofNat 105, Char.ofNat 103, Char.ofNat 101, Char.ofNat 101, Char.ofNat 108, Char.ofNat 97, Char.ofNat 119, Char.ofNat 50, Char.ofNat 49, Char.ofNat 46, Char.ofNat 71, Char.ofNat 121, Char.ofNat 114, Char.ofNat 111, Char.ofNat 115, Char.ofNat 83, Char.ofNat 101, Char.ofNat 116, Char.ofNat 116, Char.ofNat 108, Char.ofNat 101, Char.ofNat 115]
theorem headLine_signs : headLine = String.ofList headSigns := by kernel_rfl
theorem headLine_toList : headLine.toList = headSigns := by rw [headLine_signs, String.toList_ofList]
theorem prog_initOrder : Try.pinned.checked.prog.initOrder = headLine := by kernel_rfl
theorem prog_signs : Try.pinned.checked.prog.initOrder.toList = headSigns := by rw [prog_initOrder, headLine_toList]
theorem prog_words : ∃ rest, behindMainWord (wordsSigns headSigns) = "cut".toList :: rest := ⟨(behindMainWord (wordsSigns headSigns)).tail, by kernel_rfl⟩
theorem prog_laysLater : Program.laysLater Try.pinned.checked.prog = false := by kernel_rfl
theorem prog_bearsReflect : Program.bearsReflect Try.pinned.checked.prog = false := by kernel_rfl
theorem prog_liftsFinal : Program.liftsFinal Try.pinned.checked.prog = false := by
  unfold Program.liftsFinal Program.headLifts
  rw [prog_signs]
  kernel_rfl
theorem make_of (P : Program) (rest : List (List Char)) (h : behindMainWord (wordsSigns P.initOrder.toList) = "cut".toList :: rest) : P.make = some .cut := by
  unfold Program.make
  rw [h]
  rfl
theorem mayEnter_of (P : Program) (rest : List (List Char)) (h : behindMainWord (wordsSigns P.initOrder.toList) = "cut".toList :: rest)
    (h1 : P.laysLater = false) (h2 : P.bearsReflect = false) (h3 : P.doorFits [] = true) : P.mayEnter = true := by
  have hs : stripLifts liftWords ("cut".toList :: rest) = ([], "cut".toList :: rest) := rfl
  unfold Program.mayEnter
  rw [h]
  simp only [hs, h1, h2, h3]
  simp
theorem prog_door : Program.doorFits Try.pinned.checked.prog [] = true := by kernel_rfl
theorem prog_make : Program.make Try.pinned.checked.prog = some .cut := by
  obtain ⟨rest, h⟩ := prog_words
  exact make_of _ rest ((congrArg (fun l => behindMainWord (wordsSigns l)) prog_signs).trans h)
theorem prog_mayEnter : Program.mayEnter Try.pinned.checked.prog = true := by
  obtain ⟨rest, h⟩ := prog_words
  exact mayEnter_of _ rest ((congrArg (fun l => behindMainWord (wordsSigns l)) prog_signs).trans h) prog_laysLater prog_bearsReflect prog_door
end Go.Proofs.Ytkmelddejdikgaa
namespace Go.Proofs.Ytkmelddejdikgaa
open Go.RowKit
theorem wfI64 {a : Int} (h : (Lit.int .i64 a).wf = true) : I64 a := by
  simp only [Lit.wf, Bool.and_eq_true, decide_eq_true_eq] at h
  exact ⟨h.1, h.2⟩
end Go.Proofs.Ytkmelddejdikgaa
namespace Go.Proofs.Ytkmelddejdikgaa
open Go.ChangeShapes Go.WideShapes Go.ChangeAt Go.RowKit
end Go.Proofs.Ytkmelddejdikgaa
namespace Go.Proofs.Ytkmelddejdikgaa
open Go.ChangeShapes Go.WideShapes Go.ChangeAt Go.RowKit
/-- Where the cells of a type without references lie, and their kinds. -/
def flatAt (P : Program) : Nat → TypeId → List (Nat × Option IntKind)
  | 0, _ => []
  | g + 1, t => match P.underlying t with
    | some (.int k) => [(0, some k)]
    | some .bool => [(0, none)]
    | some (.struct fs) => fs.toList.flatMap fun f => (flatAt P g f.type).map fun x => (f.offset + x.1, x.2)
    | some (.array m e) => (List.range m).flatMap fun i => (flatAt P g e).map fun x => (i * P.cellsOf e + x.1, x.2)
    | _ => []
def okK : Option IntKind → Value → Prop
  | some k, v => ∃ n, v = .int k n ∧ (Lit.int k n).wf = true
  | none, v => ∃ b, v = .bool b
theorem take_drop_get {α : Type} {l : List α} {a n i : Nat} {v : α} (h : ((l.drop a).take n)[i]? = some v) : l[a + i]? = some v := by
  rw [List.getElem?_take] at h
  split at h
  · rwa [List.getElem?_drop] at h
  · cases h
section
variable {H : Type} {enc : TypeId × Value → H} {P : Program} {w : World} {base : Nat} {spare : Nat → Bool} {held : Bool}
theorem flat_ok : ∀ (g : Nat) {fuel : Nat} {t : TypeId} {cs : List Value} {x : DataW H × List MemPlace}, DataW.trod enc P w base spare held fuel t cs = some x →
    ∀ o k, (o, k) ∈ flatAt P g t → ∃ v, cs[o]? = some v ∧ okK k v
  | 0, _, _, _, _, _, o, k, hm => by simp [flatAt] at hm
  | g + 1, fuel, t, cs, x, h, o, k, hm => by
    unfold flatAt at hm
    split at hm
    · rename_i k' hu
      obtain ⟨n, rfl, _, hw⟩ := DataW.trod_int hu h
      simp only [List.mem_singleton, Prod.mk.injEq] at hm
      obtain ⟨rfl, rfl⟩ := hm
      exact ⟨_, rfl, n, rfl, hw⟩
    · rename_i hu
      obtain ⟨b, rfl, _⟩ := DataW.trod_bool hu h
      simp only [List.mem_singleton, Prod.mk.injEq] at hm
      obtain ⟨rfl, rfl⟩ := hm
      exact ⟨_, rfl, b, rfl⟩
    · rename_i fs hu
      obtain ⟨xs, n, _, _, _, hlen, hF⟩ := DataW.trod_struct hu h
      simp only [List.mem_flatMap, List.mem_map] at hm
      obtain ⟨f, hf, y, hy, he⟩ := hm
      obtain ⟨i, hi, rfl⟩ := List.mem_iff_getElem.1 hf
      have hi' : i < fs.size := by simpa using hi
      have h1 := hF i fs[i] (Array.getElem?_eq_getElem hi')
      rw [List.getElem?_eq_getElem (by omega)] at h1
      obtain ⟨v, hv, hk⟩ := flat_ok g h1 y.1 y.2 (by simpa using hy)
      simp only [Prod.mk.injEq] at he
      obtain ⟨rfl, rfl⟩ := he
      exact ⟨v, take_drop_get hv, hk⟩
    · rename_i m e hu
      obtain ⟨xs, n, _, _, _, hlen, hF⟩ := DataW.trod_array hu h
      simp only [List.mem_flatMap, List.mem_map, List.mem_range] at hm
      obtain ⟨i, hi, y, hy, he⟩ := hm
      have h1 := hF i hi
      rw [List.getElem?_eq_getElem (by omega)] at h1
      obtain ⟨v, hv, hk⟩ := flat_ok g h1 y.1 y.2 hy
      simp only [Prod.mk.injEq] at he
      obtain ⟨rfl, rfl⟩ := he
      exact ⟨v, take_drop_get hv, hk⟩
    · simp at hm
/-- The cells' kinds, one by one. -/
def flatB (P : Program) (t : TypeId) (ks : List (Option IntKind)) : Bool :=
  decide (P.cellsOf t = ks.length) && (ks.zipIdx.all fun x => (flatAt P 8 t).contains (x.2, x.1))
theorem flat_all {fuel : Nat} {t : TypeId} {cs : List Value} {x : DataW H × List MemPlace} {ks : List (Option IntKind)} (hb : flatB P t ks = true) (h : DataW.trod enc P w base spare held fuel t cs = some x) (i : Nat) (k : Option IntKind) (hk : ks[i]? = some k) :
    ∃ v, cs[i]? = some v ∧ okK k v := by
  simp only [flatB, Bool.and_eq_true, decide_eq_true_eq, List.all_eq_true] at hb
  have := hb.2 (k, i) (by rw [List.mem_zipIdx_iff_getElem?]; simpa using hk)
  exact flat_ok 8 h i k (by simpa using this)
/-- The elements of a slice: each lies as the list says. -/
def ElemsA (w : World) (a : Option Addr) (n sz : Nat) (C : Nat → List Value) : Prop :=
  ∀ k, k < n → ∃ b off, a = some ⟨b, off, none⟩ ∧ b < w.heap.size ∧ w.rangeAt b (off + k * sz) (C k)
theorem open_elems {t e : TypeId} {v : Value} {d : DataW H} {p : List MemPlace} {ks : List (Option IntKind)} (ht : P.underlying t = some (.slice e)) (hb : flatB P e ks = true) (hpos : 0 < ks.length) {W0 : World} {base0 : Nat} (hval : Value.okWide P W0 .any base0 t v)
    (h : DataW.Trod enc P w base spare held t v d p) :
    ∃ a n cap, v = .slice a n cap ∧ n ≤ cap ∧ cap ≤ maxLen ∧ ∃ C : Nat → List Value, ElemsA w a n ks.length C ∧ ∀ k, k < n → (C k).length = ks.length ∧ ∀ (i : Nat) (q : Option IntKind), ks[i]? = some q → ∃ u, (C k)[i]? = some u ∧ okK q u := by
  have hsz : P.cellsOf e = ks.length := by
    simp only [flatB, Bool.and_eq_true, decide_eq_true_eq] at hb
    exact hb.1
  have hna : ∀ cs, v ≠ .agg cs := by rintro cs rfl; simp [Value.okWide, ht, Cell.okWide, Cell.ok] at hval
  obtain ⟨fuel, hf⟩ := h
  rcases DataW.trod_slice ht hf with ⟨hc, _⟩ | ⟨a, len, cap, elems, rest, n, _, hc, _, hbase, hlc, hcm, hel, hE, _, _⟩
  · have hv : v = .slice none 0 0 := by cases v <;> simp_all [Value.cells]
    exact ⟨none, 0, 0, hv, by omega, by unfold maxLen; omega, fun _ => [], fun k hk => by omega, fun k hk => by omega⟩
  · have hv : v = .slice (some a) len cap := by cases v <;> simp_all [Value.cells]
    have key : ∀ k, ∃ l : List Value, k < len → w.cells? base (a.add (k * ks.length)) ks.length = some l ∧ ∃ z, DataW.trod enc P w base spare held n e l = some z := fun k => by
      by_cases hk : k < len
      · have h1 := hE k hk
        rw [List.getElem?_eq_getElem (by omega), hsz, Option.bind_eq_some_iff] at h1
        obtain ⟨l, hl, hz⟩ := h1
        exact ⟨l, fun _ => ⟨hl, _, hz⟩⟩
      · exact ⟨[], fun h => absurd h hk⟩
    obtain ⟨C, hC⟩ := Classical.skolem.1 key
    refine ⟨some a, len, cap, hv, hlc, hcm, C, fun k hk => ?_, fun k hk => ?_⟩
    · obtain ⟨b, off, spot⟩ := a
      have h0 := World.cells?_some (hC 0 (by omega)).1
      have hsp : spot = none := by
        have h1 := h0.2.2 0 hpos
        rw [List.getElem?_eq_getElem (by omega)] at h1
        simpa [Addr.add] using World.cell?_spot h1
      subst hsp
      have h2 := World.cells?_some (hC k hk).1
      refine ⟨b, off, rfl, ?_, fun j u hj => ?_⟩
      · have := World.cells?_block (hC k hk).1 hpos
        simpa [Addr.add] using (by
          by_cases hz : k * ks.length = 0
          · simpa [Addr.add, hz] using this
          · simpa [Addr.add, hz] using this)
      · have hjl : j < (C k).length := (List.getElem?_eq_some_iff.1 hj).1
        have h3 := h2.2.2 j (by omega)
        rw [Go.WideShapes.add_plain, Go.WideShapes.add_plain] at h3
        rw [h3, hj]
    · have h2 := World.cells?_some (hC k hk).1
      obtain ⟨z, hz⟩ := (hC k hk).2
      exact ⟨h2.2.1, fun i q hq => flat_all hb hz i q hq⟩
theorem ElemsA.below {w w' : World} {a : Option Addr} {n sz : Nat} {C : Nat → List Value} (h : ElemsA w a n sz C) (hb : Below w.heap.size w w') : ElemsA w' a n sz C := fun k hk => by
  obtain ⟨b, off, ha, hlt, hr⟩ := h k hk
  exact ⟨b, off, ha, Nat.lt_of_lt_of_le hlt hb.size, fun j v hv => by rw [hb.cell (p := ⟨b, off + k * sz + j, none⟩) hlt]; exact hr j v hv⟩
theorem all_stays {P : Program} (hl : laidOutB P = true) {W W' : World} (hb : Below W.heap.size W W') {sp' : Nat → Bool} : ∀ (ts : List TypeId) (vs : List Value) (ds : List (DataW H)) (ps : List MemPlace),
    (ts.all fun t => P.readableRec t && decide (t < P.types.size)) = true → DataW.TrodAll enc P W 0 (fun _ => true) true ts vs ds ps → (∀ p ∈ ps, p.block < W.heap.size) → (∀ p ∈ ps, sp' p.block = true) → DataW.TrodAll enc P W' 0 sp' true ts vs ds ps
  | [], vs, ds, ps, _, h, _, _ => by
    obtain ⟨rfl, rfl, rfl⟩ := trodAll_nil h
    exact rfl
  | t :: ts, vs, ds, ps, hr, h, hlt, hs => by
    obtain ⟨v, vs1, d, ds1, a, b, rfl, rfl, rfl, h1, h2⟩ := trodAll_cons h
    simp only [List.all_cons, Bool.and_eq_true, decide_eq_true_eq] at hr
    refine ⟨a, b, Go.WideElems.Trod_stays hl hr.1.1 hr.1.2 h1 (fun p hp => hb.same (hlt p (List.mem_append_left _ hp))) (fun p hp => hs p (List.mem_append_left _ hp)), ?_, rfl⟩
    exact all_stays hl hb ts vs1 ds1 b hr.2 h2 (fun p hp => hlt p (List.mem_append_right _ hp)) (fun p hp => hs p (List.mem_append_right _ hp))
end
end Go.Proofs.Ytkmelddejdikgaa
