/-
  The frame of rows: parameters of types without references, and slices of these, opened; what is read is read again behind the call.
-/
import Derived.Test.YtkmelddejdikgaaFrameV
import Derived.Test.YtkmelddejdikgaaGyA
import Derived.WideKeyArgs
set_option linter.unusedSimpArgs false
set_option linter.unusedVariables false
namespace Go.Proofs.Ytkmelddejdikgaa
open Go.ChangeShapes Go.WideShapes Go.ChangeAt Go.RowKit
def flatAt (P : Program) : Nat → TypeId → List (Nat × Option IntKind)
  | 0, _ => []
  | g + 1, t => match P.underlying t with
    | some (.int k) => [(0, some k)]
    | some .bool => [(0, none)]
    | some (.struct fs) => fs.toList.flatMap fun f => (flatAt P g f.type).map fun x => (f.offset + x.1, x.2)
    | some (.array m e) => (List.range m).flatMap fun i => (flatAt P g e).map fun x => (i * P.cellsOf e + x.1, x.2)
    | _ => []
def okK : Option IntKind → Value → Prop
  | some k, v => ∃ n, v = .int k n ∧ (Lit.int k n).wf = true
  | none, v => ∃ b, v = .bool b
theorem take_drop_get {α : Type} {l : List α} {a n i : Nat} {v : α} (h : ((l.drop a).take n)[i]? = some v) : l[a + i]? = some v := by
  rw [List.getElem?_take] at h
  split at h
  · rwa [List.getElem?_drop] at h
  · cases h
section
variable {H : Type} {enc : TypeId × Value → H} {P : Program} {w : World} {base : Nat} {spare : Nat → Bool} {held : Bool}
theorem flat_ok : ∀ (g : Nat) {fuel : Nat} {t : TypeId} {cs : List Value} {x : DataW H × List MemPlace}, DataW.trod enc P w base spare held fuel t cs = some x →
    ∀ o k, (o, k) ∈ flatAt P g t → ∃ v, cs[o]? = some v ∧ okK k v
  | 0, _, _, _, _, _, o, k, hm => by simp [flatAt] at hm
  | g + 1, fuel, t, cs, x, h, o, k, hm => by
    unfold flatAt at hm
    split at hm
    · rename_i k' hu
      obtain ⟨n, rfl, _, hw⟩ := DataW.trod_int hu h
      simp only [List.mem_singleton, Prod.mk.injEq] at hm
      obtain ⟨rfl, rfl⟩ := hm
      exact ⟨_, rfl, n, rfl, hw⟩
    · rename_i hu
      obtain ⟨b, rfl, _⟩ := DataW.trod_bool hu h
      simp only [List.mem_singleton, Prod.mk.injEq] at hm
      obtain ⟨rfl, rfl⟩ := hm
      exact ⟨_, rfl, b, rfl⟩
    · rename_i fs hu
      obtain ⟨xs, n, _, _, _, hlen, hF⟩ := DataW.trod_struct hu h
      simp only [List.mem_flatMap, List.mem_map] at hm
      obtain ⟨f, hf, y, hy, he⟩ := hm
      obtain ⟨i, hi, rfl⟩ := List.mem_iff_getElem.1 hf
      have hi' : i < fs.size := by simpa using hi
      have h1 := hF i fs[i] (Array.getElem?_eq_getElem hi')
      rw [List.getElem?_eq_getElem (by omega)] at h1
      obtain ⟨v, hv, hk⟩ := flat_ok g h1 y.1 y.2 (by simpa using hy)
      simp only [Prod.mk.injEq] at he
      obtain ⟨rfl, rfl⟩ := he
      exact ⟨v, take_drop_get hv, hk⟩
    · rename_i m e hu
      obtain ⟨xs, n, _, _, _, hlen, hF⟩ := DataW.trod_array hu h
      simp only [List.mem_flatMap, List.mem_map, List.mem_range] at hm
      obtain ⟨i, hi, y, hy, he⟩ := hm
      have h1 := hF i hi
      rw [List.getElem?_eq_getElem (by omega)] at h1
      obtain ⟨v, hv, hk⟩ := flat_ok g h1 y.1 y.2 hy
      simp only [Prod.mk.injEq] at he
      obtain ⟨rfl, rfl⟩ := he
      exact ⟨v, take_drop_get hv, hk⟩
    · simp at hm
def flatB (P : Program) (t : TypeId) (ks : List (Option IntKind)) : Bool :=
  decide (P.cellsOf t = ks.length) && (ks.zipIdx.all fun x => (flatAt P 8 t).contains (x.2, x.1))
theorem flat_all {fuel : Nat} {t : TypeId} {cs : List Value} {x : DataW H × List MemPlace} {ks : List (Option IntKind)} (hb : flatB P t ks = true) (h : DataW.trod enc P w base spare held fuel t cs = some x) (i : Nat) (k : Option IntKind) (hk : ks[i]? = some k) :
    ∃ v, cs[i]? = some v ∧ okK k v := by
  simp only [flatB, Bool.and_eq_true, decide_eq_true_eq, List.all_eq_true] at hb
  have := hb.2 (k, i) (by rw [List.mem_zipIdx_iff_getElem?]; simpa using hk)
  exact flat_ok 8 h i k (by simpa using this)
def ElemsA (w : World) (a : Option Addr) (n sz : Nat) (C : Nat → List Value) : Prop :=
  ∀ k, k < n → ∃ b off, a = some ⟨b, off, none⟩ ∧ b < w.heap.size ∧ w.rangeAt b (off + k * sz) (C k)
theorem ElemsA.below {w w' : World} {a : Option Addr} {n sz : Nat} {C : Nat → List Value} (h : ElemsA w a n sz C) (hb : Below w.heap.size w w') : ElemsA w' a n sz C := fun k hk => by
  obtain ⟨b, off, ha, hlt, hr⟩ := h k hk
  exact ⟨b, off, ha, Nat.lt_of_lt_of_le hlt hb.size, fun j v hv => by rw [hb.cell (p := ⟨b, off + k * sz + j, none⟩) hlt]; exact hr j v hv⟩
theorem all_stays {P : Program} (hl : laidOutB P = true) {W W' : World} (hb : Below W.heap.size W W') {sp' : Nat → Bool} : ∀ (ts : List TypeId) (vs : List Value) (ds : List (DataW H)) (ps : List MemPlace),
    (ts.all fun t => P.readableRec t && decide (t < P.types.size)) = true → DataW.TrodAll enc P W 0 (fun _ => true) true ts vs ds ps → (∀ p ∈ ps, p.block < W.heap.size) → (∀ p ∈ ps, sp' p.block = true) → DataW.TrodAll enc P W' 0 sp' true ts vs ds ps
  | [], vs, ds, ps, _, h, _, _ => by
    obtain ⟨rfl, rfl, rfl⟩ := trodAll_nil h
    exact rfl
  | t :: ts, vs, ds, ps, hr, h, hlt, hs => by
    obtain ⟨v, vs1, d, ds1, a, b, rfl, rfl, rfl, h1, h2⟩ := trodAll_cons h
    simp only [List.all_cons, Bool.and_eq_true, decide_eq_true_eq] at hr
    refine ⟨a, b, Go.WideElems.Trod_stays hl hr.1.1 hr.1.2 h1 (fun p hp => hb.same (hlt p (List.mem_append_left _ hp))) (fun p hp => hs p (List.mem_append_left _ hp)), ?_, rfl⟩
    exact all_stays hl hb ts vs1 ds1 b hr.2 h2 (fun p hp => hlt p (List.mem_append_right _ hp)) (fun p hp => hs p (List.mem_append_right _ hp))
end
end Go.Proofs.Ytkmelddejdikgaa
