/-
  Products and norms of vectors of three numbers, in the package and in its specification.
-/
import Derived.Test.YthkklhfnmodpnaaVecA
import Derived.Test.YthkklhfnmodpnaaPoly
set_option linter.unusedSimpArgs false
set_option linter.unusedVariables false
namespace Go.Proofs.Ythkklhfnmodpnaa
open Go.RowKit PM Dt
theorem wpList_load_rowG {P : Program} {ops : Array Oper} {rest : List Oper} {o : Oper} {a : Act} {w : World} {Q : Exit → Act → World → Prop} (hw : Region.wanted o (yielded ops a.tmps) = true) (ty : TypeId) (x : Operand) (ho : o.op = .load ty x)
    (g : Nat) (hx : a.eval x = .pointer (some ⟨g, 0, none⟩)) (t : TypeId) (cs : Array Value) (fr : Nat × Nat) (d : TypeDesc) (hg : w.heap[g]? = some (.cells cs t fr))
    (hu : P.underlying ty = some d) (hd : (match d with | .struct _ | .array _ _ => true | _ => false) = true) (hi : (P.info? ty).map (·.size) = some cs.size)
    (h : wpList P ops Q rest (a.put o.dst (.agg cs)) w) : wpList P ops Q (o :: rest) a w :=
  wpList_step fun K hK => by rw [if_pos hw]; exact wp_load_row ty x ho g hx t cs fr d hg hu hd hi (hK _ _ h)
theorem vb_I {a : Int} (h : vb a = true) : I64 a := by
  have := (vb_iff a).1 h
  exact ⟨by omega, by omega⟩
theorem dotOK {S : Int} (h1 : -1237940039285380274899124224 ≤ S) (h2 : S ≤ 1237940039285380274899124224) : fitV (rnd S) = rnd S ∧ fitE (rnd S) = 0 := fit_of (by unfold rnd; omega) (by unfold rnd; omega)
theorem vb_prod {a b : Int} (ha : vb a = true) (hb : vb b = true) : -1208925819614629174706176 ≤ a * b ∧ a * b ≤ 1208925819614629174706176 := by
  have h1 := (vb_iff a).1 ha
  have h2 := (vb_iff b).1 hb
  have := bmul (P := 1099511627776) (R := 1099511627776) h1.1 h1.2 h2.1 h2.2
  exact this
/-- The product of two vectors, as an integer. -/
def d3 (f g : Nat → Int) : Int := dotS [f 0, f 1, f 2] [g 0, g 1, g 2]
theorem d3_fit {f g : Nat → Int} (hf : okV f = true) (hg : okV g = true) : dotV [f 0, f 1, f 2] [g 0, g 1, g 2] = rnd (d3 f g) ∧ dotE [f 0, f 1, f 2] [g 0, g 1, g 2] = 0 := by
  have a0 := vb_prod ((okV_iff f).1 hf 0 (by omega)) ((okV_iff g).1 hg 0 (by omega))
  have a1 := vb_prod ((okV_iff f).1 hf 1 (by omega)) ((okV_iff g).1 hg 1 (by omega))
  have a2 := vb_prod ((okV_iff f).1 hf 2 (by omega)) ((okV_iff g).1 hg 2 (by omega))
  have e : dotS [f 0, f 1, f 2] [g 0, g 1, g 2] = f 0 * g 0 + (f 1 * g 1 + (f 2 * g 2 + 0)) := by rw [dotS_cons, dotS_cons, dotS_cons, dotS_nil]
  have := dotOK (S := dotS [f 0, f 1, f 2] [g 0, g 1, g 2]) (by rw [e]; omega) (by rw [e]; omega)
  unfold dotV dotE d3
  rw [if_neg (by simp), if_neg (by simp)]
  exact this
theorem okV_I {f : Nat → Int} (hf : okV f = true) : ∀ i, i < 3 → I64 (f i) := fun i hi => vb_I ((okV_iff f).1 hf i hi)
theorem dot3_any (f g : Nat → Int) (b c : Nat) (w : World) (hf : okV f = true) (hg : okV g = true) (p : blk w b (vfn f) 23) (q : blk w c (vfn g) 23) :
    Calls Try.prog 61 #[.slice (some ⟨b, 0, none⟩) 3 3, .slice (some ⟨c, 0, none⟩) 3 3] w fun e w' => e = .returned (.tuple #[.int .i64 (rnd (d3 f g)), .int .i64 0]) ∧ Below w.heap.size w w' :=
  (dot_any [f 0, f 1, f 2] [g 0, g 1, g 2] _ _ w (ints3 p) (ints3 q) (list_I3 (okV_I hf)) (list_I3 (okV_I hg))).mono fun e w' h => ⟨h.1.trans (by rw [(d3_fit hf hg).1, (d3_fit hf hg).2]), h.2⟩
theorem rdot3_any (f g : Nat → Int) (b c : Nat) (w : World) (hf : okV f = true) (hg : okV g = true) (p : blk w b (vfn f) 23) (q : blk w c (vfn g) 23) :
    Calls Try.prog 107 #[.slice (some ⟨b, 0, none⟩) 3 3, .slice (some ⟨c, 0, none⟩) 3 3] w fun e w' => e = .returned (.tuple #[.int .i64 (rnd (d3 f g)), .int .i64 0]) ∧ Below w.heap.size w w' :=
  (rdot_any [f 0, f 1, f 2] [g 0, g 1, g 2] _ _ w (ints3 p) (ints3 q) (list_I3 (okV_I hf)) (list_I3 (okV_I hg))).mono fun e w' h => ⟨h.1.trans (by rw [(d3_fit hf hg).1, (d3_fit hf hg).2]), h.2⟩
def vdotV (f g : Nat → Int) : Int := if okV f && okV g then rnd (d3 f g) else 0
def vdotE (f g : Nat → Int) : Int := if okV f && okV g then 0 else 2
end Go.Proofs.Ythkklhfnmodpnaa
