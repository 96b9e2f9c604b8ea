/-
  Slice literals of integers in a statement whose order stands: the world behind is any in which the block is new.
-/
import Derived.Test.YthkklhfnmodpnaaDet
import Derived.Test.YthkklhfnmodpnaaBase
import Derived.Great.BuildSlice
namespace Go.Proofs.Ythkklhfnmodpnaa.Dt
open Go Go.RowKit
section
variable {P : Program}
theorem wpList_buildI {ops : Array Oper} {rest : List Oper} {o : Oper} {a : Act} {w : World} {Q : Exit → Act → World → Prop} (hg : o.guard = none) (t e : TypeId) (len : Nat) (parts : Array (Nat × Operand)) (ho : o.op = .buildSlice t len parts)
    (zs : List Int) (hu : P.underlying t = some (.slice e)) (hsz : (P.info? e).map (·.size) = some 1) (hz : ((P.info? e).bind (·.zero)).isSome = true)
    (hlen : len = zs.length) (hpos : 0 < len) (hsmall : len ≤ 2 ^ 24)
    (hparts : (parts.map fun (i, x) => (i, a.eval x)).toList = ((zs.map (Value.int .i64)).zipIdx 0).map fun x => (x.2, x.1))
    (h : ∀ b w', More w w' → blk w' b (zs.map (Value.int .i64)).toArray e → wpList P ops Q rest (a.put o.dst (.slice (some ⟨b, 0, none⟩) len len)) w') : wpList P ops Q (o :: rest) a w := by
  cases hie : P.info? e with
  | none => simp [hie] at hsz
  | some ie =>
    simp only [hie, Option.map_some, Option.some.injEq, Option.bind_some] at hsz hz
    obtain ⟨z, hzz⟩ := Option.isSome_iff_exists.1 hz
    refine wpList_buildSlice hg t e len parts ho (zs.map (Value.int .i64)).toArray ie z hu hie hzz (by rw [hsz]; omega) (by rw [hsz]; omega) ?_ (h _ _ ((Below.refl _ _).alloc (Nat.le_refl _) _) (blk.new _ _ _))
    rw [hparts, hsz]
    exact Great.fill_flat _ _ (fun v hv => by obtain ⟨n, _, rfl⟩ := List.mem_map.1 hv; rfl) (by simp [hlen])
theorem wpList_build4 {ops : Array Oper} {rest : List Oper} {o : Oper} {a : Act} {w : World} {Q : Exit → Act → World → Prop} (hg : o.guard = none) {t e : TypeId} {x0 x1 x2 x3 : Operand} (ho : o.op = .buildSlice t 4 #[(0, x0), (1, x1), (2, x2), (3, x3)])
    {n0 n1 n2 n3 : Int} (h0 : a.eval x0 = .int .i64 n0) (h1 : a.eval x1 = .int .i64 n1) (h2 : a.eval x2 = .int .i64 n2) (h3 : a.eval x3 = .int .i64 n3)
    (hu : P.underlying t = some (.slice e)) (hsz : (P.info? e).map (·.size) = some 1) (hz : ((P.info? e).bind (·.zero)).isSome = true)
    (h : ∀ b w', More w w' → blk w' b #[.int .i64 n0, .int .i64 n1, .int .i64 n2, .int .i64 n3] e → wpList P ops Q rest (a.put o.dst (.slice (some ⟨b, 0, none⟩) 4 4)) w') : wpList P ops Q (o :: rest) a w :=
  wpList_buildI hg t e 4 _ ho [n0, n1, n2, n3] hu hsz hz rfl (by omega) (by decide) (by simp [h0, h1, h2, h3]) h
theorem wpList_build2 {ops : Array Oper} {rest : List Oper} {o : Oper} {a : Act} {w : World} {Q : Exit → Act → World → Prop} (hg : o.guard = none) {t e : TypeId} {x0 x1 : Operand} (ho : o.op = .buildSlice t 2 #[(0, x0), (1, x1)])
    {n0 n1 : Int} (h0 : a.eval x0 = .int .i64 n0) (h1 : a.eval x1 = .int .i64 n1)
    (hu : P.underlying t = some (.slice e)) (hsz : (P.info? e).map (·.size) = some 1) (hz : ((P.info? e).bind (·.zero)).isSome = true)
    (h : ∀ b w', More w w' → blk w' b #[.int .i64 n0, .int .i64 n1] e → wpList P ops Q rest (a.put o.dst (.slice (some ⟨b, 0, none⟩) 2 2)) w') : wpList P ops Q (o :: rest) a w :=
  wpList_buildI hg t e 2 _ ho [n0, n1] hu hsz hz rfl (by omega) (by decide) (by simp [h0, h1]) h
/-- An operation that gives one value and leaves the world as it is. -/
theorem wpList_pure {ops : Array Oper} {rest : List Oper} {o : Oper} {a : Act} {w : World} {Q : Exit → Act → World → Prop} (v : Value) (hg : o.guard = none)
    (h : DetR P (fun w' => w' = w) v ((execOp a.eval o).run P w)) (k : wpList P ops Q rest (a.put o.dst v) w) : wpList P ops Q (o :: rest) a w := by
  refine wpList_plain hg fun K hK => ?_
  unfold Oper.wp
  generalize (execOp a.eval o).run P w = r at *
  cases r with
  | ok n w' =>
    cases n <;> simp only [DetR] at h <;> simp only [Oper.upon]
    case value u => obtain ⟨rfl, rfl⟩ := h; exact hK _ _ k
    case skip => obtain ⟨rfl, rfl⟩ := h; exact hK _ _ k
    case enter f args =>
      refine Calls.mono h fun e w'' he => ?_
      obtain ⟨rfl, rfl⟩ := he
      exact hK _ _ k
  | halt x w' => exact h.elim
/-- An operation that gives one value and makes memory alone. -/
theorem wpList_det {ops : Array Oper} {rest : List Oper} {o : Oper} {a : Act} {w : World} {Q : Exit → Act → World → Prop} (v : Value) (hg : o.guard = none)
    (h : DetR P (More w) v ((execOp a.eval o).run P w)) (k : ∀ w', More w w' → wpList P ops Q rest (a.put o.dst v) w') : wpList P ops Q (o :: rest) a w := by
  refine wpList_plain hg fun K hK => ?_
  unfold Oper.wp
  generalize (execOp a.eval o).run P w = r at *
  cases r with
  | ok n w' =>
    cases n <;> simp only [DetR] at h <;> simp only [Oper.upon]
    case value u => obtain ⟨rfl, hs⟩ := h; exact hK _ _ (k _ hs)
    case skip => obtain ⟨rfl, hs⟩ := h; exact hK _ _ (k _ hs)
    case enter f args =>
      refine Calls.mono h fun e w'' he => ?_
      obtain ⟨rfl, hs⟩ := he
      exact hK _ _ (k _ hs)
  | halt x w' => exact h.elim
end
end Go.Proofs.Ythkklhfnmodpnaa.Dt
