/-
  Statements on bodies: BodyBounds.
-/
import Derived.Test.YtjnocbjngojigaaBdF
import Derived.Test.YtjnocbjngojigaaBdE1
set_option linter.unusedSimpArgs false
set_option linter.unusedVariables false
namespace Go.Proofs.Ytjnocbjngojigaa
open Go.RowKit PM Dt
set_option maxRecDepth 100000 in
set_option maxHeartbeats 4000000 in
theorem bbounds_any (x : BSt) (a : Option Addr) (n c : Nat) (x0 : Nat → ActT) (w : World) (hQ : ∀ i, i < 4 → I64 (x.Q i)) (el : ElemsA w a n 9 (fun k => (actc (x0 k)).toList)) : Calls Try.prog 7 #[.agg (rbc x), .slice a n c] w fun e w' => e = .returned (.bool true) ∧ Below w.heap.size w w' := by
  have AW := Lib.hid (fun w => awake24_any w)
  have PL := Lib.hid (fun w1 (hb : Below w.heap.size w w1) => plays_bnd x a n c x0 w1 hQ (el.below hb) (fun w lo b X Y D kX kY hs ho => cbnd_any X.Q X.T D Y lo b w ho kY))
  clear hQ el
  go_enter Try.func7, Try.ntmps7
  go_upto_region 1 with (fail)
  have v : blk (w.alloc (.cells (rbc x) 27)) w.heap.size (rbc x) 27 := blk.new _ _ _
  have hB : Below w.heap.size w (w.alloc (.cells (rbc x) 27)) := by go_grown
  generalize (w.alloc (.cells (rbc x) 27)) = w0 at *
  go_wp2_with (first
    | (refine wpList_load_rowG ?hw _ _ rfl _ rfl _ _ _ _ v Try.underlying27 rfl ?hi ?_; (case hw => (first | rfl | (simp [Region.wanted, yielded]; done))); (case hi => (first | kernel_rfl | (rw [rbc_size]; kernel_rfl))))
    | (go_at_call 16; with_reducible refine (AW.out _).mono ?_; rintro e w1 ⟨rfl, hb⟩; replace hB := hB.trans (hb.mono hB.size); replace v := v.below hb v.lt; clear hb)
    | (go_at_call 26; with_reducible refine (PL.out _ hB).mono ?_; rintro e w2 ⟨rfl, hb⟩; replace hB := hB.trans (hb.mono hB.size); clear hb))
  go_ret
  exact ⟨rfl, hB⟩
end Go.Proofs.Ytjnocbjngojigaa
