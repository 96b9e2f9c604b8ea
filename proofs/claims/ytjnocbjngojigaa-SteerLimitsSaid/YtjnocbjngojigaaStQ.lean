/-
  Controls stay within limits.
-/
import Derived.Test.YtjnocbjngojigaaStL
import Derived.Test.YtjnocbjngojigaaStF
import Derived.Test.YtjnocbjngojigaaStP
import Derived.Test.YtjnocbjngojigaaArg
set_option linter.unusedSimpArgs false
set_option linter.unusedVariables false
namespace Go.Proofs.Ytjnocbjngojigaa
open Go.RowKit PM Dt
theorem valR_range {P : Program} {op : Oper} {a : Act} {w : World} (ty : TypeId) (x : Operand) (ho : op.op = .load ty x) (b o : Nat) (hx : a.eval x = .pointer (some ⟨b, o, none⟩))
    (C : List Value) (oo j0 : Nat) (hr : w.rangeAt b oo C) (hoo : o = oo + j0) (cs : Array Value) (hc : ∀ j, j < cs.size → C[j0 + j]? = cs[j]?) (d : TypeDesc)
    (hu : P.underlying ty = some d) (hd : d.isRow = true) (hi : (P.info? ty).map (·.size) = some cs.size) {v : Value} (hv : v = .agg cs) : ValR v w ((execOp a.eval op).run P w) := by
  have hr2 : w.rangeAt b o cs.toList := fun j u hj => by
    have h1 : j < cs.toList.length := (List.getElem?_eq_some_iff.1 hj).1
    have h2 : cs[j]? = some u := by simpa using hj
    have h3 := hr (j0 + j) u ((hc j (by simpa using h1)).trans h2)
    rw [hoo, Nat.add_assoc]
    exact h3
  unfold execOp
  simp only [ho, hx, Instr.loadAt, Instr.sureAddr, Sem.run_bind, Sem.run_pure, Result.andThen_ok, run_loadVar_mid w b o ty cs.toList d hr2 hu hd (by simpa using hi)]
  exact ⟨by rw [hv], rfl⟩
theorem range_below {B : Nat} {w w' : World} {b o : Nat} {C : List Value} (h : w.rangeAt b o C) (hb : Below B w w') (hl : b < B) : w'.rangeAt b o C := fun j u hj => by
  rw [hb.cell (p := ⟨b, o + j, none⟩) hl]; exact h j u hj
theorem a26_vL (y : Int) (V : SeT) (q : Nat → Int) (j : Nat) (hj : j < (sec V).size) : (a26c (y, V, q)).toList[1 + j]? = (sec V)[j]? := by rw [Array.getElem?_toList]; exact a26_v y V q j hj
theorem a26_qL (y : Int) (V : SeT) (q : Nat → Int) (j : Nat) (hj : j < (qfn q).size) : (a26c (y, V, q)).toList[16 + j]? = (qfn q)[j]? := by rw [Array.getElem?_toList]; exact a26_q y V q j hj
set_option maxRecDepth 100000 in
set_option maxHeartbeats 2000000 in
theorem slim_no (a : Option Addr) (n c : Nat) (w : World) (hn : 60 < n) : Calls Try.prog 4 #[.slice a n c] w fun e w' => e = .returned (.bool true) ∧ Below w.heap.size w w' := by
  have AW := Lib.hid (fun w => awake26_any w)
  have d1 : decide ((60 : Int) < (n : Int)) = true := decide_eq_true (by omega)
  have d2 : decide (60 < n) = true := decide_eq_true hn
  have hB : Below w.heap.size w w := Below.refl _ _
  go_enter Try.func4, Try.ntmps4
  go_wp2_with (first
    | (go_at_call 19; with_reducible refine (AW.out _).mono ?_; rintro e w1 ⟨rfl, hb⟩; replace hB := hB.trans (hb.mono hB.size); clear hb))
  go_ret
  exact ⟨rfl, hB⟩
set_option maxRecDepth 100000 in
set_option maxHeartbeats 30000000 in
theorem slim_ok (a : Option Addr) (n c : Nat) (x : Nat → (Int × SeT × (Nat → Int))) (w : World) (hn : n ≤ 60) (el : ElemsA w a n 20 (fun k => (a26c (x k)).toList)) (hx : ∀ k, k < n → (∀ i, i < 4 → I64 ((x k).2.1.att i)) ∧ ∀ i, i < 4 → I64 ((x k).2.2 i)) : Calls Try.prog 4 #[.slice a n c] w fun e w' => e = .returned (.bool true) ∧ Below w.heap.size w w' := by
  have AW := Lib.hid (fun w => awake26_any w)
  have d1 : decide ((60 : Int) < (n : Int)) = false := decide_eq_false (by omega)
  have d2 : decide (60 < n) = false := decide_eq_false (by omega)
  have NW := Lib.hid (fun w => tnew_any w)
  have K0 : SSI SSt.zero := ⟨fun i hi => z0 (N := 4194304) (by decide), fun i hi => z0 (N := 1073741824) (by decide)⟩
  replace K0 := Lib.hid K0
  replace el := Lib.hid el
  replace hx := Lib.hid hx
  have hB : Below w.heap.size w w := Below.refl _ _
  go_enter Try.func4, Try.ntmps4
  go_wp2_with ((go_at_call 20; with_reducible refine (NW.out _).mono ?_; rintro e w1 ⟨gb, rfl, g, hle, hb⟩; replace hB := hB.trans (hb.mono hB.size); clear hb))
  clear NW
  go_loopg [4] n (fun g_ iv wr => ∃ K : Nat, ∃ Y : SSt, g_ + K = n ∧ iv = .int .i64 K ∧ SSI Y ∧ blk wr gb (ssc Y) 56 ∧ Below w.heap.size w wr)
  case atStart => exact ⟨0, SSt.zero, by omega, rfl, K0.out, g, hB⟩
  case round =>
    clear K0 g hB
    obtain ⟨K, X, hK, rfl, KX, g, hB⟩ := hrel
    by_cases hKn : K < n
    · have hdK : decide ((K : Int) < n) = true := decide_eq_true (by omega)
      have hdK' : decide (K < n) = true := decide_eq_true hKn
      have hk3 : (K : Int) < n := by omega
      have hk0 : (0 : Int) ≤ K := by omega
      have hwK : IntKind.i64.wrap ((K : Int) + 1) = ((K + 1 : Nat) : Int) := by rw [IntKind.wrap_i64]; omega
      obtain ⟨eb, eo, rfl, hEl, hE⟩ := el.out K hKn
      obtain ⟨hxa, hxq⟩ := hx.out K hKn
      replace hE : w.rangeAt eb (eo + K * 20) ((a26c (x K)).toList) := hE
      generalize x K = y at hE hxa hxq
      obtain ⟨yw, V, q⟩ := y
      have CO := Lib.hid (fun w (g : blk w gb (ssc X) 56) => tcmd_any X gb w g)
      have RE := Lib.hid (fun w (g : blk w gb (ssc X) 56) => rest_row X V gb w g KX)
      have SU := Lib.hid (fun w (g : blk w gb (ssc X) 56) => sun_row X V gb w g KX)
      have PO := Lib.hid (fun w (g : blk w gb (ssc X) 56) => point_row X V q gb w g KX hxa hxq)
      have HX := Lib.hid KX
      clear hxa hxq
      have ge_g : w.heap.size ≤ gb := hle
      go_upto_region 9 with (fail)
      have lt_g := g.lt
      have hW0 : w.heap.size ≤ wr.heap.size := by have := hB.size; first | exact this | simpa using this
      apply wp_region_Q 4 [0, 1, 3, 7] [2] [_, _, (fun p => .pointer (some ⟨p 2, 0, none⟩)), (fun _ => undef)] (fun p L w' => wr.heap.size ≤ w'.heap.size ∧ Below w.heap.size w w' ∧ blk w' gb (ssc X) 56 ∧ (L 2 = true → wr.heap.size ≤ p 2 ∧ blk w' (p 2) (bif L 3 then (vfn X.D) else (vfn fun _ => 0)) 25)) _ [(0, 21), (1, 22), (2, 5)] [0, 1, 2, 3]
      case hn => rfl
      case hB => kernel_rfl
      case hds => kernel_rfl
      case hA => (intro p; simp only [putsD, Act.put, List.setIfInBounds_toArray, List.set_cons_zero, List.set_cons_succ, List.getD_cons_zero, List.getD_cons_succ]; exact rfl)
      case h0 => exact fun p => ⟨Nat.le_refl _, hB, g, fun h => absurd h (by decide)⟩
      case hmore => exact fun p L w1 w2 ⟨hsz, hB, g, h_bf⟩ hm => ⟨Nat.le_trans hsz hm.size, hB.trans (hm.mono (Nat.le_trans hW0 hsz)), g.below hm g.lt, fun hl => ⟨(h_bf hl).1, (h_bf hl).2.below hm (h_bf hl).2.lt⟩⟩
      case hs =>
        intro more
        refine stepV _ rfl rfl (fun _ _ _ h => h) (by intros; go_simp; exact ⟨rfl, rfl⟩) ?_
        refine stepD 1 rfl (fun p => rfl) (fun _ _ _ h => h) more ?_ ?_
        · rintro p L w1 ⟨hsz, hB, g, h_bf⟩ hk
          have L3 : L 3 = false := hk.2.2 3 rfl
          go_simp
          refine (CO.out _ g).mono ?_
          rintro e w2 ⟨rfl, h2⟩
          first | exact ⟨rfl, h2⟩ | (subst h2; exact ⟨rfl, Below.refl _ _⟩)
        refine AllI.cons ?_ ?_
        · refine stepI_alloc 2 rfl (fun p => rfl) rfl (vfn fun _ => 0) 25 (fun p => rfl) ?_ ?_
          · intro p w1
            go_simp
            first | rfl | rw [zero_vec]
          rintro p L w1 ⟨hsz, hB, g, h_bf⟩ hk
          have L3 : L 3 = false := hk.2.2 3 rfl
          refine ⟨Nat.le_trans hsz (by simp), hB.alloc (Nat.le_trans (by first | exact hW0 | (have := hB.size; simp at this ⊢; omega)) hsz) _, g.alloc _, fun _ => ⟨hsz, ?_⟩⟩
          rw [show upL L 2 3 = false from L3]
          exact blk.new _ _ _
        refine AllI.cons ?_ ?_
        · refine stepI_store 3 rfl (fun p => rfl) (fun p => rfl) _ _ _ rfl (fun p => p 2) 0 (fun p => rfl) (fun p => (vfn X.D)) (fun p => rfl) (fun p => (vfn fun _ => 0)) (fun p => (vfn X.D)) 25 (fun p => over_v _ _) (fun p => by first | (rw [vfn_size, vfn_size]; decide) | simp [vfn_size, vfn_size]) (fun p => by rw [vfn_size]; kernel_rfl) (fun p => vfn_one _) ?_ ?_
          · rintro p L w1 ⟨hsz, hB, g, h_bf⟩ hk
            have L3 : L 3 = false := hk.1
            have hh := (h_bf (hk.2.1 2 rfl)).2
            rw [L3] at hh
            try simp only [cond_true, cond_false] at hh
            exact hh
          · rintro p L w1 ⟨hsz, hB, g, h_bf⟩ hk
            have L3 : L 3 = false := hk.1
            skip
            have hp := h_bf (hk.2.1 2 rfl)
            refine ⟨(by simpa using hsz), Below.setRow hB (by first | exact Nat.le_trans hW0 hp.1 | exact ge_bf | omega | (have := hB.size; simp at this ⊢; omega)) _, g.rowOther (by first | exact Nat.ne_of_lt (Nat.lt_of_lt_of_le lt_g hp.1) | omega) _, fun _ => ⟨hp.1, ?_⟩⟩
            rw [show upL L 3 3 = true from rfl]
            exact hp.2.row _
        exact AllI.nil
      case hV0 =>
        intro p q
        refine AllI.cons ?_ ?_
        · skip
          iterate 4 (refine AllI.cons (by first | exact .inl rfl | (refine .inr ?_; simp only [List.getD_cons_zero, List.getD_cons_succ]; done) | exact .inr rfl) ?_)
          exact AllI.nil
        exact AllI.nil
      case he =>
      clear hB g
      rintro p wrr ⟨hsz, hB, g, h_bf⟩
      obtain ⟨le_bf, bf⟩ := h_bf rfl
      clear h_bf
      replace bf : blk wrr (p 2) (vfn X.D) 25 := bf
      have ne_g_bf : gb ≠ p 2 := Nat.ne_of_lt (Nat.lt_of_lt_of_le lt_g le_bf)
      have ge_bf : w.heap.size ≤ p 2 := Nat.le_trans hW0 le_bf
      generalize p 2 = bf_b at *
      clear lt_g
      clear hsz hW0
      clear CO
      go_upto_region 10 with (fail)
      have lt_g := g.lt
      have lt_bf := bf.lt
      have hW0 : w.heap.size ≤ wrr.heap.size := by have := hB.size; first | exact this | simpa using this
      apply wp_region_Q 6 [0, 1, 3, 7, 15, 31] [] [_, _, _, _, _, _] (fun p L w' => wrr.heap.size ≤ w'.heap.size ∧ Below w.heap.size w w' ∧ blk w' gb (ssc X) 56 ∧ blk w' bf_b (vfn X.D) 25) _ [(0, 23), (1, 24), (2, 25), (3, 26), (4, 27), (5, 28)] [0, 1, 2, 3, 4, 5]
      case hn => rfl
      case hB => kernel_rfl
      case hds => kernel_rfl
      case hA => (intro p; simp only [putsD, Act.put, List.setIfInBounds_toArray, List.set_cons_zero, List.set_cons_succ, List.getD_cons_zero, List.getD_cons_succ]; exact rfl)
      case h0 => exact fun p => ⟨Nat.le_refl _, hB, g, bf⟩
      case hmore => exact fun p L w1 w2 ⟨hsz, hB, g, bf⟩ hm => ⟨Nat.le_trans hsz hm.size, hB.trans (hm.mono (Nat.le_trans hW0 hsz)), g.below hm g.lt, bf.below hm bf.lt⟩
      case hs =>
        intro more
        iterate 4 (refine stepV _ rfl rfl (fun _ _ _ h => h) (by intros; go_simp; exact ⟨rfl, rfl⟩) ?_)
        refine stepV 4 rfl rfl (fun _ _ _ h => h) ?_ ?_
        · rintro p L w1 ⟨hsz, hB, g, bf⟩ hk
          have hr := range_below hE hB hEl
          have hc : w1.cell? ⟨eb, eo + K * 20, none⟩ = some (.int .u8 yw) := hr 0 _ rfl
          go_simp
          exact ⟨rfl, rfl⟩
        refine stepV _ rfl rfl (fun _ _ _ h => h) (by intros; go_simp; exact ⟨rfl, rfl⟩) ?_
        exact AllI.nil
      case hV0 => exact fun p q => AllI.nil
      case he =>
      clear hB g bf
      rintro p wrrr ⟨hsz, hB, g, bf⟩
      clear lt_g
      clear lt_bf
      clear hsz hW0
      by_cases h0 : yw.tmod 4 = 0
      · have r0 : (yw.tmod 4 == 0) = true := by simp [h0]
        clear h0 SU PO
        go_upto_region 13 with (fail)
        have lt_g := g.lt
        have lt_bf := bf.lt
        have hW0 : w.heap.size ≤ wrrr.heap.size := by have := hB.size; first | exact this | simpa using this
        apply wp_region_Q 7 [0, 1, 3, 7, 15, 31, 63] [] [_, _, _, _, _, _, _] (fun p L w' => wrrr.heap.size ≤ w'.heap.size ∧ Below w.heap.size w w' ∧ blk w' gb (bif L 6 then (ssc (restX X V)) else (ssc X)) 56 ∧ blk w' bf_b (vfn X.D) 25) _ [(0, 38), (1, 39), (2, 40), (3, 41), (4, 42), (5, 43), (6, 44)] [0, 1, 2, 3, 4, 5, 6]
        case hn => rfl
        case hB => kernel_rfl
        case hds => kernel_rfl
        case hA => (intro p; simp only [putsD, Act.put, List.setIfInBounds_toArray, List.set_cons_zero, List.set_cons_succ, List.getD_cons_zero, List.getD_cons_succ]; exact rfl)
        case h0 => exact fun p => ⟨Nat.le_refl _, hB, g, bf⟩
        case hmore => exact fun p L w1 w2 ⟨hsz, hB, g, bf⟩ hm => ⟨Nat.le_trans hsz hm.size, hB.trans (hm.mono (Nat.le_trans hW0 hsz)), g.below hm g.lt, bf.below hm bf.lt⟩
        case hs =>
          intro more
          iterate 5 (refine stepV _ rfl rfl (fun _ _ _ h => h) (by intros; go_simp; exact ⟨rfl, rfl⟩) ?_)
          refine stepV 5 rfl rfl (fun _ _ _ h => h) ?_ ?_
          · rintro p L w1 ⟨hsz, hB, g, bf⟩ hk
            have hr := range_below hE hB hEl
            exact valR_range _ _ rfl _ _ rfl _ (eo + K * 20) 1 hr (by first | rfl | omega) (sec V) (a26_vL yw V q) _ Try.underlying46 rfl (by rw [sec_size]; kernel_rfl) rfl
          refine AllI.cons ?_ ?_
          · refine stepI_mut 6 rfl (fun p => rfl) (fun _ => gb) (fun p => (ssc (restX X V))) ?_ ?_
            · rintro p L w1 ⟨hsz, hB, g, bf⟩ hk
              have L6 : L 6 = false := hk.1
              rw [L6] at g
              try simp only [cond_true, cond_false] at g
              go_simp
              refine (RE.out _ g).mono ?_
              rintro e w2 ⟨rfl, h2⟩
              exact ⟨rfl, h2⟩
            · rintro p L w1 w2 ⟨hsz, hB, g, bf⟩ hk hm
              have L6 : L 6 = false := hk.1
              refine ⟨Nat.le_trans hsz (by have := hm.size; simpa using this), (Below.setRow hB (by first | exact Nat.le_trans hW0 hp.1 | exact ge_g | omega | (have := hB.size; simp at this ⊢; omega)) _).trans (hm.mono (Nat.le_trans hW0 hsz)), ?_, (bf.rowOther (by first | exact ne_bf_g | exact Ne.symm ne_g_bf | omega) _).below hm (by simpa using bf.lt)⟩
              rw [show upL L 6 6 = true from rfl]
              exact (g.row _).below hm (by simpa using g.lt)
          exact AllI.nil
        case hV0 => exact fun p q => AllI.nil
        case he =>
        clear hB g bf
        rintro p wrrrr ⟨hsz, hB, g, bf⟩
        replace g : blk wrrrr gb (ssc (restX X V)) 56 := g
        clear lt_g
        clear lt_bf
        clear hsz hW0
        have HS := Lib.hid (restX_S HX.out V)
        clear RE hE
        generalize (restX X V) = Yn at *
        have CO := Lib.hid (fun w (g : blk w gb (ssc Yn) 56) => tcmd_any Yn gb w g)
        go_upto_region 16 with (fail)
        have lt_g := g.lt
        have lt_bf := bf.lt
        have hW0 : w.heap.size ≤ wrrrr.heap.size := by have := hB.size; first | exact this | simpa using this
        apply wp_region_Q 4 [0, 1, 3, 7] [2] [_, _, (fun p => .pointer (some ⟨p 2, 0, none⟩)), (fun _ => undef)] (fun p L w' => wrrrr.heap.size ≤ w'.heap.size ∧ Below w.heap.size w w' ∧ blk w' gb (ssc Yn) 56 ∧ blk w' bf_b (vfn X.D) 25 ∧ (L 2 = true → wrrrr.heap.size ≤ p 2 ∧ blk w' (p 2) (bif L 3 then (vfn Yn.D) else (vfn fun _ => 0)) 25)) _ [(0, 59), (1, 60), (2, 6)] [0, 1, 2, 3]
        case hn => rfl
        case hB => kernel_rfl
        case hds => kernel_rfl
        case hA => (intro p; simp only [putsD, Act.put, List.setIfInBounds_toArray, List.set_cons_zero, List.set_cons_succ, List.getD_cons_zero, List.getD_cons_succ]; exact rfl)
        case h0 => exact fun p => ⟨Nat.le_refl _, hB, g, bf, fun h => absurd h (by decide)⟩
        case hmore => exact fun p L w1 w2 ⟨hsz, hB, g, bf, h_af⟩ hm => ⟨Nat.le_trans hsz hm.size, hB.trans (hm.mono (Nat.le_trans hW0 hsz)), g.below hm g.lt, bf.below hm bf.lt, fun hl => ⟨(h_af hl).1, (h_af hl).2.below hm (h_af hl).2.lt⟩⟩
        case hs =>
          intro more
          refine stepV _ rfl rfl (fun _ _ _ h => h) (by intros; go_simp; exact ⟨rfl, rfl⟩) ?_
          refine stepD 1 rfl (fun p => rfl) (fun _ _ _ h => h) more ?_ ?_
          · rintro p L w1 ⟨hsz, hB, g, bf, h_af⟩ hk
            have L3 : L 3 = false := hk.2.2 3 rfl
            go_simp
            refine (CO.out _ g).mono ?_
            rintro e w2 ⟨rfl, h2⟩
            first | exact ⟨rfl, h2⟩ | (subst h2; exact ⟨rfl, Below.refl _ _⟩)
          refine AllI.cons ?_ ?_
          · refine stepI_alloc 2 rfl (fun p => rfl) rfl (vfn fun _ => 0) 25 (fun p => rfl) ?_ ?_
            · intro p w1
              go_simp
              first | rfl | rw [zero_vec]
            rintro p L w1 ⟨hsz, hB, g, bf, h_af⟩ hk
            have L3 : L 3 = false := hk.2.2 3 rfl
            refine ⟨Nat.le_trans hsz (by simp), hB.alloc (Nat.le_trans (by first | exact hW0 | (have := hB.size; simp at this ⊢; omega)) hsz) _, g.alloc _, bf.alloc _, fun _ => ⟨hsz, ?_⟩⟩
            rw [show upL L 2 3 = false from L3]
            exact blk.new _ _ _
          refine AllI.cons ?_ ?_
          · refine stepI_store 3 rfl (fun p => rfl) (fun p => rfl) _ _ _ rfl (fun p => p 2) 0 (fun p => rfl) (fun p => (vfn Yn.D)) (fun p => rfl) (fun p => (vfn fun _ => 0)) (fun p => (vfn Yn.D)) 25 (fun p => over_v _ _) (fun p => by first | (rw [vfn_size, vfn_size]; decide) | simp [vfn_size, vfn_size]) (fun p => by rw [vfn_size]; kernel_rfl) (fun p => vfn_one _) ?_ ?_
            · rintro p L w1 ⟨hsz, hB, g, bf, h_af⟩ hk
              have L3 : L 3 = false := hk.1
              have hh := (h_af (hk.2.1 2 rfl)).2
              rw [L3] at hh
              try simp only [cond_true, cond_false] at hh
              exact hh
            · rintro p L w1 ⟨hsz, hB, g, bf, h_af⟩ hk
              have L3 : L 3 = false := hk.1
              skip
              have hp := h_af (hk.2.1 2 rfl)
              refine ⟨(by simpa using hsz), Below.setRow hB (by first | exact Nat.le_trans hW0 hp.1 | exact ge_af | omega | (have := hB.size; simp at this ⊢; omega)) _, g.rowOther (by first | exact Nat.ne_of_lt (Nat.lt_of_lt_of_le lt_g hp.1) | omega) _, bf.rowOther (by first | exact Nat.ne_of_lt (Nat.lt_of_lt_of_le lt_bf hp.1) | omega) _, fun _ => ⟨hp.1, ?_⟩⟩
              rw [show upL L 3 3 = true from rfl]
              exact hp.2.row _
          exact AllI.nil
        case hV0 =>
          intro p q
          refine AllI.cons ?_ ?_
          · skip
            iterate 4 (refine AllI.cons (by first | exact .inl rfl | (refine .inr ?_; simp only [List.getD_cons_zero, List.getD_cons_succ]; done) | exact .inr rfl) ?_)
            exact AllI.nil
          exact AllI.nil
        case he =>
        clear hB g bf
        rintro p wrrrrr ⟨hsz, hB, g, bf, h_af⟩
        obtain ⟨le_af, af⟩ := h_af rfl
        clear h_af
        replace af : blk wrrrrr (p 2) (vfn Yn.D) 25 := af
        have ne_g_af : gb ≠ p 2 := Nat.ne_of_lt (Nat.lt_of_lt_of_le lt_g le_af)
        have ne_bf_af : bf_b ≠ p 2 := Nat.ne_of_lt (Nat.lt_of_lt_of_le lt_bf le_af)
        have ge_af : w.heap.size ≤ p 2 := Nat.le_trans hW0 le_af
        generalize p 2 = af_b at *
        clear lt_g
        clear lt_bf
        clear hsz hW0
        clear CO
        go_wp2_with (fail)
        skip
        go_loopg [7] 3 (fun g_ iv wr => ∃ k : Nat, g_ + k = 3 ∧ iv = .int .i64 k ∧ blk wr gb (ssc Yn) 56 ∧ blk wr bf_b (vfn X.D) 25 ∧ blk wr af_b (vfn Yn.D) 25 ∧ Below w.heap.size w wr)
        case atStart => exact ⟨0, rfl, rfl, g, bf, af, hB⟩
        case round =>
          clear g bf af hB
          obtain ⟨k, hk, rfl, g, bf, af, hB⟩ := hrel
          by_cases hkn : k < 3
          · have hdk : decide ((k : Int) < 3) = true := decide_eq_true (by omega)
            have hdk' : decide (k < 3) = true := decide_eq_true (by omega)
            have hk3 : (k : Int) < 3 := by omega
            have hw3 : IntKind.i64.wrap ((k : Int) + 1) = ((k + 1 : Nat) : Int) := by rw [IntKind.wrap_i64]; omega
            obtain ⟨e1, e2, e3⟩ := HS.out.2 k hkn
            have q0 := HX.out.d k hkn
            have a1 : IntKind.i64.wrap (Yn.D k - X.D k) = Yn.D k - X.D k := by rw [IntKind.wrap_i64]; omega
            have a2 : IntKind.i64.wrap (X.D k - Yn.D k) = X.D k - Yn.D k := by rw [IntKind.wrap_i64]; omega
            have b1 : decide (262144 < Yn.D k - X.D k) = false := decide_eq_false (by omega)
            have b2 : decide (262144 < X.D k - Yn.D k) = false := decide_eq_false (by omega)
            have b3 : decide (4194304 < Yn.D k) = false := decide_eq_false (by omega)
            have b4 : decide (Yn.D k < -4194304) = false := decide_eq_false (by omega)
            clear e1 e2 e3 q0
            go_upto_region 20 with (fail)
            have lt_g := g.lt
            have lt_bf := bf.lt
            have lt_af := af.lt
            have hW0 : w.heap.size ≤ wr.heap.size := by have := hB.size; first | exact this | simpa using this
            apply wp_region_I 30 [0, 1, 3, 0, 8, 24, 63, 127, 255, 511, 1023, 2047, 511, 4607, 12799, 32767, 65535, 131071, 262143, 524287, 1048575, 2097151, 4194303, 8388607, 16777215, 33554431, 67108863, 134217727, 268435455, 536870911] [] [_, _, _, _, _, _, _, _, _, _, _, _, _, _, _, _, _, _, _, _, _, _, _, _, _, _, _, _, _, _] (fun p L w' => wr.heap.size ≤ w'.heap.size ∧ Below w.heap.size w w' ∧ blk w' gb (ssc Yn) 56 ∧ blk w' bf_b (vfn X.D) 25 ∧ blk w' af_b (vfn Yn.D) 25) _ [(0, 65), (1, 66), (2, 67), (3, 68), (4, 69), (5, 70), (6, 71), (7, 72), (8, 73), (9, 74), (10, 75), (11, 76), (12, 77), (13, 78), (14, 79), (15, 80), (16, 81), (17, 82), (18, 83), (19, 84), (20, 85), (21, 86), (22, 87), (23, 88), (24, 89), (25, 90), (26, 91), (27, 92), (28, 93), (29, 94)] [0, 1, 2, 3, 4, 5, 6, 7, 8, 9, 10, 11, 12, 13, 14, 15, 16, 17, 18, 19, 20, 21, 22, 23, 24, 25, 26, 27, 28, 29]
            case hn => rfl
            case hm => kernel_rfl
            case hB => kernel_rfl
            case hds => kernel_rfl
            case hA => (intro p; simp only [putsD, Act.put, List.setIfInBounds_toArray, List.set_cons_zero, List.set_cons_succ, List.getD_cons_zero, List.getD_cons_succ]; exact rfl)
            case h0 => exact fun p => ⟨Nat.le_refl _, hB.drew, g.drew, bf.drew, af.drew⟩
            case hmore => exact fun p L w1 w2 ⟨hsz, hB, g, bf, af⟩ hm => ⟨Nat.le_trans hsz hm.size, hB.trans (hm.mono (Nat.le_trans hW0 hsz)), g.below hm g.lt, bf.below hm bf.lt, af.below hm af.lt⟩
            case hs =>
              intro more
              iterate 2 (refine stepV _ rfl rfl (fun _ _ _ h => h) (by intros; go_simp; exact ⟨rfl, rfl⟩) ?_)
              refine stepV 2 rfl rfl (fun _ _ _ h => h) ?_ ?_
              · rintro p L w1 ⟨hsz, hB, g, bf, af⟩ hk
                have hc : w1.cell? ⟨af_b, k, none⟩ = some (.int .i64 (Yn.D k)) := af.cellIs (vfn_get _ hkn)
                go_simp
                exact ⟨rfl, rfl⟩
              iterate 2 (refine stepV _ rfl rfl (fun _ _ _ h => h) (by intros; go_simp; exact ⟨rfl, rfl⟩) ?_)
              refine stepV 5 rfl rfl (fun _ _ _ h => h) ?_ ?_
              · rintro p L w1 ⟨hsz, hB, g, bf, af⟩ hk
                have hc : w1.cell? ⟨bf_b, k, none⟩ = some (.int .i64 (X.D k)) := bf.cellIs (vfn_get _ hkn)
                go_simp
                exact ⟨rfl, rfl⟩
              iterate 3 (refine stepV _ rfl rfl (fun _ _ _ h => h) (by intros; go_simp; exact ⟨rfl, rfl⟩) ?_)
              iterate 2 (refine stepVg _ rfl (fun p => (by first | rfl | (simp [Region.wanted, yielded]; done))) (fun _ _ _ h => h) (by intros; go_simp; exact ⟨rfl, rfl⟩) ?_)
              refine stepVg 11 rfl (fun p => (by first | rfl | (simp [Region.wanted, yielded]; done))) (fun _ _ _ h => h) ?_ ?_
              · rintro p L w1 ⟨hsz, hB, g, bf, af⟩ hk
                have hc : w1.cell? ⟨bf_b, k, none⟩ = some (.int .i64 (X.D k)) := bf.cellIs (vfn_get _ hkn)
                go_simp
                exact ⟨rfl, rfl⟩
              iterate 2 (refine stepVg _ rfl (fun p => (by first | rfl | (simp [Region.wanted, yielded]; done))) (fun _ _ _ h => h) (by intros; go_simp; exact ⟨rfl, rfl⟩) ?_)
              refine stepVg 14 rfl (fun p => (by first | rfl | (simp [Region.wanted, yielded]; done))) (fun _ _ _ h => h) ?_ ?_
              · rintro p L w1 ⟨hsz, hB, g, bf, af⟩ hk
                have hc : w1.cell? ⟨af_b, k, none⟩ = some (.int .i64 (Yn.D k)) := af.cellIs (vfn_get _ hkn)
                go_simp
                exact ⟨rfl, rfl⟩
              iterate 2 (refine stepVg _ rfl (fun p => (by first | rfl | (simp [Region.wanted, yielded]; done))) (fun _ _ _ h => h) (by intros; go_simp; exact ⟨rfl, rfl⟩) ?_)
              iterate 2 (refine stepV _ rfl rfl (fun _ _ _ h => h) (by intros; go_simp; exact ⟨rfl, rfl⟩) ?_)
              iterate 2 (refine stepVg _ rfl (fun p => (by first | rfl | (simp [Region.wanted, yielded]; done))) (fun _ _ _ h => h) (by intros; go_simp; exact ⟨rfl, rfl⟩) ?_)
              refine stepVg 21 rfl (fun p => (by first | rfl | (simp [Region.wanted, yielded]; done))) (fun _ _ _ h => h) ?_ ?_
              · rintro p L w1 ⟨hsz, hB, g, bf, af⟩ hk
                have hc : w1.cell? ⟨af_b, k, none⟩ = some (.int .i64 (Yn.D k)) := af.cellIs (vfn_get _ hkn)
                go_simp
                exact ⟨rfl, rfl⟩
              refine stepVg _ rfl (fun p => (by first | rfl | (simp [Region.wanted, yielded]; done))) (fun _ _ _ h => h) (by intros; go_simp; exact ⟨rfl, rfl⟩) ?_
              iterate 2 (refine stepV _ rfl rfl (fun _ _ _ h => h) (by intros; go_simp; exact ⟨rfl, rfl⟩) ?_)
              iterate 2 (refine stepVg _ rfl (fun p => (by first | rfl | (simp [Region.wanted, yielded]; done))) (fun _ _ _ h => h) (by intros; go_simp; exact ⟨rfl, rfl⟩) ?_)
              refine stepVg 27 rfl (fun p => (by first | rfl | (simp [Region.wanted, yielded]; done))) (fun _ _ _ h => h) ?_ ?_
              · rintro p L w1 ⟨hsz, hB, g, bf, af⟩ hk
                have hc : w1.cell? ⟨af_b, k, none⟩ = some (.int .i64 (Yn.D k)) := af.cellIs (vfn_get _ hkn)
                go_simp
                exact ⟨rfl, rfl⟩
              refine stepVg _ rfl (fun p => (by first | rfl | (simp [Region.wanted, yielded]; done))) (fun _ _ _ h => h) (by intros; go_simp; exact ⟨rfl, rfl⟩) ?_
              refine stepV _ rfl rfl (fun _ _ _ h => h) (by intros; go_simp; exact ⟨rfl, rfl⟩) ?_
              exact AllI.nil
            case hV0 => exact fun p q => AllI.nil
            case he =>
            clear hB g bf af
            rintro p wrr ⟨hsz, hB, g, bf, af⟩
            clear lt_g
            clear lt_bf
            clear lt_af
            clear hsz hW0
            go_wp2_with (fail)
            go_roundg (3 - (k + 1))
            case rel =>
              exact ⟨k + 1, by omega, rfl, g, bf, af, hB⟩
            case measure => omega
          · obtain rfl : k = 3 := by omega
            go_wp2_with (fail)
            go_roundg (n - (K + 1))
            case rel => exact ⟨K + 1, Yn, by omega, rfl, HS.out.1, g, hB⟩
            case measure => omega
      · have r0 : (yw.tmod 4 == 0) = false := by simp [h0]
        by_cases h1 : yw.tmod 4 = 1
        · have r1 : (yw.tmod 4 == 1) = true := by simp [h1]
          clear h0 h1 SU RE
          go_upto_region 15 with (fail)
          have lt_g := g.lt
          have lt_bf := bf.lt
          have hW0 : w.heap.size ≤ wrrr.heap.size := by have := hB.size; first | exact this | simpa using this
          apply wp_region_I 12 [0, 0, 0, 6, 14, 30, 0, 0, 192, 448, 960, 2047] [] [_, _, _, _, _, _, _, _, _, _, _, _] (fun p L w' => wrrr.heap.size ≤ w'.heap.size ∧ Below w.heap.size w w' ∧ blk w' gb (bif L 11 then (ssc (pointX X V q)) else (ssc X)) 56 ∧ blk w' bf_b (vfn X.D) 25) _ [(0, 47), (1, 48), (2, 49), (3, 50), (4, 51), (5, 52), (6, 53), (7, 54), (8, 55), (9, 56), (10, 57), (11, 58)] [0, 1, 2, 3, 4, 5, 6, 7, 8, 9, 10, 11]
          case hn => rfl
          case hm => kernel_rfl
          case hB => kernel_rfl
          case hds => kernel_rfl
          case hA => (intro p; simp only [putsD, Act.put, List.setIfInBounds_toArray, List.set_cons_zero, List.set_cons_succ, List.getD_cons_zero, List.getD_cons_succ]; exact rfl)
          case h0 => exact fun p => ⟨Nat.le_refl _, hB.drew, g.drew, bf.drew⟩
          case hmore => exact fun p L w1 w2 ⟨hsz, hB, g, bf⟩ hm => ⟨Nat.le_trans hsz hm.size, hB.trans (hm.mono (Nat.le_trans hW0 hsz)), g.below hm g.lt, bf.below hm bf.lt⟩
          case hs =>
            intro more
            iterate 5 (refine stepV _ rfl rfl (fun _ _ _ h => h) (by intros; go_simp; exact ⟨rfl, rfl⟩) ?_)
            refine stepV 5 rfl rfl (fun _ _ _ h => h) ?_ ?_
            · rintro p L w1 ⟨hsz, hB, g, bf⟩ hk
              have hr := range_below hE hB hEl
              exact valR_range _ _ rfl _ _ rfl _ (eo + K * 20) 1 hr (by first | rfl | omega) (sec V) (a26_vL yw V q) _ Try.underlying46 rfl (by rw [sec_size]; kernel_rfl) rfl
            iterate 4 (refine stepV _ rfl rfl (fun _ _ _ h => h) (by intros; go_simp; exact ⟨rfl, rfl⟩) ?_)
            refine stepV 10 rfl rfl (fun _ _ _ h => h) ?_ ?_
            · rintro p L w1 ⟨hsz, hB, g, bf⟩ hk
              have hr := range_below hE hB hEl
              exact valR_range _ _ rfl _ _ rfl _ (eo + K * 20) 16 hr (by first | rfl | omega) (qfn q) (a26_qL yw V q) _ Try.underlying23 rfl (by rw [qfn_size]; kernel_rfl) rfl
            refine AllI.cons ?_ ?_
            · refine stepI_mut 11 rfl (fun p => rfl) (fun _ => gb) (fun p => (ssc (pointX X V q))) ?_ ?_
              · rintro p L w1 ⟨hsz, hB, g, bf⟩ hk
                have L11 : L 11 = false := hk.1
                rw [L11] at g
                try simp only [cond_true, cond_false] at g
                go_simp
                refine (PO.out _ g).mono ?_
                rintro e w2 ⟨rfl, h2⟩
                exact ⟨rfl, h2⟩
              · rintro p L w1 w2 ⟨hsz, hB, g, bf⟩ hk hm
                have L11 : L 11 = false := hk.1
                refine ⟨Nat.le_trans hsz (by have := hm.size; simpa using this), (Below.setRow hB (by first | exact Nat.le_trans hW0 hp.1 | exact ge_g | omega | (have := hB.size; simp at this ⊢; omega)) _).trans (hm.mono (Nat.le_trans hW0 hsz)), ?_, (bf.rowOther (by first | exact ne_bf_g | exact Ne.symm ne_g_bf | omega) _).below hm (by simpa using bf.lt)⟩
                rw [show upL L 11 11 = true from rfl]
                exact (g.row _).below hm (by simpa using g.lt)
            exact AllI.nil
          case hV0 => exact fun p q => AllI.nil
          case he =>
          clear hB g bf
          rintro p wrrrr ⟨hsz, hB, g, bf⟩
          replace g : blk wrrrr gb (ssc (pointX X V q)) 56 := g
          clear lt_g
          clear lt_bf
          clear hsz hW0
          have HS := Lib.hid (pointX_S HX.out V q)
          clear PO hE
          generalize (pointX X V q) = Yn at *
          have CO := Lib.hid (fun w (g : blk w gb (ssc Yn) 56) => tcmd_any Yn gb w g)
          go_upto_region 16 with (fail)
          have lt_g := g.lt
          have lt_bf := bf.lt
          have hW0 : w.heap.size ≤ wrrrr.heap.size := by have := hB.size; first | exact this | simpa using this
          apply wp_region_Q 4 [0, 1, 3, 7] [2] [_, _, (fun p => .pointer (some ⟨p 2, 0, none⟩)), (fun _ => undef)] (fun p L w' => wrrrr.heap.size ≤ w'.heap.size ∧ Below w.heap.size w w' ∧ blk w' gb (ssc Yn) 56 ∧ blk w' bf_b (vfn X.D) 25 ∧ (L 2 = true → wrrrr.heap.size ≤ p 2 ∧ blk w' (p 2) (bif L 3 then (vfn Yn.D) else (vfn fun _ => 0)) 25)) _ [(0, 59), (1, 60), (2, 6)] [0, 1, 2, 3]
          case hn => rfl
          case hB => kernel_rfl
          case hds => kernel_rfl
          case hA => (intro p; simp only [putsD, Act.put, List.setIfInBounds_toArray, List.set_cons_zero, List.set_cons_succ, List.getD_cons_zero, List.getD_cons_succ]; exact rfl)
          case h0 => exact fun p => ⟨Nat.le_refl _, hB, g, bf, fun h => absurd h (by decide)⟩
          case hmore => exact fun p L w1 w2 ⟨hsz, hB, g, bf, h_af⟩ hm => ⟨Nat.le_trans hsz hm.size, hB.trans (hm.mono (Nat.le_trans hW0 hsz)), g.below hm g.lt, bf.below hm bf.lt, fun hl => ⟨(h_af hl).1, (h_af hl).2.below hm (h_af hl).2.lt⟩⟩
          case hs =>
            intro more
            refine stepV _ rfl rfl (fun _ _ _ h => h) (by intros; go_simp; exact ⟨rfl, rfl⟩) ?_
            refine stepD 1 rfl (fun p => rfl) (fun _ _ _ h => h) more ?_ ?_
            · rintro p L w1 ⟨hsz, hB, g, bf, h_af⟩ hk
              have L3 : L 3 = false := hk.2.2 3 rfl
              go_simp
              refine (CO.out _ g).mono ?_
              rintro e w2 ⟨rfl, h2⟩
              first | exact ⟨rfl, h2⟩ | (subst h2; exact ⟨rfl, Below.refl _ _⟩)
            refine AllI.cons ?_ ?_
            · refine stepI_alloc 2 rfl (fun p => rfl) rfl (vfn fun _ => 0) 25 (fun p => rfl) ?_ ?_
              · intro p w1
                go_simp
                first | rfl | rw [zero_vec]
              rintro p L w1 ⟨hsz, hB, g, bf, h_af⟩ hk
              have L3 : L 3 = false := hk.2.2 3 rfl
              refine ⟨Nat.le_trans hsz (by simp), hB.alloc (Nat.le_trans (by first | exact hW0 | (have := hB.size; simp at this ⊢; omega)) hsz) _, g.alloc _, bf.alloc _, fun _ => ⟨hsz, ?_⟩⟩
              rw [show upL L 2 3 = false from L3]
              exact blk.new _ _ _
            refine AllI.cons ?_ ?_
            · refine stepI_store 3 rfl (fun p => rfl) (fun p => rfl) _ _ _ rfl (fun p => p 2) 0 (fun p => rfl) (fun p => (vfn Yn.D)) (fun p => rfl) (fun p => (vfn fun _ => 0)) (fun p => (vfn Yn.D)) 25 (fun p => over_v _ _) (fun p => by first | (rw [vfn_size, vfn_size]; decide) | simp [vfn_size, vfn_size]) (fun p => by rw [vfn_size]; kernel_rfl) (fun p => vfn_one _) ?_ ?_
              · rintro p L w1 ⟨hsz, hB, g, bf, h_af⟩ hk
                have L3 : L 3 = false := hk.1
                have hh := (h_af (hk.2.1 2 rfl)).2
                rw [L3] at hh
                try simp only [cond_true, cond_false] at hh
                exact hh
              · rintro p L w1 ⟨hsz, hB, g, bf, h_af⟩ hk
                have L3 : L 3 = false := hk.1
                skip
                have hp := h_af (hk.2.1 2 rfl)
                refine ⟨(by simpa using hsz), Below.setRow hB (by first | exact Nat.le_trans hW0 hp.1 | exact ge_af | omega | (have := hB.size; simp at this ⊢; omega)) _, g.rowOther (by first | exact Nat.ne_of_lt (Nat.lt_of_lt_of_le lt_g hp.1) | omega) _, bf.rowOther (by first | exact Nat.ne_of_lt (Nat.lt_of_lt_of_le lt_bf hp.1) | omega) _, fun _ => ⟨hp.1, ?_⟩⟩
                rw [show upL L 3 3 = true from rfl]
                exact hp.2.row _
            exact AllI.nil
          case hV0 =>
            intro p q
            refine AllI.cons ?_ ?_
            · skip
              iterate 4 (refine AllI.cons (by first | exact .inl rfl | (refine .inr ?_; simp only [List.getD_cons_zero, List.getD_cons_succ]; done) | exact .inr rfl) ?_)
              exact AllI.nil
            exact AllI.nil
          case he =>
          clear hB g bf
          rintro p wrrrrr ⟨hsz, hB, g, bf, h_af⟩
          obtain ⟨le_af, af⟩ := h_af rfl
          clear h_af
          replace af : blk wrrrrr (p 2) (vfn Yn.D) 25 := af
          have ne_g_af : gb ≠ p 2 := Nat.ne_of_lt (Nat.lt_of_lt_of_le lt_g le_af)
          have ne_bf_af : bf_b ≠ p 2 := Nat.ne_of_lt (Nat.lt_of_lt_of_le lt_bf le_af)
          have ge_af : w.heap.size ≤ p 2 := Nat.le_trans hW0 le_af
          generalize p 2 = af_b at *
          clear lt_g
          clear lt_bf
          clear hsz hW0
          clear CO
          go_wp2_with (fail)
          skip
          go_loopg [7] 3 (fun g_ iv wr => ∃ k : Nat, g_ + k = 3 ∧ iv = .int .i64 k ∧ blk wr gb (ssc Yn) 56 ∧ blk wr bf_b (vfn X.D) 25 ∧ blk wr af_b (vfn Yn.D) 25 ∧ Below w.heap.size w wr)
          case atStart => exact ⟨0, rfl, rfl, g, bf, af, hB⟩
          case round =>
            clear g bf af hB
            obtain ⟨k, hk, rfl, g, bf, af, hB⟩ := hrel
            by_cases hkn : k < 3
            · have hdk : decide ((k : Int) < 3) = true := decide_eq_true (by omega)
              have hdk' : decide (k < 3) = true := decide_eq_true (by omega)
              have hk3 : (k : Int) < 3 := by omega
              have hw3 : IntKind.i64.wrap ((k : Int) + 1) = ((k + 1 : Nat) : Int) := by rw [IntKind.wrap_i64]; omega
              obtain ⟨e1, e2, e3⟩ := HS.out.2 k hkn
              have q0 := HX.out.d k hkn
              have a1 : IntKind.i64.wrap (Yn.D k - X.D k) = Yn.D k - X.D k := by rw [IntKind.wrap_i64]; omega
              have a2 : IntKind.i64.wrap (X.D k - Yn.D k) = X.D k - Yn.D k := by rw [IntKind.wrap_i64]; omega
              have b1 : decide (262144 < Yn.D k - X.D k) = false := decide_eq_false (by omega)
              have b2 : decide (262144 < X.D k - Yn.D k) = false := decide_eq_false (by omega)
              have b3 : decide (4194304 < Yn.D k) = false := decide_eq_false (by omega)
              have b4 : decide (Yn.D k < -4194304) = false := decide_eq_false (by omega)
              clear e1 e2 e3 q0
              go_upto_region 20 with (fail)
              have lt_g := g.lt
              have lt_bf := bf.lt
              have lt_af := af.lt
              have hW0 : w.heap.size ≤ wr.heap.size := by have := hB.size; first | exact this | simpa using this
              apply wp_region_I 30 [0, 1, 3, 0, 8, 24, 63, 127, 255, 511, 1023, 2047, 511, 4607, 12799, 32767, 65535, 131071, 262143, 524287, 1048575, 2097151, 4194303, 8388607, 16777215, 33554431, 67108863, 134217727, 268435455, 536870911] [] [_, _, _, _, _, _, _, _, _, _, _, _, _, _, _, _, _, _, _, _, _, _, _, _, _, _, _, _, _, _] (fun p L w' => wr.heap.size ≤ w'.heap.size ∧ Below w.heap.size w w' ∧ blk w' gb (ssc Yn) 56 ∧ blk w' bf_b (vfn X.D) 25 ∧ blk w' af_b (vfn Yn.D) 25) _ [(0, 65), (1, 66), (2, 67), (3, 68), (4, 69), (5, 70), (6, 71), (7, 72), (8, 73), (9, 74), (10, 75), (11, 76), (12, 77), (13, 78), (14, 79), (15, 80), (16, 81), (17, 82), (18, 83), (19, 84), (20, 85), (21, 86), (22, 87), (23, 88), (24, 89), (25, 90), (26, 91), (27, 92), (28, 93), (29, 94)] [0, 1, 2, 3, 4, 5, 6, 7, 8, 9, 10, 11, 12, 13, 14, 15, 16, 17, 18, 19, 20, 21, 22, 23, 24, 25, 26, 27, 28, 29]
              case hn => rfl
              case hm => kernel_rfl
              case hB => kernel_rfl
              case hds => kernel_rfl
              case hA => (intro p; simp only [putsD, Act.put, List.setIfInBounds_toArray, List.set_cons_zero, List.set_cons_succ, List.getD_cons_zero, List.getD_cons_succ]; exact rfl)
              case h0 => exact fun p => ⟨Nat.le_refl _, hB.drew, g.drew, bf.drew, af.drew⟩
              case hmore => exact fun p L w1 w2 ⟨hsz, hB, g, bf, af⟩ hm => ⟨Nat.le_trans hsz hm.size, hB.trans (hm.mono (Nat.le_trans hW0 hsz)), g.below hm g.lt, bf.below hm bf.lt, af.below hm af.lt⟩
              case hs =>
                intro more
                iterate 2 (refine stepV _ rfl rfl (fun _ _ _ h => h) (by intros; go_simp; exact ⟨rfl, rfl⟩) ?_)
                refine stepV 2 rfl rfl (fun _ _ _ h => h) ?_ ?_
                · rintro p L w1 ⟨hsz, hB, g, bf, af⟩ hk
                  have hc : w1.cell? ⟨af_b, k, none⟩ = some (.int .i64 (Yn.D k)) := af.cellIs (vfn_get _ hkn)
                  go_simp
                  exact ⟨rfl, rfl⟩
                iterate 2 (refine stepV _ rfl rfl (fun _ _ _ h => h) (by intros; go_simp; exact ⟨rfl, rfl⟩) ?_)
                refine stepV 5 rfl rfl (fun _ _ _ h => h) ?_ ?_
                · rintro p L w1 ⟨hsz, hB, g, bf, af⟩ hk
                  have hc : w1.cell? ⟨bf_b, k, none⟩ = some (.int .i64 (X.D k)) := bf.cellIs (vfn_get _ hkn)
                  go_simp
                  exact ⟨rfl, rfl⟩
                iterate 3 (refine stepV _ rfl rfl (fun _ _ _ h => h) (by intros; go_simp; exact ⟨rfl, rfl⟩) ?_)
                iterate 2 (refine stepVg _ rfl (fun p => (by first | rfl | (simp [Region.wanted, yielded]; done))) (fun _ _ _ h => h) (by intros; go_simp; exact ⟨rfl, rfl⟩) ?_)
                refine stepVg 11 rfl (fun p => (by first | rfl | (simp [Region.wanted, yielded]; done))) (fun _ _ _ h => h) ?_ ?_
                · rintro p L w1 ⟨hsz, hB, g, bf, af⟩ hk
                  have hc : w1.cell? ⟨bf_b, k, none⟩ = some (.int .i64 (X.D k)) := bf.cellIs (vfn_get _ hkn)
                  go_simp
                  exact ⟨rfl, rfl⟩
                iterate 2 (refine stepVg _ rfl (fun p => (by first | rfl | (simp [Region.wanted, yielded]; done))) (fun _ _ _ h => h) (by intros; go_simp; exact ⟨rfl, rfl⟩) ?_)
                refine stepVg 14 rfl (fun p => (by first | rfl | (simp [Region.wanted, yielded]; done))) (fun _ _ _ h => h) ?_ ?_
                · rintro p L w1 ⟨hsz, hB, g, bf, af⟩ hk
                  have hc : w1.cell? ⟨af_b, k, none⟩ = some (.int .i64 (Yn.D k)) := af.cellIs (vfn_get _ hkn)
                  go_simp
                  exact ⟨rfl, rfl⟩
                iterate 2 (refine stepVg _ rfl (fun p => (by first | rfl | (simp [Region.wanted, yielded]; done))) (fun _ _ _ h => h) (by intros; go_simp; exact ⟨rfl, rfl⟩) ?_)
                iterate 2 (refine stepV _ rfl rfl (fun _ _ _ h => h) (by intros; go_simp; exact ⟨rfl, rfl⟩) ?_)
                iterate 2 (refine stepVg _ rfl (fun p => (by first | rfl | (simp [Region.wanted, yielded]; done))) (fun _ _ _ h => h) (by intros; go_simp; exact ⟨rfl, rfl⟩) ?_)
                refine stepVg 21 rfl (fun p => (by first | rfl | (simp [Region.wanted, yielded]; done))) (fun _ _ _ h => h) ?_ ?_
                · rintro p L w1 ⟨hsz, hB, g, bf, af⟩ hk
                  have hc : w1.cell? ⟨af_b, k, none⟩ = some (.int .i64 (Yn.D k)) := af.cellIs (vfn_get _ hkn)
                  go_simp
                  exact ⟨rfl, rfl⟩
                refine stepVg _ rfl (fun p => (by first | rfl | (simp [Region.wanted, yielded]; done))) (fun _ _ _ h => h) (by intros; go_simp; exact ⟨rfl, rfl⟩) ?_
                iterate 2 (refine stepV _ rfl rfl (fun _ _ _ h => h) (by intros; go_simp; exact ⟨rfl, rfl⟩) ?_)
                iterate 2 (refine stepVg _ rfl (fun p => (by first | rfl | (simp [Region.wanted, yielded]; done))) (fun _ _ _ h => h) (by intros; go_simp; exact ⟨rfl, rfl⟩) ?_)
                refine stepVg 27 rfl (fun p => (by first | rfl | (simp [Region.wanted, yielded]; done))) (fun _ _ _ h => h) ?_ ?_
                · rintro p L w1 ⟨hsz, hB, g, bf, af⟩ hk
                  have hc : w1.cell? ⟨af_b, k, none⟩ = some (.int .i64 (Yn.D k)) := af.cellIs (vfn_get _ hkn)
                  go_simp
                  exact ⟨rfl, rfl⟩
                refine stepVg _ rfl (fun p => (by first | rfl | (simp [Region.wanted, yielded]; done))) (fun _ _ _ h => h) (by intros; go_simp; exact ⟨rfl, rfl⟩) ?_
                refine stepV _ rfl rfl (fun _ _ _ h => h) (by intros; go_simp; exact ⟨rfl, rfl⟩) ?_
                exact AllI.nil
              case hV0 => exact fun p q => AllI.nil
              case he =>
              clear hB g bf af
              rintro p wrr ⟨hsz, hB, g, bf, af⟩
              clear lt_g
              clear lt_bf
              clear lt_af
              clear hsz hW0
              go_wp2_with (fail)
              go_roundg (3 - (k + 1))
              case rel =>
                exact ⟨k + 1, by omega, rfl, g, bf, af, hB⟩
              case measure => omega
            · obtain rfl : k = 3 := by omega
              go_wp2_with (fail)
              go_roundg (n - (K + 1))
              case rel => exact ⟨K + 1, Yn, by omega, rfl, HS.out.1, g, hB⟩
              case measure => omega
        · have r1 : (yw.tmod 4 == 1) = false := by simp [h1]
          clear h0 h1 PO RE
          go_upto_region 11 with (fail)
          have lt_g := g.lt
          have lt_bf := bf.lt
          have hW0 : w.heap.size ≤ wrrr.heap.size := by have := hB.size; first | exact this | simpa using this
          apply wp_region_Q 7 [0, 1, 3, 7, 15, 31, 63] [] [_, _, _, _, _, _, _] (fun p L w' => wrrr.heap.size ≤ w'.heap.size ∧ Below w.heap.size w w' ∧ blk w' gb (bif L 6 then (ssc (sunX X V)) else (ssc X)) 56 ∧ blk w' bf_b (vfn X.D) 25) _ [(0, 29), (1, 30), (2, 31), (3, 32), (4, 33), (5, 34), (6, 35)] [0, 1, 2, 3, 4, 5, 6]
          case hn => rfl
          case hB => kernel_rfl
          case hds => kernel_rfl
          case hA => (intro p; simp only [putsD, Act.put, List.setIfInBounds_toArray, List.set_cons_zero, List.set_cons_succ, List.getD_cons_zero, List.getD_cons_succ]; exact rfl)
          case h0 => exact fun p => ⟨Nat.le_refl _, hB, g, bf⟩
          case hmore => exact fun p L w1 w2 ⟨hsz, hB, g, bf⟩ hm => ⟨Nat.le_trans hsz hm.size, hB.trans (hm.mono (Nat.le_trans hW0 hsz)), g.below hm g.lt, bf.below hm bf.lt⟩
          case hs =>
            intro more
            iterate 5 (refine stepV _ rfl rfl (fun _ _ _ h => h) (by intros; go_simp; exact ⟨rfl, rfl⟩) ?_)
            refine stepV 5 rfl rfl (fun _ _ _ h => h) ?_ ?_
            · rintro p L w1 ⟨hsz, hB, g, bf⟩ hk
              have hr := range_below hE hB hEl
              exact valR_range _ _ rfl _ _ rfl _ (eo + K * 20) 1 hr (by first | rfl | omega) (sec V) (a26_vL yw V q) _ Try.underlying46 rfl (by rw [sec_size]; kernel_rfl) rfl
            refine AllI.cons ?_ ?_
            · refine stepI_mut 6 rfl (fun p => rfl) (fun _ => gb) (fun p => (ssc (sunX X V))) ?_ ?_
              · rintro p L w1 ⟨hsz, hB, g, bf⟩ hk
                have L6 : L 6 = false := hk.1
                rw [L6] at g
                try simp only [cond_true, cond_false] at g
                go_simp
                refine (SU.out _ g).mono ?_
                rintro e w2 ⟨rfl, h2⟩
                exact ⟨rfl, h2⟩
              · rintro p L w1 w2 ⟨hsz, hB, g, bf⟩ hk hm
                have L6 : L 6 = false := hk.1
                refine ⟨Nat.le_trans hsz (by have := hm.size; simpa using this), (Below.setRow hB (by first | exact Nat.le_trans hW0 hp.1 | exact ge_g | omega | (have := hB.size; simp at this ⊢; omega)) _).trans (hm.mono (Nat.le_trans hW0 hsz)), ?_, (bf.rowOther (by first | exact ne_bf_g | exact Ne.symm ne_g_bf | omega) _).below hm (by simpa using bf.lt)⟩
                rw [show upL L 6 6 = true from rfl]
                exact (g.row _).below hm (by simpa using g.lt)
            exact AllI.nil
          case hV0 => exact fun p q => AllI.nil
          case he =>
          clear hB g bf
          rintro p wrrrr ⟨hsz, hB, g, bf⟩
          replace g : blk wrrrr gb (ssc (sunX X V)) 56 := g
          clear lt_g
          clear lt_bf
          clear hsz hW0
          have HS := Lib.hid (sunX_S HX.out V)
          clear SU hE
          generalize (sunX X V) = Yn at *
          have CO := Lib.hid (fun w (g : blk w gb (ssc Yn) 56) => tcmd_any Yn gb w g)
          go_upto_region 16 with (fail)
          have lt_g := g.lt
          have lt_bf := bf.lt
          have hW0 : w.heap.size ≤ wrrrr.heap.size := by have := hB.size; first | exact this | simpa using this
          apply wp_region_Q 4 [0, 1, 3, 7] [2] [_, _, (fun p => .pointer (some ⟨p 2, 0, none⟩)), (fun _ => undef)] (fun p L w' => wrrrr.heap.size ≤ w'.heap.size ∧ Below w.heap.size w w' ∧ blk w' gb (ssc Yn) 56 ∧ blk w' bf_b (vfn X.D) 25 ∧ (L 2 = true → wrrrr.heap.size ≤ p 2 ∧ blk w' (p 2) (bif L 3 then (vfn Yn.D) else (vfn fun _ => 0)) 25)) _ [(0, 59), (1, 60), (2, 6)] [0, 1, 2, 3]
          case hn => rfl
          case hB => kernel_rfl
          case hds => kernel_rfl
          case hA => (intro p; simp only [putsD, Act.put, List.setIfInBounds_toArray, List.set_cons_zero, List.set_cons_succ, List.getD_cons_zero, List.getD_cons_succ]; exact rfl)
          case h0 => exact fun p => ⟨Nat.le_refl _, hB, g, bf, fun h => absurd h (by decide)⟩
          case hmore => exact fun p L w1 w2 ⟨hsz, hB, g, bf, h_af⟩ hm => ⟨Nat.le_trans hsz hm.size, hB.trans (hm.mono (Nat.le_trans hW0 hsz)), g.below hm g.lt, bf.below hm bf.lt, fun hl => ⟨(h_af hl).1, (h_af hl).2.below hm (h_af hl).2.lt⟩⟩
          case hs =>
            intro more
            refine stepV _ rfl rfl (fun _ _ _ h => h) (by intros; go_simp; exact ⟨rfl, rfl⟩) ?_
            refine stepD 1 rfl (fun p => rfl) (fun _ _ _ h => h) more ?_ ?_
            · rintro p L w1 ⟨hsz, hB, g, bf, h_af⟩ hk
              have L3 : L 3 = false := hk.2.2 3 rfl
              go_simp
              refine (CO.out _ g).mono ?_
              rintro e w2 ⟨rfl, h2⟩
              first | exact ⟨rfl, h2⟩ | (subst h2; exact ⟨rfl, Below.refl _ _⟩)
            refine AllI.cons ?_ ?_
            · refine stepI_alloc 2 rfl (fun p => rfl) rfl (vfn fun _ => 0) 25 (fun p => rfl) ?_ ?_
              · intro p w1
                go_simp
                first | rfl | rw [zero_vec]
              rintro p L w1 ⟨hsz, hB, g, bf, h_af⟩ hk
              have L3 : L 3 = false := hk.2.2 3 rfl
              refine ⟨Nat.le_trans hsz (by simp), hB.alloc (Nat.le_trans (by first | exact hW0 | (have := hB.size; simp at this ⊢; omega)) hsz) _, g.alloc _, bf.alloc _, fun _ => ⟨hsz, ?_⟩⟩
              rw [show upL L 2 3 = false from L3]
              exact blk.new _ _ _
            refine AllI.cons ?_ ?_
            · refine stepI_store 3 rfl (fun p => rfl) (fun p => rfl) _ _ _ rfl (fun p => p 2) 0 (fun p => rfl) (fun p => (vfn Yn.D)) (fun p => rfl) (fun p => (vfn fun _ => 0)) (fun p => (vfn Yn.D)) 25 (fun p => over_v _ _) (fun p => by first | (rw [vfn_size, vfn_size]; decide) | simp [vfn_size, vfn_size]) (fun p => by rw [vfn_size]; kernel_rfl) (fun p => vfn_one _) ?_ ?_
              · rintro p L w1 ⟨hsz, hB, g, bf, h_af⟩ hk
                have L3 : L 3 = false := hk.1
                have hh := (h_af (hk.2.1 2 rfl)).2
                rw [L3] at hh
                try simp only [cond_true, cond_false] at hh
                exact hh
              · rintro p L w1 ⟨hsz, hB, g, bf, h_af⟩ hk
                have L3 : L 3 = false := hk.1
                skip
                have hp := h_af (hk.2.1 2 rfl)
                refine ⟨(by simpa using hsz), Below.setRow hB (by first | exact Nat.le_trans hW0 hp.1 | exact ge_af | omega | (have := hB.size; simp at this ⊢; omega)) _, g.rowOther (by first | exact Nat.ne_of_lt (Nat.lt_of_lt_of_le lt_g hp.1) | omega) _, bf.rowOther (by first | exact Nat.ne_of_lt (Nat.lt_of_lt_of_le lt_bf hp.1) | omega) _, fun _ => ⟨hp.1, ?_⟩⟩
                rw [show upL L 3 3 = true from rfl]
                exact hp.2.row _
            exact AllI.nil
          case hV0 =>
            intro p q
            refine AllI.cons ?_ ?_
            · skip
              iterate 4 (refine AllI.cons (by first | exact .inl rfl | (refine .inr ?_; simp only [List.getD_cons_zero, List.getD_cons_succ]; done) | exact .inr rfl) ?_)
              exact AllI.nil
            exact AllI.nil
          case he =>
          clear hB g bf
          rintro p wrrrrr ⟨hsz, hB, g, bf, h_af⟩
          obtain ⟨le_af, af⟩ := h_af rfl
          clear h_af
          replace af : blk wrrrrr (p 2) (vfn Yn.D) 25 := af
          have ne_g_af : gb ≠ p 2 := Nat.ne_of_lt (Nat.lt_of_lt_of_le lt_g le_af)
          have ne_bf_af : bf_b ≠ p 2 := Nat.ne_of_lt (Nat.lt_of_lt_of_le lt_bf le_af)
          have ge_af : w.heap.size ≤ p 2 := Nat.le_trans hW0 le_af
          generalize p 2 = af_b at *
          clear lt_g
          clear lt_bf
          clear hsz hW0
          clear CO
          go_wp2_with (fail)
          skip
          go_loopg [7] 3 (fun g_ iv wr => ∃ k : Nat, g_ + k = 3 ∧ iv = .int .i64 k ∧ blk wr gb (ssc Yn) 56 ∧ blk wr bf_b (vfn X.D) 25 ∧ blk wr af_b (vfn Yn.D) 25 ∧ Below w.heap.size w wr)
          case atStart => exact ⟨0, rfl, rfl, g, bf, af, hB⟩
          case round =>
            clear g bf af hB
            obtain ⟨k, hk, rfl, g, bf, af, hB⟩ := hrel
            by_cases hkn : k < 3
            · have hdk : decide ((k : Int) < 3) = true := decide_eq_true (by omega)
              have hdk' : decide (k < 3) = true := decide_eq_true (by omega)
              have hk3 : (k : Int) < 3 := by omega
              have hw3 : IntKind.i64.wrap ((k : Int) + 1) = ((k + 1 : Nat) : Int) := by rw [IntKind.wrap_i64]; omega
              obtain ⟨e1, e2, e3⟩ := HS.out.2 k hkn
              have q0 := HX.out.d k hkn
              have a1 : IntKind.i64.wrap (Yn.D k - X.D k) = Yn.D k - X.D k := by rw [IntKind.wrap_i64]; omega
              have a2 : IntKind.i64.wrap (X.D k - Yn.D k) = X.D k - Yn.D k := by rw [IntKind.wrap_i64]; omega
              have b1 : decide (262144 < Yn.D k - X.D k) = false := decide_eq_false (by omega)
              have b2 : decide (262144 < X.D k - Yn.D k) = false := decide_eq_false (by omega)
              have b3 : decide (4194304 < Yn.D k) = false := decide_eq_false (by omega)
              have b4 : decide (Yn.D k < -4194304) = false := decide_eq_false (by omega)
              clear e1 e2 e3 q0
              go_upto_region 20 with (fail)
              have lt_g := g.lt
              have lt_bf := bf.lt
              have lt_af := af.lt
              have hW0 : w.heap.size ≤ wr.heap.size := by have := hB.size; first | exact this | simpa using this
              apply wp_region_I 30 [0, 1, 3, 0, 8, 24, 63, 127, 255, 511, 1023, 2047, 511, 4607, 12799, 32767, 65535, 131071, 262143, 524287, 1048575, 2097151, 4194303, 8388607, 16777215, 33554431, 67108863, 134217727, 268435455, 536870911] [] [_, _, _, _, _, _, _, _, _, _, _, _, _, _, _, _, _, _, _, _, _, _, _, _, _, _, _, _, _, _] (fun p L w' => wr.heap.size ≤ w'.heap.size ∧ Below w.heap.size w w' ∧ blk w' gb (ssc Yn) 56 ∧ blk w' bf_b (vfn X.D) 25 ∧ blk w' af_b (vfn Yn.D) 25) _ [(0, 65), (1, 66), (2, 67), (3, 68), (4, 69), (5, 70), (6, 71), (7, 72), (8, 73), (9, 74), (10, 75), (11, 76), (12, 77), (13, 78), (14, 79), (15, 80), (16, 81), (17, 82), (18, 83), (19, 84), (20, 85), (21, 86), (22, 87), (23, 88), (24, 89), (25, 90), (26, 91), (27, 92), (28, 93), (29, 94)] [0, 1, 2, 3, 4, 5, 6, 7, 8, 9, 10, 11, 12, 13, 14, 15, 16, 17, 18, 19, 20, 21, 22, 23, 24, 25, 26, 27, 28, 29]
              case hn => rfl
              case hm => kernel_rfl
              case hB => kernel_rfl
              case hds => kernel_rfl
              case hA => (intro p; simp only [putsD, Act.put, List.setIfInBounds_toArray, List.set_cons_zero, List.set_cons_succ, List.getD_cons_zero, List.getD_cons_succ]; exact rfl)
              case h0 => exact fun p => ⟨Nat.le_refl _, hB.drew, g.drew, bf.drew, af.drew⟩
              case hmore => exact fun p L w1 w2 ⟨hsz, hB, g, bf, af⟩ hm => ⟨Nat.le_trans hsz hm.size, hB.trans (hm.mono (Nat.le_trans hW0 hsz)), g.below hm g.lt, bf.below hm bf.lt, af.below hm af.lt⟩
              case hs =>
                intro more
                iterate 2 (refine stepV _ rfl rfl (fun _ _ _ h => h) (by intros; go_simp; exact ⟨rfl, rfl⟩) ?_)
                refine stepV 2 rfl rfl (fun _ _ _ h => h) ?_ ?_
                · rintro p L w1 ⟨hsz, hB, g, bf, af⟩ hk
                  have hc : w1.cell? ⟨af_b, k, none⟩ = some (.int .i64 (Yn.D k)) := af.cellIs (vfn_get _ hkn)
                  go_simp
                  exact ⟨rfl, rfl⟩
                iterate 2 (refine stepV _ rfl rfl (fun _ _ _ h => h) (by intros; go_simp; exact ⟨rfl, rfl⟩) ?_)
                refine stepV 5 rfl rfl (fun _ _ _ h => h) ?_ ?_
                · rintro p L w1 ⟨hsz, hB, g, bf, af⟩ hk
                  have hc : w1.cell? ⟨bf_b, k, none⟩ = some (.int .i64 (X.D k)) := bf.cellIs (vfn_get _ hkn)
                  go_simp
                  exact ⟨rfl, rfl⟩
                iterate 3 (refine stepV _ rfl rfl (fun _ _ _ h => h) (by intros; go_simp; exact ⟨rfl, rfl⟩) ?_)
                iterate 2 (refine stepVg _ rfl (fun p => (by first | rfl | (simp [Region.wanted, yielded]; done))) (fun _ _ _ h => h) (by intros; go_simp; exact ⟨rfl, rfl⟩) ?_)
                refine stepVg 11 rfl (fun p => (by first | rfl | (simp [Region.wanted, yielded]; done))) (fun _ _ _ h => h) ?_ ?_
                · rintro p L w1 ⟨hsz, hB, g, bf, af⟩ hk
                  have hc : w1.cell? ⟨bf_b, k, none⟩ = some (.int .i64 (X.D k)) := bf.cellIs (vfn_get _ hkn)
                  go_simp
                  exact ⟨rfl, rfl⟩
                iterate 2 (refine stepVg _ rfl (fun p => (by first | rfl | (simp [Region.wanted, yielded]; done))) (fun _ _ _ h => h) (by intros; go_simp; exact ⟨rfl, rfl⟩) ?_)
                refine stepVg 14 rfl (fun p => (by first | rfl | (simp [Region.wanted, yielded]; done))) (fun _ _ _ h => h) ?_ ?_
                · rintro p L w1 ⟨hsz, hB, g, bf, af⟩ hk
                  have hc : w1.cell? ⟨af_b, k, none⟩ = some (.int .i64 (Yn.D k)) := af.cellIs (vfn_get _ hkn)
                  go_simp
                  exact ⟨rfl, rfl⟩
                iterate 2 (refine stepVg _ rfl (fun p => (by first | rfl | (simp [Region.wanted, yielded]; done))) (fun _ _ _ h => h) (by intros; go_simp; exact ⟨rfl, rfl⟩) ?_)
                iterate 2 (refine stepV _ rfl rfl (fun _ _ _ h => h) (by intros; go_simp; exact ⟨rfl, rfl⟩) ?_)
                iterate 2 (refine stepVg _ rfl (fun p => (by first | rfl | (simp [Region.wanted, yielded]; done))) (fun _ _ _ h => h) (by intros; go_simp; exact ⟨rfl, rfl⟩) ?_)
                refine stepVg 21 rfl (fun p => (by first | rfl | (simp [Region.wanted, yielded]; done))) (fun _ _ _ h => h) ?_ ?_
                · rintro p L w1 ⟨hsz, hB, g, bf, af⟩ hk
                  have hc : w1.cell? ⟨af_b, k, none⟩ = some (.int .i64 (Yn.D k)) := af.cellIs (vfn_get _ hkn)
                  go_simp
                  exact ⟨rfl, rfl⟩
                refine stepVg _ rfl (fun p => (by first | rfl | (simp [Region.wanted, yielded]; done))) (fun _ _ _ h => h) (by intros; go_simp; exact ⟨rfl, rfl⟩) ?_
                iterate 2 (refine stepV _ rfl rfl (fun _ _ _ h => h) (by intros; go_simp; exact ⟨rfl, rfl⟩) ?_)
                iterate 2 (refine stepVg _ rfl (fun p => (by first | rfl | (simp [Region.wanted, yielded]; done))) (fun _ _ _ h => h) (by intros; go_simp; exact ⟨rfl, rfl⟩) ?_)
                refine stepVg 27 rfl (fun p => (by first | rfl | (simp [Region.wanted, yielded]; done))) (fun _ _ _ h => h) ?_ ?_
                · rintro p L w1 ⟨hsz, hB, g, bf, af⟩ hk
                  have hc : w1.cell? ⟨af_b, k, none⟩ = some (.int .i64 (Yn.D k)) := af.cellIs (vfn_get _ hkn)
                  go_simp
                  exact ⟨rfl, rfl⟩
                refine stepVg _ rfl (fun p => (by first | rfl | (simp [Region.wanted, yielded]; done))) (fun _ _ _ h => h) (by intros; go_simp; exact ⟨rfl, rfl⟩) ?_
                refine stepV _ rfl rfl (fun _ _ _ h => h) (by intros; go_simp; exact ⟨rfl, rfl⟩) ?_
                exact AllI.nil
              case hV0 => exact fun p q => AllI.nil
              case he =>
              clear hB g bf af
              rintro p wrr ⟨hsz, hB, g, bf, af⟩
              clear lt_g
              clear lt_bf
              clear lt_af
              clear hsz hW0
              go_wp2_with (fail)
              go_roundg (3 - (k + 1))
              case rel =>
                exact ⟨k + 1, by omega, rfl, g, bf, af, hB⟩
              case measure => omega
            · obtain rfl : k = 3 := by omega
              go_wp2_with (fail)
              go_roundg (n - (K + 1))
              case rel => exact ⟨K + 1, Yn, by omega, rfl, HS.out.1, g, hB⟩
              case measure => omega
    · obtain rfl : K = n := by omega
      have hdK : decide ((K : Int) < K) = false := decide_eq_false (by omega)
      have hdK' : decide (K < K) = false := decide_eq_false (by omega)
      go_wp2_with (first
        | (go_at_call 19; with_reducible refine (AW.out _).mono ?_; rintro e w9 ⟨rfl, hb⟩; replace hB := hB.trans (hb.mono hB.size); clear hb))
      go_ret
      exact ⟨rfl, hB⟩
theorem slim_any (a : Option Addr) (n c : Nat) (x : Nat → (Int × SeT × (Nat → Int))) (w : World) (el : ElemsA w a n 20 (fun k => (a26c (x k)).toList)) (hx : ∀ k, k < n → (∀ i, i < 4 → I64 ((x k).2.1.att i)) ∧ ∀ i, i < 4 → I64 ((x k).2.2 i)) : Calls Try.prog 4 #[.slice a n c] w fun e w' => e = .returned (.bool true) ∧ Below w.heap.size w w' := by
  by_cases hn : 60 < n
  · exact slim_no a n c w hn
  · exact slim_ok a n c x w (by omega) el hx
end Go.Proofs.Ytjnocbjngojigaa
