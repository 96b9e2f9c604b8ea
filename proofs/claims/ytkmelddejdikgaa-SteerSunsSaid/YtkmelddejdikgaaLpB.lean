/-
  The loop: a tick of Rest.
-/
import Derived.Test.YtkmelddejdikgaaLpA
set_option linter.unusedSimpArgs false
set_option linter.unusedVariables false
namespace Go.Proofs.Ytkmelddejdikgaa
open Go.RowKit PM Dt
section
variable {P : Program} {Q : Exit → Act → World → Prop} {l : List Oper} {M : List Nat} {vs : List ((Nat → Nat) → Value)} {R : (Nat → Nat) → (Nat → Bool) → World → Prop} {A : (Nat → Nat) → Act} {fr : List Nat} {o : Oper}
theorem stepI_rel (i : Nat) (ho : l[i]? = some o) (hw : ∀ p, Region.wanted o (yielded l.toArray (A p).tmps) = true) (T : (Nat → Nat) → World → World → Prop)
    (h : ∀ p L w1, R p L w1 → KnowI M R i L → DetR P (fun w2 => T p w1 w2) ((vs.getD i vI) p) ((execOp (A p).eval o).run P w1))
    (hR : ∀ p L w1 w2, R p L w1 → KnowI M R i L → T p w1 w2 → R p (upL L i) w2) : StepI P l M vs R A fr i :=
  stepI_gen i ho hw fun p L w1 hr hk => by
    have h1 := h p L w1 hr hk
    generalize (execOp (A p).eval o).run P w1 = r at *
    cases r with
    | ok n w' =>
      cases n <;> simp only [DetR] at h1 <;> simp only [StepR]
      case value u => exact ⟨p i, fun _ => rfl, by rw [upN_self]; exact h1.1, by rw [upN_self]; exact hR _ _ _ _ hr hk h1.2⟩
      case skip => exact ⟨p i, fun _ => rfl, by rw [upN_self]; exact h1.1.symm, by rw [upN_self]; exact hR _ _ _ _ hr hk h1.2⟩
      case enter f args => exact h1.mono fun e w'' ⟨he, hs⟩ => ⟨_, he, p i, fun _ => rfl, by rw [upN_self], by rw [upN_self]; exact hR _ _ _ _ hr hk hs⟩
    | halt x w' => exact h1.elim
end
def ownF (X : BSt) (h : Nat → Int) : Nat → Int := vsubF (qbackF X.Q X.T) (sumW h)
def rtB (X : BSt) (S : SSt) (sun : Nat → Int) : BSt := tickX X (restC S (senseV X sun)) (fun _ => 0)
set_option maxRecDepth 100000 in
set_option maxHeartbeats 40000000 in
theorem tick_any (what : Int) (X : BSt) (S Sn : SSt) (sun tq Cm : Nat → Int) (lo hi lb : Nat) (w : World) (ho : lop lo hi lb w (X, S, sun)) (k : BI X) (hA : Hid ((what = 0 ∧ Hid (∀ w sb, blk w sb (ssc S) 205 → Calls Try.prog 85 #[.pointer (some ⟨sb, 0, none⟩), .agg (sec (senseV X sun))] w fun e w' => e = .returned (.tuple #[.agg (qfn Cm), .int .i64 0]) ∧ Below w.heap.size (w.setRow sb (ssc Sn)) w')) ∨ (what = 1 ∧ Hid (∀ w sb, blk w sb (ssc S) 205 → Calls Try.prog 86 #[.pointer (some ⟨sb, 0, none⟩), .agg (sec (senseV X sun))] w fun e w' => e = .returned (.tuple #[.agg (qfn Cm), .int .i64 0]) ∧ Below w.heap.size (w.setRow sb (ssc Sn)) w')) ∨ (what = 2 ∧ Hid (∀ w sb, blk w sb (ssc S) 205 → Calls Try.prog 88 #[.pointer (some ⟨sb, 0, none⟩), .agg (sec (senseV X sun)), .agg (qfn tq)] w fun e w' => e = .returned (.tuple #[.agg (qfn Cm), .int .i64 0]) ∧ Below w.heap.size (w.setRow sb (ssc Sn)) w')))) (hE : vsubE (qbackF X.Q X.T) (sumW (tickX X Cm (fun _ => 0)).h) = 0) (hS : SI (tickX X Cm (fun _ => 0)).h (tickX X Cm (fun _ => 0)).f) : Calls Try.prog 31 #[.pointer (some ⟨lb, 0, none⟩), .int .i64 what, .agg (qfn tq)] w fun e w' => e = .returned (.tuple #[.agg (vfn (ownF X (tickX X Cm (fun _ => 0)).h)), .bool true]) ∧ lop lo hi lb w' ((tickX X Cm (fun _ => 0)), Sn, sun) ∧ Save lo hi w w' := by
  obtain ⟨ob, sb, l1, l2, l3, l4, l5, l6, o, gs, hl⟩ := ho
  have SE := Lib.hid (fun w (h : lop lo hi lb w (X, S, sun)) => sense_any X S sun lo hi lb w h k)
  have AT := Lib.hid (fun w (h : bod lo ob w X) => battitude_any X lo ob w h)
  have TO := Lib.hid (fun w (h : bod lo ob w X) => btotal_any X lo ob w h)
  have BA := Lib.hid (fun w => qback_any X.Q X.T w k.q)
  rw [(momG_eq k.q k.v k.t k.s).1] at BA
  have TK := Lib.hid (fun w (h : bod lo ob w X) => btick_any X lo ob Cm (fun _ => 0) w h k.q k.s (k.att _).1)
  rw [show tickX X Cm (fun _ => 0) = (tickX X Cm (fun _ => 0)) from rfl, show tickE (fun _ => 0) = 0 from by decide, ← zero_vec] at TK
  have SP := Lib.hid (fun w (h : bod lo ob w (tickX X Cm (fun _ => 0))) => bspeeds_any (tickX X Cm (fun _ => 0)) lo ob w h)
  have SU := Lib.hid (fun w => vsub_any (qbackF X.Q X.T) (sumW (tickX X Cm (fun _ => 0)).h) w)
  rw [hE, show vsubF (qbackF X.Q X.T) (sumW (tickX X Cm (fun _ => 0)).h) = ownF X (tickX X Cm (fun _ => 0)).h from rfl] at SU
  have f0 : IntKind.i64.wrap ((tickX X Cm (fun _ => 0)).h 0 + (tickX X Cm (fun _ => 0)).h 3) = sumW (tickX X Cm (fun _ => 0)).h 0 := by have := sumW_bd hS (i := 0) (by omega); unfold sumW at this ⊢; rw [IntKind.wrap_i64]; omega
  have f1 : IntKind.i64.wrap ((tickX X Cm (fun _ => 0)).h 1 + (tickX X Cm (fun _ => 0)).h 3) = sumW (tickX X Cm (fun _ => 0)).h 1 := by have := sumW_bd hS (i := 1) (by omega); unfold sumW at this ⊢; rw [IntKind.wrap_i64]; omega
  have f2 : IntKind.i64.wrap ((tickX X Cm (fun _ => 0)).h 2 + (tickX X Cm (fun _ => 0)).h 3) = sumW (tickX X Cm (fun _ => 0)).h 2 := by have := sumW_bd hS (i := 2) (by omega); unfold sumW at this ⊢; rw [IntKind.wrap_i64]; omega
  have lolt := o.lolt
  clear k hE hS
  generalize tickC X Cm (fun _ => 0) = Tc at *
  generalize (tickX X Cm (fun _ => 0)) = Xn at *
  generalize ownF X Xn.h = Ow at *
  generalize qbackF X.Q X.T = Qb at *
  have hV : ∃ Vs, senseV X sun = Vs := ⟨_, rfl⟩
  obtain ⟨Vs, hV⟩ := hV
  rw [hV] at SE hA
  clear hV
  go_enter Try.func31, Try.ntmps31
  go_upto_region 1 with (fail)
  simp only [zero_vec]
  have q : blk ((w.alloc (.cells (qfn tq) 23)).alloc (.cells (vfn fun _ => 0) 31)) w.heap.size (qfn tq) 23 := (blk.new _ _ _).alloc _
  have r : blk ((w.alloc (.cells (qfn tq) 23)).alloc (.cells (vfn fun _ => 0) 31)) (w.heap.size + 1) (vfn fun _ => 0) 31 := blk.new' (by simp)
  have hB : Below w.heap.size w ((w.alloc (.cells (qfn tq) 23)).alloc (.cells (vfn fun _ => 0) 31)) := by go_grown
  generalize ((w.alloc (.cells (qfn tq) 23)).alloc (.cells (vfn fun _ => 0) 31)) = w0 at *
  have hl0 := hl.lt
  have h0lt : hi < w0.heap.size := Nat.lt_of_lt_of_le l6 hB.size
  have g : blk w0 lb (lpc (ob, sb, sun)) 93 := hl.below hB hl.lt
  have st : blk w0 sb (ssc S) 205 := gs.below hB gs.lt
  replace o := o.below hB o.lt
  clear hl gs
  replace hB : Save lo hi w w0 := Save.of hB
  have ne_st_g : sb ≠ lb := by omega
  have out_g : ob < lb := by omega
  have out_st : ob < sb := l1
  have ne_q_g : w.heap.size ≠ lb := by omega
  have ne_q_st : w.heap.size ≠ sb := by omega
  have out_q : ob < w.heap.size := by omega
  have ne_r_g : (w.heap.size + 1) ≠ lb := by omega
  have ne_r_st : (w.heap.size + 1) ≠ sb := by omega
  have out_r : ob < (w.heap.size + 1) := by omega
  have lt_q := q.lt
  have lt_r := r.lt
  have lt_g := g.lt
  have lt_st := st.lt
  have lt_o := o.lt
  have hW0 : w.heap.size ≤ w0.heap.size := by simpa using hB.size
  apply wp_region_Q 1 [0] [0] [(fun p => .pointer (some ⟨p 0, 0, none⟩))] (fun p L w' => w0.heap.size ≤ w'.heap.size ∧ Save lo hi w w' ∧ blk w' w.heap.size (qfn tq) 23 ∧ blk w' (w.heap.size + 1) (vfn fun _ => 0) 31 ∧ blk w' lb (lpc (ob, sb, sun)) 93 ∧ blk w' sb (ssc S) 205 ∧ bod lo ob w' (X) ∧ (L 0 = true → w0.heap.size ≤ p 0 ∧ blk w' (p 0) (qfn fun _ => 0) 22)) _ [(0, 8)] [0]
  case hn => rfl
  case hB => kernel_rfl
  case hds => kernel_rfl
  case hA => (intro p; simp only [putsD, Act.put, sIT, sCZ, sCS, gCZ, gCS]; exact rfl)
  case h0 => exact fun p => ⟨Nat.le_refl _, hB, q, r, g, st, o, fun h => absurd h (by decide)⟩
  case hmore => exact fun p L w1 w2 ⟨hsz, hB, q, r, g, st, o, h_c⟩ hm => ⟨Nat.le_trans hsz hm.size, hB.trans (hm.mono (Nat.le_trans hW0 hsz)), q.below hm q.lt, r.below hm r.lt, g.below hm g.lt, st.below hm st.lt, o.below hm o.lt, fun hl => ⟨(h_c hl).1, (h_c hl).2.below hm (h_c hl).2.lt⟩⟩
  case hs =>
    intro more
    refine AllI.cons ?_ ?_
    · refine stepI_alloc 0 rfl (fun p => rfl) rfl (qfn fun _ => 0) 22 (fun p => rfl) ?_ ?_
      · intro p w1
        go_simp
        first | rfl | rw [zero_spd]
      rintro p L w1 ⟨hsz, hB, q, r, g, st, o, h_c⟩ hk
      refine ⟨Nat.le_trans hsz (by simp), hB.alloc (Nat.le_trans (by first | exact hW0 | (have := hB.size; simp at this ⊢; omega)) hsz) _, q.alloc _, r.alloc _, g.alloc _, st.alloc _, o.alloc _, fun _ => ⟨hsz, ?_⟩⟩
      exact blk.new _ _ _
    exact AllI.nil
  case hV0 =>
    intro p q
    refine AllI.cons ?_ ?_
    · skip
      iterate 1 (refine AllI.cons (by first | exact .inl rfl | (refine .inr ?_; simp only [gCZ, gCS]; done) | exact .inr rfl) ?_)
      exact AllI.nil
    exact AllI.nil
  case he =>
  clear hB q r g st o
  rintro p w0r ⟨hsz, hB, q, r, g, st, o, h_c⟩
  obtain ⟨le_c, c⟩ := h_c rfl
  clear h_c
  replace c : blk w0r (p 0) (qfn fun _ => 0) 22 := c
  have ne_q_c : w.heap.size ≠ p 0 := Nat.ne_of_lt (Nat.lt_of_lt_of_le lt_q le_c)
  have ne_r_c : (w.heap.size + 1) ≠ p 0 := Nat.ne_of_lt (Nat.lt_of_lt_of_le lt_r le_c)
  have ne_g_c : lb ≠ p 0 := Nat.ne_of_lt (Nat.lt_of_lt_of_le lt_g le_c)
  have ne_st_c : sb ≠ p 0 := Nat.ne_of_lt (Nat.lt_of_lt_of_le lt_st le_c)
  have ne_o_c : ob ≠ p 0 := Nat.ne_of_lt (Nat.lt_of_lt_of_le lt_o le_c)
  have ge_c : w.heap.size ≤ p 0 := Nat.le_trans hW0 le_c
  have out_c : ob < p 0 := Nat.lt_of_lt_of_le lt_o le_c
  generalize p 0 = c_b at *
  clear lt_q lt_r lt_g lt_st lt_o hsz hW0
  go_upto_region 3 with (fail)
  have lt_q := q.lt
  have lt_r := r.lt
  have lt_g := g.lt
  have lt_st := st.lt
  have lt_o := o.lt
  have lt_c := c.lt
  have hW0 : w.heap.size ≤ w0r.heap.size := by simpa using hB.size
  apply wp_region_Q 4 [0, 1, 3, 7] [2] [_, _, (fun p => .pointer (some ⟨p 2, 0, none⟩)), (fun _ => undef)] (fun p L w' => w0r.heap.size ≤ w'.heap.size ∧ Save lo hi w w' ∧ blk w' w.heap.size (qfn tq) 23 ∧ blk w' (w.heap.size + 1) (vfn fun _ => 0) 31 ∧ blk w' lb (lpc (ob, sb, sun)) 93 ∧ blk w' sb (ssc S) 205 ∧ bod lo ob w' (X) ∧ blk w' c_b (qfn fun _ => 0) 22 ∧ (L 2 = true → w0r.heap.size ≤ p 2 ∧ blk w' (p 2) (bif L 3 then (sec Vs) else (sec SeT.zero)) 85)) _ [(0, 18), (1, 19), (2, 10)] [0, 1, 2, 3]
  case hn => rfl
  case hB => kernel_rfl
  case hds => kernel_rfl
  case hA => (intro p; simp only [putsD, Act.put, sIT, sCZ, sCS, gCZ, gCS]; exact rfl)
  case h0 => exact fun p => ⟨Nat.le_refl _, hB, q, r, g, st, o, c, fun h => absurd h (by decide)⟩
  case hmore => exact fun p L w1 w2 ⟨hsz, hB, q, r, g, st, o, c, h_v⟩ hm => ⟨Nat.le_trans hsz hm.size, hB.trans (hm.mono (Nat.le_trans hW0 hsz)), q.below hm q.lt, r.below hm r.lt, g.below hm g.lt, st.below hm st.lt, o.below hm o.lt, c.below hm c.lt, fun hl => ⟨(h_v hl).1, (h_v hl).2.below hm (h_v hl).2.lt⟩⟩
  case hs =>
    intro more
    refine stepV _ rfl rfl (fun _ _ _ h => h) (by intros; go_simp; exact ⟨rfl, rfl⟩) ?_
    refine stepD 1 rfl (fun p => rfl) (fun _ _ _ h => h) more ?_ ?_
    · rintro p L w1 ⟨hsz, hB, q, r, g, st, o, c, h_v⟩ hk
      have L3 : L 3 = false := hk.2.2 3 rfl
      go_simp
      refine (SE.out _ ⟨ob, sb, l1, l2, l3, l4, l5, Nat.lt_of_lt_of_le l6 hB.size, o, st, g⟩).mono ?_
      rintro e w2 ⟨rfl, h2⟩
      first | exact ⟨rfl, h2⟩ | (subst h2; exact ⟨rfl, Below.refl _ _⟩)
    refine AllI.cons ?_ ?_
    · refine stepI_alloc 2 rfl (fun p => rfl) rfl (sec SeT.zero) 85 (fun p => rfl) ?_ ?_
      · intro p w1
        go_simp
        first | rfl | rw [sec_zero]
      rintro p L w1 ⟨hsz, hB, q, r, g, st, o, c, h_v⟩ hk
      have L3 : L 3 = false := hk.2.2 3 rfl
      refine ⟨Nat.le_trans hsz (by simp), hB.alloc (Nat.le_trans (by first | exact hW0 | (have := hB.size; simp at this ⊢; omega)) hsz) _, q.alloc _, r.alloc _, g.alloc _, st.alloc _, o.alloc _, c.alloc _, fun _ => ⟨hsz, ?_⟩⟩
      rw [show upL L 2 3 = false from L3]
      exact blk.new _ _ _
    refine AllI.cons ?_ ?_
    · refine stepI_store 3 rfl (fun p => rfl) (fun p => rfl) _ _ _ rfl (fun p => p 2) 0 (fun p => rfl) (fun p => (sec Vs)) (fun p => rfl) (fun p => (sec SeT.zero)) (fun p => (sec Vs)) 85 (fun p => over_full rfl) (fun p => by first | (rw [sec_size, sec_size]; decide) | simp [sec_size, sec_size]) (fun p => by rw [sec_size]; kernel_rfl) (fun p => sec_one _) ?_ ?_
      · rintro p L w1 ⟨hsz, hB, q, r, g, st, o, c, h_v⟩ hk
        have L3 : L 3 = false := hk.1
        have hh := (h_v (hk.2.1 2 rfl)).2
        rw [L3] at hh
        try simp only [cond_true, cond_false] at hh
        exact hh
      · rintro p L w1 ⟨hsz, hB, q, r, g, st, o, c, h_v⟩ hk
        have L3 : L 3 = false := hk.1
        skip
        have hp := h_v (hk.2.1 2 rfl)
        refine ⟨(by simpa using hsz), hB.row (by first | exact .inr (Nat.le_trans hW0 hp.1) | exact .inr ge_v | exact .inl ⟨Nat.le_refl _, Nat.le_refl _⟩ | omega | (have := hB.size; simp at this ⊢; omega)) _, q.rowOther (by first | exact Nat.ne_of_lt (Nat.lt_of_lt_of_le lt_q hp.1) | omega) _, r.rowOther (by first | exact Nat.ne_of_lt (Nat.lt_of_lt_of_le lt_r hp.1) | omega) _, g.rowOther (by first | exact Nat.ne_of_lt (Nat.lt_of_lt_of_le lt_g hp.1) | omega) _, st.rowOther (by first | exact Nat.ne_of_lt (Nat.lt_of_lt_of_le lt_st hp.1) | omega) _, o.rowOther (.inr (Nat.lt_of_lt_of_le lt_o hp.1)) _, c.rowOther (by first | exact Nat.ne_of_lt (Nat.lt_of_lt_of_le lt_c hp.1) | omega) _, fun _ => ⟨hp.1, ?_⟩⟩
        rw [show upL L 3 3 = true from rfl]
        exact hp.2.row _
    exact AllI.nil
  case hV0 =>
    intro p q
    refine AllI.cons ?_ ?_
    · skip
      iterate 4 (refine AllI.cons (by first | exact .inl rfl | (refine .inr ?_; simp only [gCZ, gCS]; done) | exact .inr rfl) ?_)
      exact AllI.nil
    exact AllI.nil
  case he =>
  clear hB q r g st o c
  rintro p w0rr ⟨hsz, hB, q, r, g, st, o, c, h_v⟩
  obtain ⟨le_v, v⟩ := h_v rfl
  clear h_v
  replace v : blk w0rr (p 2) (sec Vs) 85 := v
  have ne_q_v : w.heap.size ≠ p 2 := Nat.ne_of_lt (Nat.lt_of_lt_of_le lt_q le_v)
  have ne_r_v : (w.heap.size + 1) ≠ p 2 := Nat.ne_of_lt (Nat.lt_of_lt_of_le lt_r le_v)
  have ne_g_v : lb ≠ p 2 := Nat.ne_of_lt (Nat.lt_of_lt_of_le lt_g le_v)
  have ne_st_v : sb ≠ p 2 := Nat.ne_of_lt (Nat.lt_of_lt_of_le lt_st le_v)
  have ne_o_v : ob ≠ p 2 := Nat.ne_of_lt (Nat.lt_of_lt_of_le lt_o le_v)
  have ne_c_v : c_b ≠ p 2 := Nat.ne_of_lt (Nat.lt_of_lt_of_le lt_c le_v)
  have ge_v : w.heap.size ≤ p 2 := Nat.le_trans hW0 le_v
  have out_v : ob < p 2 := Nat.lt_of_lt_of_le lt_o le_v
  generalize p 2 = v_b at *
  clear lt_q lt_r lt_g lt_st lt_o lt_c hsz hW0 SE
  rcases hA.out with ⟨rfl, RE⟩ | ⟨rfl, RE⟩ | ⟨rfl, RE⟩
  case' inl =>
    clear hA
    go_upto_region 7 with (fail)
    have lt_q := q.lt
    have lt_r := r.lt
    have lt_g := g.lt
    have lt_st := st.lt
    have lt_o := o.lt
    have lt_c := c.lt
    have lt_v := v.lt
    have hW0 : w.heap.size ≤ w0rr.heap.size := by simpa using hB.size
    apply wp_region_I 11 [0, 1, 3, 7, 0, 31, 63, 127, 127, 255, 1023] [] [_, _, _, _, _, _, _, _, _, (fun _ => undef), _] (fun p L w' => w0rr.heap.size ≤ w'.heap.size ∧ Save lo hi w w' ∧ blk w' w.heap.size (qfn tq) 23 ∧ blk w' (w.heap.size + 1) (vfn fun _ => 0) 31 ∧ blk w' lb (lpc (ob, sb, sun)) 93 ∧ blk w' sb (bif L 5 then (ssc Sn) else (ssc S)) 205 ∧ bod lo ob w' (X) ∧ blk w' c_b (bif L 9 then (qfn Cm) else (qfn fun _ => 0)) 22 ∧ blk w' v_b (sec Vs) 85) _ [(0, 34), (1, 35), (2, 36), (3, 37), (4, 38), (5, 39), (6, 33), (7, 40), (8, 41), (10, 9)] [0, 1, 2, 3, 4, 5, 6, 7, 8, 9, 10]
    case hn => rfl
    case hm => kernel_rfl
    case hB => kernel_rfl
    case hds => kernel_rfl
    case hA => (intro p; simp only [putsD, Act.put, sIT, sCZ, sCS, gCZ, gCS]; exact rfl)
    case h0 => exact fun p => ⟨Nat.le_refl _, hB.drew, q.drew, r.drew, g.drew, st.drew, o.drew, c.drew, v.drew⟩
    case hmore => exact fun p L w1 w2 ⟨hsz, hB, q, r, g, st, o, c, v⟩ hm => ⟨Nat.le_trans hsz hm.size, hB.trans (hm.mono (Nat.le_trans hW0 hsz)), q.below hm q.lt, r.below hm r.lt, g.below hm g.lt, st.below hm st.lt, o.below hm o.lt, c.below hm c.lt, v.below hm v.lt⟩
    case hs =>
      intro more
      iterate 3 (refine stepV _ rfl rfl (fun _ _ _ h => h) (by intros; go_simp; exact ⟨rfl, rfl⟩) ?_)
      refine stepV 3 rfl rfl (fun _ _ _ h => h) ?_ ?_
      · rintro p L w1 ⟨hsz, hB, q, r, g, st, o, c, v⟩ hk
        have L5 : L 5 = false := hk.2.2 5 rfl
        have L9 : L 9 = false := hk.2.2 9 rfl
        have hc : w1.cell? ⟨lb, 1, none⟩ = some (.pointer (some ⟨sb, 0, none⟩)) := g.cellIs rfl
        go_simp
        exact ⟨rfl, rfl⟩
      refine stepV 4 rfl rfl (fun _ _ _ h => h) ?_ ?_
      · rintro p L w1 ⟨hsz, hB, q, r, g, st, o, c, v⟩ hk
        have L5 : L 5 = false := hk.2.2 5 rfl
        have L9 : L 9 = false := hk.2.2 9 rfl
        first | exact valR_row _ _ rfl _ rfl _ _ v _ Try.underlying85 rfl (by first | kernel_rfl | (rw [sec_size]; kernel_rfl)) rfl | (have hc := v.cellIs (show _[0]? = some _ from rfl); go_simp; exact ⟨rfl, rfl⟩)
      refine AllI.cons ?_ ?_
      · refine stepI_mut 5 rfl (fun p => rfl) (fun _ => sb) (fun p => (ssc Sn)) ?_ ?_
        · rintro p L w1 ⟨hsz, hB, q, r, g, st, o, c, v⟩ hk
          have L5 : L 5 = false := hk.1
          have L9 : L 9 = false := hk.2.2 9 rfl
          rw [L5] at st
          try simp only [cond_true, cond_false] at st
          go_simp
          refine (RE.out _ _ st).mono ?_
          rintro e w2 ⟨rfl, h2⟩
          exact ⟨rfl, h2⟩
        · rintro p L w1 w2 ⟨hsz, hB, q, r, g, st, o, c, v⟩ hk hm
          have L5 : L 5 = false := hk.1
          have L9 : L 9 = false := hk.2.2 9 rfl
          refine ⟨Nat.le_trans hsz (by have := hm.size; simpa using this), (hB.row (by first | exact .inr (Nat.le_trans hW0 hp.1) | exact .inr ge_st | exact .inl ⟨Nat.le_refl _, Nat.le_refl _⟩ | omega | (have := hB.size; simp at this ⊢; omega)) _).trans (hm.mono (Nat.le_trans hW0 hsz)), (q.rowOther ne_q_st _).below hm (by simpa using q.lt), (r.rowOther ne_r_st _).below hm (by simpa using r.lt), (g.rowOther (Ne.symm ne_st_g) _).below hm (by simpa using g.lt), ?_, (o.rowOther (by first | exact .inr out_st | exact .inl out_st | omega) _).below hm (by simpa using o.lt), (c.rowOther (Ne.symm ne_st_c) _).below hm (by simpa using c.lt), (v.rowOther (Ne.symm ne_st_v) _).below hm (by simpa using v.lt)⟩
          rw [show upL L 5 5 = true from rfl]
          exact (st.row _).below hm (by simpa using st.lt)
      iterate 3 (refine stepV _ rfl rfl (fun _ _ _ h => h) (by intros; go_simp; exact ⟨rfl, rfl⟩) ?_)
      refine AllI.cons ?_ ?_
      · refine stepI_store 9 rfl (fun p => rfl) (fun p => rfl) _ _ _ rfl (fun _ => c_b) 0 (fun p => rfl) (fun p => (qfn Cm)) (fun p => rfl) (fun p => (qfn fun _ => 0)) (fun p => (qfn Cm)) 22 (fun p => over_qq _ _) (fun p => by first | (rw [qfn_size, qfn_size]; decide) | simp [qfn_size, qfn_size]) (fun p => by rw [qfn_size]; kernel_rfl) (fun p => qfn_one _) ?_ ?_
        · rintro p L w1 ⟨hsz, hB, q, r, g, st, o, c, v⟩ hk
          have L5 : L 5 = true := hk.2.1 5 rfl
          have L9 : L 9 = false := hk.1
          rw [L9] at c
          try simp only [cond_true, cond_false] at c
          exact c
        · rintro p L w1 ⟨hsz, hB, q, r, g, st, o, c, v⟩ hk
          have L5 : L 5 = true := hk.2.1 5 rfl
          have L9 : L 9 = false := hk.1
          skip
          refine ⟨(by simpa using hsz), hB.row (by first | exact .inr (Nat.le_trans hW0 hp.1) | exact .inr ge_c | exact .inl ⟨Nat.le_refl _, Nat.le_refl _⟩ | omega | (have := hB.size; simp at this ⊢; omega)) _, q.rowOther ne_q_c _, r.rowOther ne_r_c _, g.rowOther ne_g_c _, st.rowOther ne_st_c _, o.rowOther (by first | exact .inr out_c | exact .inl out_c | omega) _, ?_, v.rowOther (Ne.symm ne_c_v) _⟩
          rw [show upL L 9 9 = true from rfl]
          exact c.row _
      refine stepV _ rfl rfl (fun _ _ _ h => h) (by intros; go_simp; exact ⟨rfl, rfl⟩) ?_
      exact AllI.nil
    case hV0 => exact fun p q => AllI.nil
    case' he =>
    clear hB q r g st o c v
    rintro p w0rrr ⟨hsz, hB, q, r, g, st, o, c, v⟩
    replace st : blk w0rrr sb (ssc Sn) 205 := st
    replace c : blk w0rrr c_b (qfn Cm) 22 := c
    clear lt_q lt_r lt_g lt_st lt_o lt_c lt_v hsz hW0 RE
  case' inr.inl =>
    clear hA
    go_upto_region 9 with (fail)
    have lt_q := q.lt
    have lt_r := r.lt
    have lt_g := g.lt
    have lt_st := st.lt
    have lt_o := o.lt
    have lt_c := c.lt
    have lt_v := v.lt
    have hW0 : w.heap.size ≤ w0rr.heap.size := by simpa using hB.size
    apply wp_region_I 11 [0, 1, 3, 7, 0, 31, 63, 127, 127, 255, 1023] [] [_, _, _, _, _, _, _, _, _, (fun _ => undef), _] (fun p L w' => w0rr.heap.size ≤ w'.heap.size ∧ Save lo hi w w' ∧ blk w' w.heap.size (qfn tq) 23 ∧ blk w' (w.heap.size + 1) (vfn fun _ => 0) 31 ∧ blk w' lb (lpc (ob, sb, sun)) 93 ∧ blk w' sb (bif L 5 then (ssc Sn) else (ssc S)) 205 ∧ bod lo ob w' (X) ∧ blk w' c_b (bif L 9 then (qfn Cm) else (qfn fun _ => 0)) 22 ∧ blk w' v_b (sec Vs) 85) _ [(0, 45), (1, 46), (2, 47), (3, 48), (4, 49), (5, 50), (6, 44), (7, 51), (8, 52), (10, 9)] [0, 1, 2, 3, 4, 5, 6, 7, 8, 9, 10]
    case hn => rfl
    case hm => kernel_rfl
    case hB => kernel_rfl
    case hds => kernel_rfl
    case hA => (intro p; simp only [putsD, Act.put, sIT, sCZ, sCS, gCZ, gCS]; exact rfl)
    case h0 => exact fun p => ⟨Nat.le_refl _, hB.drew, q.drew, r.drew, g.drew, st.drew, o.drew, c.drew, v.drew⟩
    case hmore => exact fun p L w1 w2 ⟨hsz, hB, q, r, g, st, o, c, v⟩ hm => ⟨Nat.le_trans hsz hm.size, hB.trans (hm.mono (Nat.le_trans hW0 hsz)), q.below hm q.lt, r.below hm r.lt, g.below hm g.lt, st.below hm st.lt, o.below hm o.lt, c.below hm c.lt, v.below hm v.lt⟩
    case hs =>
      intro more
      iterate 3 (refine stepV _ rfl rfl (fun _ _ _ h => h) (by intros; go_simp; exact ⟨rfl, rfl⟩) ?_)
      refine stepV 3 rfl rfl (fun _ _ _ h => h) ?_ ?_
      · rintro p L w1 ⟨hsz, hB, q, r, g, st, o, c, v⟩ hk
        have L5 : L 5 = false := hk.2.2 5 rfl
        have L9 : L 9 = false := hk.2.2 9 rfl
        have hc : w1.cell? ⟨lb, 1, none⟩ = some (.pointer (some ⟨sb, 0, none⟩)) := g.cellIs rfl
        go_simp
        exact ⟨rfl, rfl⟩
      refine stepV 4 rfl rfl (fun _ _ _ h => h) ?_ ?_
      · rintro p L w1 ⟨hsz, hB, q, r, g, st, o, c, v⟩ hk
        have L5 : L 5 = false := hk.2.2 5 rfl
        have L9 : L 9 = false := hk.2.2 9 rfl
        first | exact valR_row _ _ rfl _ rfl _ _ v _ Try.underlying85 rfl (by first | kernel_rfl | (rw [sec_size]; kernel_rfl)) rfl | (have hc := v.cellIs (show _[0]? = some _ from rfl); go_simp; exact ⟨rfl, rfl⟩)
      refine AllI.cons ?_ ?_
      · refine stepI_mut 5 rfl (fun p => rfl) (fun _ => sb) (fun p => (ssc Sn)) ?_ ?_
        · rintro p L w1 ⟨hsz, hB, q, r, g, st, o, c, v⟩ hk
          have L5 : L 5 = false := hk.1
          have L9 : L 9 = false := hk.2.2 9 rfl
          rw [L5] at st
          try simp only [cond_true, cond_false] at st
          go_simp
          refine (RE.out _ _ st).mono ?_
          rintro e w2 ⟨rfl, h2⟩
          exact ⟨rfl, h2⟩
        · rintro p L w1 w2 ⟨hsz, hB, q, r, g, st, o, c, v⟩ hk hm
          have L5 : L 5 = false := hk.1
          have L9 : L 9 = false := hk.2.2 9 rfl
          refine ⟨Nat.le_trans hsz (by have := hm.size; simpa using this), (hB.row (by first | exact .inr (Nat.le_trans hW0 hp.1) | exact .inr ge_st | exact .inl ⟨Nat.le_refl _, Nat.le_refl _⟩ | omega | (have := hB.size; simp at this ⊢; omega)) _).trans (hm.mono (Nat.le_trans hW0 hsz)), (q.rowOther ne_q_st _).below hm (by simpa using q.lt), (r.rowOther ne_r_st _).below hm (by simpa using r.lt), (g.rowOther (Ne.symm ne_st_g) _).below hm (by simpa using g.lt), ?_, (o.rowOther (by first | exact .inr out_st | exact .inl out_st | omega) _).below hm (by simpa using o.lt), (c.rowOther (Ne.symm ne_st_c) _).below hm (by simpa using c.lt), (v.rowOther (Ne.symm ne_st_v) _).below hm (by simpa using v.lt)⟩
          rw [show upL L 5 5 = true from rfl]
          exact (st.row _).below hm (by simpa using st.lt)
      iterate 3 (refine stepV _ rfl rfl (fun _ _ _ h => h) (by intros; go_simp; exact ⟨rfl, rfl⟩) ?_)
      refine AllI.cons ?_ ?_
      · refine stepI_store 9 rfl (fun p => rfl) (fun p => rfl) _ _ _ rfl (fun _ => c_b) 0 (fun p => rfl) (fun p => (qfn Cm)) (fun p => rfl) (fun p => (qfn fun _ => 0)) (fun p => (qfn Cm)) 22 (fun p => over_qq _ _) (fun p => by first | (rw [qfn_size, qfn_size]; decide) | simp [qfn_size, qfn_size]) (fun p => by rw [qfn_size]; kernel_rfl) (fun p => qfn_one _) ?_ ?_
        · rintro p L w1 ⟨hsz, hB, q, r, g, st, o, c, v⟩ hk
          have L5 : L 5 = true := hk.2.1 5 rfl
          have L9 : L 9 = false := hk.1
          rw [L9] at c
          try simp only [cond_true, cond_false] at c
          exact c
        · rintro p L w1 ⟨hsz, hB, q, r, g, st, o, c, v⟩ hk
          have L5 : L 5 = true := hk.2.1 5 rfl
          have L9 : L 9 = false := hk.1
          skip
          refine ⟨(by simpa using hsz), hB.row (by first | exact .inr (Nat.le_trans hW0 hp.1) | exact .inr ge_c | exact .inl ⟨Nat.le_refl _, Nat.le_refl _⟩ | omega | (have := hB.size; simp at this ⊢; omega)) _, q.rowOther ne_q_c _, r.rowOther ne_r_c _, g.rowOther ne_g_c _, st.rowOther ne_st_c _, o.rowOther (by first | exact .inr out_c | exact .inl out_c | omega) _, ?_, v.rowOther (Ne.symm ne_c_v) _⟩
          rw [show upL L 9 9 = true from rfl]
          exact c.row _
      refine stepV _ rfl rfl (fun _ _ _ h => h) (by intros; go_simp; exact ⟨rfl, rfl⟩) ?_
      exact AllI.nil
    case hV0 => exact fun p q => AllI.nil
    case' he =>
    clear hB q r g st o c v
    rintro p w0rrr ⟨hsz, hB, q, r, g, st, o, c, v⟩
    replace st : blk w0rrr sb (ssc Sn) 205 := st
    replace c : blk w0rrr c_b (qfn Cm) 22 := c
    clear lt_q lt_r lt_g lt_st lt_o lt_c lt_v hsz hW0 RE
  case' inr.inr =>
    clear hA
    go_upto_region 5 with (fail)
    have lt_q := q.lt
    have lt_r := r.lt
    have lt_g := g.lt
    have lt_st := st.lt
    have lt_o := o.lt
    have lt_c := c.lt
    have lt_v := v.lt
    have hW0 : w.heap.size ≤ w0rr.heap.size := by simpa using hB.size
    apply wp_region_I 12 [0, 1, 3, 7, 0, 0, 63, 127, 255, 255, 511, 2047] [] [_, _, _, _, _, _, _, _, _, _, (fun _ => undef), _] (fun p L w' => w0rr.heap.size ≤ w'.heap.size ∧ Save lo hi w w' ∧ blk w' w.heap.size (qfn tq) 23 ∧ blk w' (w.heap.size + 1) (vfn fun _ => 0) 31 ∧ blk w' lb (lpc (ob, sb, sun)) 93 ∧ blk w' sb (bif L 6 then (ssc Sn) else (ssc S)) 205 ∧ bod lo ob w' (X) ∧ blk w' c_b (bif L 10 then (qfn Cm) else (qfn fun _ => 0)) 22 ∧ blk w' v_b (sec Vs) 85) _ [(0, 22), (1, 23), (2, 24), (3, 25), (4, 26), (5, 27), (6, 28), (7, 21), (8, 29), (9, 30), (11, 9)] [0, 1, 2, 3, 4, 5, 6, 7, 8, 9, 10, 11]
    case hn => rfl
    case hm => kernel_rfl
    case hB => kernel_rfl
    case hds => kernel_rfl
    case hA => (intro p; simp only [putsD, Act.put, sIT, sCZ, sCS, gCZ, gCS]; exact rfl)
    case h0 => exact fun p => ⟨Nat.le_refl _, hB.drew, q.drew, r.drew, g.drew, st.drew, o.drew, c.drew, v.drew⟩
    case hmore => exact fun p L w1 w2 ⟨hsz, hB, q, r, g, st, o, c, v⟩ hm => ⟨Nat.le_trans hsz hm.size, hB.trans (hm.mono (Nat.le_trans hW0 hsz)), q.below hm q.lt, r.below hm r.lt, g.below hm g.lt, st.below hm st.lt, o.below hm o.lt, c.below hm c.lt, v.below hm v.lt⟩
    case hs =>
      intro more
      iterate 3 (refine stepV _ rfl rfl (fun _ _ _ h => h) (by intros; go_simp; exact ⟨rfl, rfl⟩) ?_)
      refine stepV 3 rfl rfl (fun _ _ _ h => h) ?_ ?_
      · rintro p L w1 ⟨hsz, hB, q, r, g, st, o, c, v⟩ hk
        have L6 : L 6 = false := hk.2.2 6 rfl
        have L10 : L 10 = false := hk.2.2 10 rfl
        have hc : w1.cell? ⟨lb, 1, none⟩ = some (.pointer (some ⟨sb, 0, none⟩)) := g.cellIs rfl
        go_simp
        exact ⟨rfl, rfl⟩
      refine stepV 4 rfl rfl (fun _ _ _ h => h) ?_ ?_
      · rintro p L w1 ⟨hsz, hB, q, r, g, st, o, c, v⟩ hk
        have L6 : L 6 = false := hk.2.2 6 rfl
        have L10 : L 10 = false := hk.2.2 10 rfl
        first | exact valR_row _ _ rfl _ rfl _ _ v _ Try.underlying85 rfl (by first | kernel_rfl | (rw [sec_size]; kernel_rfl)) rfl | (have hc := v.cellIs (show _[0]? = some _ from rfl); go_simp; exact ⟨rfl, rfl⟩)
      refine stepV 5 rfl rfl (fun _ _ _ h => h) ?_ ?_
      · rintro p L w1 ⟨hsz, hB, q, r, g, st, o, c, v⟩ hk
        have L6 : L 6 = false := hk.2.2 6 rfl
        have L10 : L 10 = false := hk.2.2 10 rfl
        first | exact valR_row _ _ rfl _ rfl _ _ q _ Try.underlying23 rfl (by first | kernel_rfl | (rw [qfn_size]; kernel_rfl)) rfl | (have hc := q.cellIs (qfn_get _ (show 0 < 4 by omega)); go_simp; exact ⟨rfl, rfl⟩)
      refine AllI.cons ?_ ?_
      · refine stepI_mut 6 rfl (fun p => rfl) (fun _ => sb) (fun p => (ssc Sn)) ?_ ?_
        · rintro p L w1 ⟨hsz, hB, q, r, g, st, o, c, v⟩ hk
          have L6 : L 6 = false := hk.1
          have L10 : L 10 = false := hk.2.2 10 rfl
          rw [L6] at st
          try simp only [cond_true, cond_false] at st
          go_simp
          refine (RE.out _ _ st).mono ?_
          rintro e w2 ⟨rfl, h2⟩
          exact ⟨rfl, h2⟩
        · rintro p L w1 w2 ⟨hsz, hB, q, r, g, st, o, c, v⟩ hk hm
          have L6 : L 6 = false := hk.1
          have L10 : L 10 = false := hk.2.2 10 rfl
          refine ⟨Nat.le_trans hsz (by have := hm.size; simpa using this), (hB.row (by first | exact .inr (Nat.le_trans hW0 hp.1) | exact .inr ge_st | exact .inl ⟨Nat.le_refl _, Nat.le_refl _⟩ | omega | (have := hB.size; simp at this ⊢; omega)) _).trans (hm.mono (Nat.le_trans hW0 hsz)), (q.rowOther ne_q_st _).below hm (by simpa using q.lt), (r.rowOther ne_r_st _).below hm (by simpa using r.lt), (g.rowOther (Ne.symm ne_st_g) _).below hm (by simpa using g.lt), ?_, (o.rowOther (by first | exact .inr out_st | exact .inl out_st | omega) _).below hm (by simpa using o.lt), (c.rowOther (Ne.symm ne_st_c) _).below hm (by simpa using c.lt), (v.rowOther (Ne.symm ne_st_v) _).below hm (by simpa using v.lt)⟩
          rw [show upL L 6 6 = true from rfl]
          exact (st.row _).below hm (by simpa using st.lt)
      iterate 3 (refine stepV _ rfl rfl (fun _ _ _ h => h) (by intros; go_simp; exact ⟨rfl, rfl⟩) ?_)
      refine AllI.cons ?_ ?_
      · refine stepI_store 10 rfl (fun p => rfl) (fun p => rfl) _ _ _ rfl (fun _ => c_b) 0 (fun p => rfl) (fun p => (qfn Cm)) (fun p => rfl) (fun p => (qfn fun _ => 0)) (fun p => (qfn Cm)) 22 (fun p => over_qq _ _) (fun p => by first | (rw [qfn_size, qfn_size]; decide) | simp [qfn_size, qfn_size]) (fun p => by rw [qfn_size]; kernel_rfl) (fun p => qfn_one _) ?_ ?_
        · rintro p L w1 ⟨hsz, hB, q, r, g, st, o, c, v⟩ hk
          have L6 : L 6 = true := hk.2.1 6 rfl
          have L10 : L 10 = false := hk.1
          rw [L10] at c
          try simp only [cond_true, cond_false] at c
          exact c
        · rintro p L w1 ⟨hsz, hB, q, r, g, st, o, c, v⟩ hk
          have L6 : L 6 = true := hk.2.1 6 rfl
          have L10 : L 10 = false := hk.1
          skip
          refine ⟨(by simpa using hsz), hB.row (by first | exact .inr (Nat.le_trans hW0 hp.1) | exact .inr ge_c | exact .inl ⟨Nat.le_refl _, Nat.le_refl _⟩ | omega | (have := hB.size; simp at this ⊢; omega)) _, q.rowOther ne_q_c _, r.rowOther ne_r_c _, g.rowOther ne_g_c _, st.rowOther ne_st_c _, o.rowOther (by first | exact .inr out_c | exact .inl out_c | omega) _, ?_, v.rowOther (Ne.symm ne_c_v) _⟩
          rw [show upL L 10 10 = true from rfl]
          exact c.row _
      refine stepV _ rfl rfl (fun _ _ _ h => h) (by intros; go_simp; exact ⟨rfl, rfl⟩) ?_
      exact AllI.nil
    case hV0 => exact fun p q => AllI.nil
    case' he =>
    clear hB q r g st o c v
    rintro p w0rrr ⟨hsz, hB, q, r, g, st, o, c, v⟩
    replace st : blk w0rrr sb (ssc Sn) 205 := st
    replace c : blk w0rrr c_b (qfn Cm) 22 := c
    clear lt_q lt_r lt_g lt_st lt_o lt_c lt_v hsz hW0 RE
  all_goals
    clear v
    go_upto_region 10 with (fail)
    have lt_q := q.lt
    have lt_r := r.lt
    have lt_g := g.lt
    have lt_st := st.lt
    have lt_o := o.lt
    have lt_c := c.lt
    have hW0 : w.heap.size ≤ w0rrr.heap.size := by simpa using hB.size
    apply wp_region_I 17 [0, 1, 3, 7, 15, 0, 32, 96, 224, 511, 1023, 2047, 4095, 4095, 0, 24575, 65535] [14] [_, _, _, _, _, _, _, _, _, _, _, _, _, _, (fun p => .pointer (some ⟨p 14, 0, none⟩)), (fun _ => undef), _] (fun p L w' => w0rrr.heap.size ≤ w'.heap.size ∧ Save lo hi w w' ∧ blk w' w.heap.size (qfn tq) 23 ∧ blk w' (w.heap.size + 1) (vfn fun _ => 0) 31 ∧ blk w' lb (lpc (ob, sb, sun)) 93 ∧ blk w' sb (ssc Sn) 205 ∧ bod lo ob w' (X) ∧ blk w' c_b (qfn Cm) 22 ∧ (L 14 = true → w0rrr.heap.size ≤ p 14 ∧ blk w' (p 14) (bif L 15 then (vfn Qb) else (vfn fun _ => 0)) 31)) _ [(0, 54), (1, 55), (2, 56), (3, 57), (4, 58), (5, 59), (6, 60), (7, 61), (8, 62), (9, 63), (10, 64), (11, 53), (12, 65), (13, 66), (14, 11), (16, 12)] [0, 1, 2, 3, 4, 5, 6, 7, 8, 9, 10, 11, 12, 13, 14, 15, 16]
    case hn => rfl
    case hm => kernel_rfl
    case hB => kernel_rfl
    case hds => kernel_rfl
    case hA => (intro p; simp only [putsD, Act.put, sIT, sCZ, sCS, gCZ, gCS]; exact rfl)
    case h0 => exact fun p => ⟨Nat.le_refl _, hB.drew, q.drew, r.drew, g.drew, st.drew, o.drew, c.drew, fun h => absurd h (by decide)⟩
    case hmore => exact fun p L w1 w2 ⟨hsz, hB, q, r, g, st, o, c, h_al⟩ hm => ⟨Nat.le_trans hsz hm.size, hB.trans (hm.mono (Nat.le_trans hW0 hsz)), q.below hm q.lt, r.below hm r.lt, g.below hm g.lt, st.below hm st.lt, o.below hm o.lt, c.below hm c.lt, fun hl => ⟨(h_al hl).1, (h_al hl).2.below hm (h_al hl).2.lt⟩⟩
    case hs =>
      intro more
      iterate 3 (refine stepV _ rfl rfl (fun _ _ _ h => h) (by intros; go_simp; exact ⟨rfl, rfl⟩) ?_)
      refine stepV 3 rfl rfl (fun _ _ _ h => h) ?_ ?_
      · rintro p L w1 ⟨hsz, hB, q, r, g, st, o, c, h_al⟩ hk
        have L15 : L 15 = false := hk.2.2 15 rfl
        have hc : w1.cell? ⟨lb, 0, none⟩ = some (.pointer (some ⟨ob, 0, none⟩)) := g.cellIs rfl
        go_simp
        exact ⟨rfl, rfl⟩
      refine stepD 4 rfl (fun p => rfl) (fun _ _ _ h => h) more ?_ ?_
      · rintro p L w1 ⟨hsz, hB, q, r, g, st, o, c, h_al⟩ hk
        have L15 : L 15 = false := hk.2.2 15 rfl
        go_simp
        refine (AT.out _ o).mono ?_
        rintro e w2 ⟨rfl, h2⟩
        first | exact ⟨rfl, h2⟩ | (subst h2; exact ⟨rfl, Below.refl _ _⟩)
      iterate 3 (refine stepV _ rfl rfl (fun _ _ _ h => h) (by intros; go_simp; exact ⟨rfl, rfl⟩) ?_)
      refine stepV 8 rfl rfl (fun _ _ _ h => h) ?_ ?_
      · rintro p L w1 ⟨hsz, hB, q, r, g, st, o, c, h_al⟩ hk
        have L15 : L 15 = false := hk.2.2 15 rfl
        have hc : w1.cell? ⟨lb, 0, none⟩ = some (.pointer (some ⟨ob, 0, none⟩)) := g.cellIs rfl
        go_simp
        exact ⟨rfl, rfl⟩
      refine stepD 9 rfl (fun p => rfl) (fun _ _ _ h => h) more ?_ ?_
      · rintro p L w1 ⟨hsz, hB, q, r, g, st, o, c, h_al⟩ hk
        have L15 : L 15 = false := hk.2.2 15 rfl
        go_simp
        refine (TO.out _ o).mono ?_
        rintro e w2 ⟨rfl, h2⟩
        first | exact ⟨rfl, h2⟩ | (subst h2; exact ⟨rfl, Below.refl _ _⟩)
      refine stepD 10 rfl (fun p => rfl) (fun _ _ _ h => h) more ?_ ?_
      · rintro p L w1 ⟨hsz, hB, q, r, g, st, o, c, h_al⟩ hk
        go_simp
        refine (BA.out _).mono ?_
        rintro e w2 ⟨rfl, h2⟩
        first | exact ⟨rfl, h2⟩ | (subst h2; exact ⟨rfl, Below.refl _ _⟩)
      iterate 3 (refine stepV _ rfl rfl (fun _ _ _ h => h) (by intros; go_simp; exact ⟨rfl, rfl⟩) ?_)
      refine AllI.cons ?_ ?_
      · refine stepI_alloc 14 rfl (fun p => rfl) rfl (vfn fun _ => 0) 31 (fun p => rfl) ?_ ?_
        · intro p w1
          go_simp
          first | rfl | rw [zero_vec]
        rintro p L w1 ⟨hsz, hB, q, r, g, st, o, c, h_al⟩ hk
        have L15 : L 15 = false := hk.2.2 15 rfl
        refine ⟨Nat.le_trans hsz (by simp), hB.alloc (Nat.le_trans (by first | exact hW0 | (have := hB.size; simp at this ⊢; omega)) hsz) _, q.alloc _, r.alloc _, g.alloc _, st.alloc _, o.alloc _, c.alloc _, fun _ => ⟨hsz, ?_⟩⟩
        rw [show upL L 14 15 = false from L15]
        exact blk.new _ _ _
      refine AllI.cons ?_ ?_
      · refine stepI_store 15 rfl (fun p => rfl) (fun p => rfl) _ _ _ rfl (fun p => p 14) 0 (fun p => rfl) (fun p => (vfn Qb)) (fun p => rfl) (fun p => (vfn fun _ => 0)) (fun p => (vfn Qb)) 31 (fun p => over_v _ _) (fun p => by first | (rw [vfn_size, vfn_size]; decide) | simp [vfn_size, vfn_size]) (fun p => by rw [vfn_size]; kernel_rfl) (fun p => vfn_one _) ?_ ?_
        · rintro p L w1 ⟨hsz, hB, q, r, g, st, o, c, h_al⟩ hk
          have L15 : L 15 = false := hk.1
          have hh := (h_al (hk.2.1 14 rfl)).2
          rw [L15] at hh
          try simp only [cond_true, cond_false] at hh
          exact hh
        · rintro p L w1 ⟨hsz, hB, q, r, g, st, o, c, h_al⟩ hk
          have L15 : L 15 = false := hk.1
          skip
          have hp := h_al (hk.2.1 14 rfl)
          refine ⟨(by simpa using hsz), hB.row (by first | exact .inr (Nat.le_trans hW0 hp.1) | exact .inr ge_al | exact .inl ⟨Nat.le_refl _, Nat.le_refl _⟩ | omega | (have := hB.size; simp at this ⊢; omega)) _, q.rowOther (by first | exact Nat.ne_of_lt (Nat.lt_of_lt_of_le lt_q hp.1) | omega) _, r.rowOther (by first | exact Nat.ne_of_lt (Nat.lt_of_lt_of_le lt_r hp.1) | omega) _, g.rowOther (by first | exact Nat.ne_of_lt (Nat.lt_of_lt_of_le lt_g hp.1) | omega) _, st.rowOther (by first | exact Nat.ne_of_lt (Nat.lt_of_lt_of_le lt_st hp.1) | omega) _, o.rowOther (.inr (Nat.lt_of_lt_of_le lt_o hp.1)) _, c.rowOther (by first | exact Nat.ne_of_lt (Nat.lt_of_lt_of_le lt_c hp.1) | omega) _, fun _ => ⟨hp.1, ?_⟩⟩
          rw [show upL L 15 15 = true from rfl]
          exact hp.2.row _
      refine stepV _ rfl rfl (fun _ _ _ h => h) (by intros; go_simp; exact ⟨rfl, rfl⟩) ?_
      exact AllI.nil
    case hV0 =>
      intro p q
      refine AllI.cons ?_ ?_
      · skip
        iterate 17 (refine AllI.cons (by first | exact .inl rfl | (refine .inr ?_; simp only [gCZ, gCS]; done) | exact .inr rfl) ?_)
        exact AllI.nil
      exact AllI.nil
    case he =>
    clear hB q r g st o c
    rintro p w0rrrr ⟨hsz, hB, q, r, g, st, o, c, h_al⟩
    obtain ⟨le_al, al⟩ := h_al rfl
    clear h_al
    replace al : blk w0rrrr (p 14) (vfn Qb) 31 := al
    have ne_q_al : w.heap.size ≠ p 14 := Nat.ne_of_lt (Nat.lt_of_lt_of_le lt_q le_al)
    have ne_r_al : (w.heap.size + 1) ≠ p 14 := Nat.ne_of_lt (Nat.lt_of_lt_of_le lt_r le_al)
    have ne_g_al : lb ≠ p 14 := Nat.ne_of_lt (Nat.lt_of_lt_of_le lt_g le_al)
    have ne_st_al : sb ≠ p 14 := Nat.ne_of_lt (Nat.lt_of_lt_of_le lt_st le_al)
    have ne_o_al : ob ≠ p 14 := Nat.ne_of_lt (Nat.lt_of_lt_of_le lt_o le_al)
    have ne_c_al : c_b ≠ p 14 := Nat.ne_of_lt (Nat.lt_of_lt_of_le lt_c le_al)
    have ge_al : w.heap.size ≤ p 14 := Nat.le_trans hW0 le_al
    have out_al : ob < p 14 := Nat.lt_of_lt_of_le lt_o le_al
    generalize p 14 = al_b at *
    clear lt_q lt_r lt_g lt_st lt_o lt_c hsz hW0 AT TO BA
    go_upto_region 11 with (fail)
    have lt_q := q.lt
    have lt_r := r.lt
    have lt_g := g.lt
    have lt_st := st.lt
    have lt_o := o.lt
    have lt_c := c.lt
    have lt_al := al.lt
    have hW0 : w.heap.size ≤ w0rrrr.heap.size := by simpa using hB.size
    apply wp_region_I 13 [0, 1, 3, 7, 0, 0, 63, 127, 255, 255, 0, 1535, 4095] [10] [_, _, _, _, _, _, _, _, _, _, (fun p => .pointer (some ⟨p 10, 0, none⟩)), (fun _ => undef), _] (fun p L w' => w0rrrr.heap.size ≤ w'.heap.size ∧ Save lo hi w w' ∧ blk w' w.heap.size (qfn tq) 23 ∧ blk w' (w.heap.size + 1) (vfn fun _ => 0) 31 ∧ blk w' lb (lpc (ob, sb, sun)) 93 ∧ blk w' sb (ssc Sn) 205 ∧ bod lo ob w' (bif L 6 then (Xn) else (X)) ∧ blk w' c_b (qfn Cm) 22 ∧ blk w' al_b (vfn Qb) 31 ∧ (L 10 = true → w0rrrr.heap.size ≤ p 10 ∧ blk w' (p 10) (bif L 11 then (vfn Tc) else (vfn fun _ => 0)) 31)) _ [(0, 68), (1, 69), (2, 70), (3, 71), (4, 72), (5, 73), (6, 74), (7, 67), (8, 75), (9, 76), (10, 13), (12, 14)] [0, 1, 2, 3, 4, 5, 6, 7, 8, 9, 10, 11, 12]
    case hn => rfl
    case hm => kernel_rfl
    case hB => kernel_rfl
    case hds => kernel_rfl
    case hA => (intro p; simp only [putsD, Act.put, sIT, sCZ, sCS, gCZ, gCS]; exact rfl)
    case h0 => exact fun p => ⟨Nat.le_refl _, hB.drew, q.drew, r.drew, g.drew, st.drew, o.drew, c.drew, al.drew, fun h => absurd h (by decide)⟩
    case hmore => exact fun p L w1 w2 ⟨hsz, hB, q, r, g, st, o, c, al, h_ch⟩ hm => ⟨Nat.le_trans hsz hm.size, hB.trans (hm.mono (Nat.le_trans hW0 hsz)), q.below hm q.lt, r.below hm r.lt, g.below hm g.lt, st.below hm st.lt, o.below hm o.lt, c.below hm c.lt, al.below hm al.lt, fun hl => ⟨(h_ch hl).1, (h_ch hl).2.below hm (h_ch hl).2.lt⟩⟩
    case hs =>
      intro more
      iterate 3 (refine stepV _ rfl rfl (fun _ _ _ h => h) (by intros; go_simp; exact ⟨rfl, rfl⟩) ?_)
      refine stepV 3 rfl rfl (fun _ _ _ h => h) ?_ ?_
      · rintro p L w1 ⟨hsz, hB, q, r, g, st, o, c, al, h_ch⟩ hk
        have L6 : L 6 = false := hk.2.2 6 rfl
        have L11 : L 11 = false := hk.2.2 11 rfl
        have hc : w1.cell? ⟨lb, 0, none⟩ = some (.pointer (some ⟨ob, 0, none⟩)) := g.cellIs rfl
        go_simp
        exact ⟨rfl, rfl⟩
      refine stepV 4 rfl rfl (fun _ _ _ h => h) ?_ ?_
      · rintro p L w1 ⟨hsz, hB, q, r, g, st, o, c, al, h_ch⟩ hk
        have L6 : L 6 = false := hk.2.2 6 rfl
        have L11 : L 11 = false := hk.2.2 11 rfl
        first | exact valR_row _ _ rfl _ rfl _ _ c _ Try.underlying22 rfl (by first | kernel_rfl | (rw [qfn_size]; kernel_rfl)) rfl | (have hc := c.cellIs (qfn_get _ (show 0 < 4 by omega)); go_simp; exact ⟨rfl, rfl⟩)
      refine stepV 5 rfl rfl (fun _ _ _ h => h) ?_ ?_
      · intros; (try simp only [vfn, qfn]); go_simp; exact ⟨rfl, rfl⟩
      refine AllI.cons ?_ ?_
      · refine stepI_rel 6 rfl (fun p => rfl) (fun p w1 w2 => bod lo ob w2 (Xn) ∧ Save lo ob w1 w2) ?_ ?_
        · rintro p L w1 ⟨hsz, hB, q, r, g, st, o, c, al, h_ch⟩ hk
          have L6 : L 6 = false := hk.1
          have L11 : L 11 = false := hk.2.2 11 rfl
          rw [L6] at o
          try simp only [cond_true, cond_false] at o
          go_simp
          refine (TK.out _ o).mono ?_
          rintro e w2 ⟨rfl, h2, h3⟩
          exact ⟨rfl, h2, h3⟩
        · rintro p L w1 w2 ⟨hsz, hB, q, r, g, st, o, c, al, h_ch⟩ hk ⟨h2, h3⟩
          have L6 : L 6 = false := hk.1
          have L11 : L 11 = false := hk.2.2 11 rfl
          refine ⟨Nat.le_trans hsz h3.size, hB.next (h3.wide (Nat.le_refl _) (by omega)), q.save h3 (by first | exact .inr out_q | exact .inl out_q | omega), r.save h3 (by first | exact .inr out_r | exact .inl out_r | omega), g.save h3 (by first | exact .inr out_g | exact .inl out_g | omega), st.save h3 (by first | exact .inr out_st | exact .inl out_st | omega), ?_, c.save h3 (by first | exact .inr out_c | exact .inl out_c | omega), al.save h3 (by first | exact .inr out_al | exact .inl out_al | omega), fun hl => ⟨(h_ch hl).1, (h_ch hl).2.save h3 (.inr (Nat.lt_of_lt_of_le lt_o (h_ch hl).1))⟩⟩
          rw [show upL L 6 6 = true from rfl]
          exact h2
      iterate 3 (refine stepV _ rfl rfl (fun _ _ _ h => h) (by intros; go_simp; exact ⟨rfl, rfl⟩) ?_)
      refine AllI.cons ?_ ?_
      · refine stepI_alloc 10 rfl (fun p => rfl) rfl (vfn fun _ => 0) 31 (fun p => rfl) ?_ ?_
        · intro p w1
          go_simp
          first | rfl | rw [zero_vec]
        rintro p L w1 ⟨hsz, hB, q, r, g, st, o, c, al, h_ch⟩ hk
        have L11 : L 11 = false := hk.2.2 11 rfl
        refine ⟨Nat.le_trans hsz (by simp), hB.alloc (Nat.le_trans (by first | exact hW0 | (have := hB.size; simp at this ⊢; omega)) hsz) _, q.alloc _, r.alloc _, g.alloc _, st.alloc _, o.alloc _, c.alloc _, al.alloc _, fun _ => ⟨hsz, ?_⟩⟩
        rw [show upL L 10 11 = false from L11]
        exact blk.new _ _ _
      refine AllI.cons ?_ ?_
      · refine stepI_store 11 rfl (fun p => rfl) (fun p => rfl) _ _ _ rfl (fun p => p 10) 0 (fun p => rfl) (fun p => (vfn Tc)) (fun p => rfl) (fun p => (vfn fun _ => 0)) (fun p => (vfn Tc)) 31 (fun p => over_v _ _) (fun p => by first | (rw [vfn_size, vfn_size]; decide) | simp [vfn_size, vfn_size]) (fun p => by rw [vfn_size]; kernel_rfl) (fun p => vfn_one _) ?_ ?_
        · rintro p L w1 ⟨hsz, hB, q, r, g, st, o, c, al, h_ch⟩ hk
          have L6 : L 6 = true := hk.2.1 6 rfl
          have L11 : L 11 = false := hk.1
          have hh := (h_ch (hk.2.1 10 rfl)).2
          rw [L11] at hh
          try simp only [cond_true, cond_false] at hh
          exact hh
        · rintro p L w1 ⟨hsz, hB, q, r, g, st, o, c, al, h_ch⟩ hk
          have L6 : L 6 = true := hk.2.1 6 rfl
          have L11 : L 11 = false := hk.1
          skip
          have hp := h_ch (hk.2.1 10 rfl)
          refine ⟨(by simpa using hsz), hB.row (by first | exact .inr (Nat.le_trans hW0 hp.1) | exact .inr ge_ch | exact .inl ⟨Nat.le_refl _, Nat.le_refl _⟩ | omega | (have := hB.size; simp at this ⊢; omega)) _, q.rowOther (by first | exact Nat.ne_of_lt (Nat.lt_of_lt_of_le lt_q hp.1) | omega) _, r.rowOther (by first | exact Nat.ne_of_lt (Nat.lt_of_lt_of_le lt_r hp.1) | omega) _, g.rowOther (by first | exact Nat.ne_of_lt (Nat.lt_of_lt_of_le lt_g hp.1) | omega) _, st.rowOther (by first | exact Nat.ne_of_lt (Nat.lt_of_lt_of_le lt_st hp.1) | omega) _, o.rowOther (.inr (Nat.lt_of_lt_of_le lt_o hp.1)) _, c.rowOther (by first | exact Nat.ne_of_lt (Nat.lt_of_lt_of_le lt_c hp.1) | omega) _, al.rowOther (by first | exact Nat.ne_of_lt (Nat.lt_of_lt_of_le lt_al hp.1) | omega) _, fun _ => ⟨hp.1, ?_⟩⟩
          rw [show upL L 11 11 = true from rfl]
          exact hp.2.row _
      refine stepV _ rfl rfl (fun _ _ _ h => h) (by intros; go_simp; exact ⟨rfl, rfl⟩) ?_
      exact AllI.nil
    case hV0 =>
      intro p q
      refine AllI.cons ?_ ?_
      · skip
        iterate 13 (refine AllI.cons (by first | exact .inl rfl | (refine .inr ?_; simp only [gCZ, gCS]; done) | exact .inr rfl) ?_)
        exact AllI.nil
      exact AllI.nil
    case he =>
    clear hB q r g st o c al
    rintro p w0rrrrr ⟨hsz, hB, q, r, g, st, o, c, al, h_ch⟩
    obtain ⟨le_ch, ch⟩ := h_ch rfl
    clear h_ch
    replace o : bod lo ob w0rrrrr (Xn) := o
    replace ch : blk w0rrrrr (p 10) (vfn Tc) 31 := ch
    have ne_q_ch : w.heap.size ≠ p 10 := Nat.ne_of_lt (Nat.lt_of_lt_of_le lt_q le_ch)
    have ne_r_ch : (w.heap.size + 1) ≠ p 10 := Nat.ne_of_lt (Nat.lt_of_lt_of_le lt_r le_ch)
    have ne_g_ch : lb ≠ p 10 := Nat.ne_of_lt (Nat.lt_of_lt_of_le lt_g le_ch)
    have ne_st_ch : sb ≠ p 10 := Nat.ne_of_lt (Nat.lt_of_lt_of_le lt_st le_ch)
    have ne_o_ch : ob ≠ p 10 := Nat.ne_of_lt (Nat.lt_of_lt_of_le lt_o le_ch)
    have ne_c_ch : c_b ≠ p 10 := Nat.ne_of_lt (Nat.lt_of_lt_of_le lt_c le_ch)
    have ne_al_ch : al_b ≠ p 10 := Nat.ne_of_lt (Nat.lt_of_lt_of_le lt_al le_ch)
    have ge_ch : w.heap.size ≤ p 10 := Nat.le_trans hW0 le_ch
    have out_ch : ob < p 10 := Nat.lt_of_lt_of_le lt_o le_ch
    generalize p 10 = ch_b at *
    clear lt_q lt_r lt_g lt_st lt_o lt_c lt_al hsz hW0 TK ch
    go_upto_region 12 with (fail)
    have lt_q := q.lt
    have lt_r := r.lt
    have lt_g := g.lt
    have lt_st := st.lt
    have lt_o := o.lt
    have lt_c := c.lt
    have lt_al := al.lt
    have hW0 : w.heap.size ≤ w0rrrrr.heap.size := by simpa using hB.size
    apply wp_region_Q 7 [0, 1, 3, 7, 15, 31, 63] [5] [_, _, _, _, _, (fun p => .pointer (some ⟨p 5, 0, none⟩)), (fun _ => undef)] (fun p L w' => w0rrrrr.heap.size ≤ w'.heap.size ∧ Save lo hi w w' ∧ blk w' w.heap.size (qfn tq) 23 ∧ blk w' (w.heap.size + 1) (vfn fun _ => 0) 31 ∧ blk w' lb (lpc (ob, sb, sun)) 93 ∧ blk w' sb (ssc Sn) 205 ∧ bod lo ob w' (Xn) ∧ blk w' c_b (qfn Cm) 22 ∧ blk w' al_b (vfn Qb) 31 ∧ (L 5 = true → w0rrrrr.heap.size ≤ p 5 ∧ blk w' (p 5) (bif L 6 then (qfn Xn.h) else (qfn fun _ => 0)) 22)) _ [(0, 77), (1, 78), (2, 79), (3, 80), (4, 81), (5, 15)] [0, 1, 2, 3, 4, 5, 6]
    case hn => rfl
    case hB => kernel_rfl
    case hds => kernel_rfl
    case hA => (intro p; simp only [putsD, Act.put, sIT, sCZ, sCS, gCZ, gCS]; exact rfl)
    case h0 => exact fun p => ⟨Nat.le_refl _, hB, q, r, g, st, o, c, al, fun h => absurd h (by decide)⟩
    case hmore => exact fun p L w1 w2 ⟨hsz, hB, q, r, g, st, o, c, al, h_hh⟩ hm => ⟨Nat.le_trans hsz hm.size, hB.trans (hm.mono (Nat.le_trans hW0 hsz)), q.below hm q.lt, r.below hm r.lt, g.below hm g.lt, st.below hm st.lt, o.below hm o.lt, c.below hm c.lt, al.below hm al.lt, fun hl => ⟨(h_hh hl).1, (h_hh hl).2.below hm (h_hh hl).2.lt⟩⟩
    case hs =>
      intro more
      iterate 3 (refine stepV _ rfl rfl (fun _ _ _ h => h) (by intros; go_simp; exact ⟨rfl, rfl⟩) ?_)
      refine stepV 3 rfl rfl (fun _ _ _ h => h) ?_ ?_
      · rintro p L w1 ⟨hsz, hB, q, r, g, st, o, c, al, h_hh⟩ hk
        have L6 : L 6 = false := hk.2.2 6 rfl
        have hc : w1.cell? ⟨lb, 0, none⟩ = some (.pointer (some ⟨ob, 0, none⟩)) := g.cellIs rfl
        go_simp
        exact ⟨rfl, rfl⟩
      refine stepD 4 rfl (fun p => rfl) (fun _ _ _ h => h) more ?_ ?_
      · rintro p L w1 ⟨hsz, hB, q, r, g, st, o, c, al, h_hh⟩ hk
        have L6 : L 6 = false := hk.2.2 6 rfl
        go_simp
        refine (SP.out _ o).mono ?_
        rintro e w2 ⟨rfl, h2⟩
        first | exact ⟨rfl, h2⟩ | (subst h2; exact ⟨rfl, Below.refl _ _⟩)
      refine AllI.cons ?_ ?_
      · refine stepI_alloc 5 rfl (fun p => rfl) rfl (qfn fun _ => 0) 22 (fun p => rfl) ?_ ?_
        · intro p w1
          go_simp
          first | rfl | rw [zero_spd]
        rintro p L w1 ⟨hsz, hB, q, r, g, st, o, c, al, h_hh⟩ hk
        have L6 : L 6 = false := hk.2.2 6 rfl
        refine ⟨Nat.le_trans hsz (by simp), hB.alloc (Nat.le_trans (by first | exact hW0 | (have := hB.size; simp at this ⊢; omega)) hsz) _, q.alloc _, r.alloc _, g.alloc _, st.alloc _, o.alloc _, c.alloc _, al.alloc _, fun _ => ⟨hsz, ?_⟩⟩
        rw [show upL L 5 6 = false from L6]
        exact blk.new _ _ _
      refine AllI.cons ?_ ?_
      · refine stepI_store 6 rfl (fun p => rfl) (fun p => rfl) _ _ _ rfl (fun p => p 5) 0 (fun p => rfl) (fun p => (qfn Xn.h)) (fun p => rfl) (fun p => (qfn fun _ => 0)) (fun p => (qfn Xn.h)) 22 (fun p => over_qq _ _) (fun p => by first | (rw [qfn_size, qfn_size]; decide) | simp [qfn_size, qfn_size]) (fun p => by rw [qfn_size]; kernel_rfl) (fun p => qfn_one _) ?_ ?_
        · rintro p L w1 ⟨hsz, hB, q, r, g, st, o, c, al, h_hh⟩ hk
          have L6 : L 6 = false := hk.1
          have hh := (h_hh (hk.2.1 5 rfl)).2
          rw [L6] at hh
          try simp only [cond_true, cond_false] at hh
          exact hh
        · rintro p L w1 ⟨hsz, hB, q, r, g, st, o, c, al, h_hh⟩ hk
          have L6 : L 6 = false := hk.1
          skip
          have hp := h_hh (hk.2.1 5 rfl)
          refine ⟨(by simpa using hsz), hB.row (by first | exact .inr (Nat.le_trans hW0 hp.1) | exact .inr ge_hh | exact .inl ⟨Nat.le_refl _, Nat.le_refl _⟩ | omega | (have := hB.size; simp at this ⊢; omega)) _, q.rowOther (by first | exact Nat.ne_of_lt (Nat.lt_of_lt_of_le lt_q hp.1) | omega) _, r.rowOther (by first | exact Nat.ne_of_lt (Nat.lt_of_lt_of_le lt_r hp.1) | omega) _, g.rowOther (by first | exact Nat.ne_of_lt (Nat.lt_of_lt_of_le lt_g hp.1) | omega) _, st.rowOther (by first | exact Nat.ne_of_lt (Nat.lt_of_lt_of_le lt_st hp.1) | omega) _, o.rowOther (.inr (Nat.lt_of_lt_of_le lt_o hp.1)) _, c.rowOther (by first | exact Nat.ne_of_lt (Nat.lt_of_lt_of_le lt_c hp.1) | omega) _, al.rowOther (by first | exact Nat.ne_of_lt (Nat.lt_of_lt_of_le lt_al hp.1) | omega) _, fun _ => ⟨hp.1, ?_⟩⟩
          rw [show upL L 6 6 = true from rfl]
          exact hp.2.row _
      exact AllI.nil
    case hV0 =>
      intro p q
      refine AllI.cons ?_ ?_
      · skip
        iterate 7 (refine AllI.cons (by first | exact .inl rfl | (refine .inr ?_; simp only [gCZ, gCS]; done) | exact .inr rfl) ?_)
        exact AllI.nil
      exact AllI.nil
    case he =>
    clear hB q r g st o c al
    rintro p w0rrrrrr ⟨hsz, hB, q, r, g, st, o, c, al, h_hh⟩
    obtain ⟨le_hh, hh⟩ := h_hh rfl
    clear h_hh
    replace hh : blk w0rrrrrr (p 5) (qfn Xn.h) 22 := hh
    have ne_q_hh : w.heap.size ≠ p 5 := Nat.ne_of_lt (Nat.lt_of_lt_of_le lt_q le_hh)
    have ne_r_hh : (w.heap.size + 1) ≠ p 5 := Nat.ne_of_lt (Nat.lt_of_lt_of_le lt_r le_hh)
    have ne_g_hh : lb ≠ p 5 := Nat.ne_of_lt (Nat.lt_of_lt_of_le lt_g le_hh)
    have ne_st_hh : sb ≠ p 5 := Nat.ne_of_lt (Nat.lt_of_lt_of_le lt_st le_hh)
    have ne_o_hh : ob ≠ p 5 := Nat.ne_of_lt (Nat.lt_of_lt_of_le lt_o le_hh)
    have ne_c_hh : c_b ≠ p 5 := Nat.ne_of_lt (Nat.lt_of_lt_of_le lt_c le_hh)
    have ne_al_hh : al_b ≠ p 5 := Nat.ne_of_lt (Nat.lt_of_lt_of_le lt_al le_hh)
    have ge_hh : w.heap.size ≤ p 5 := Nat.le_trans hW0 le_hh
    have out_hh : ob < p 5 := Nat.lt_of_lt_of_le lt_o le_hh
    generalize p 5 = hh_b at *
    clear lt_q lt_r lt_g lt_st lt_o lt_c lt_al hsz hW0 SP
    go_upto_region 13 with (fail)
    have lt_q := q.lt
    have lt_r := r.lt
    have lt_g := g.lt
    have lt_st := st.lt
    have lt_o := o.lt
    have lt_c := c.lt
    have lt_al := al.lt
    have lt_hh := hh.lt
    have hW0 : w.heap.size ≤ w0rrrrrr.heap.size := by simpa using hB.size
    apply wp_region_Q 24 [0, 1, 3, 7, 15, 31, 63, 127, 255, 511, 1023, 2047, 4095, 8191, 16383, 32767, 65535, 131071, 262143, 524287, 1048575, 2097151, 4194303, 8388607] [21] [_, _, _, _, _, _, _, _, _, _, _, _, _, _, _, _, _, _, _, _, _, (fun p => .pointer (some ⟨p 21, 0, none⟩)), (fun _ => undef), _] (fun p L w' => w0rrrrrr.heap.size ≤ w'.heap.size ∧ Save lo hi w w' ∧ blk w' w.heap.size (qfn tq) 23 ∧ blk w' (w.heap.size + 1) (vfn fun _ => 0) 31 ∧ blk w' lb (lpc (ob, sb, sun)) 93 ∧ blk w' sb (ssc Sn) 205 ∧ bod lo ob w' (Xn) ∧ blk w' c_b (qfn Cm) 22 ∧ blk w' al_b (vfn Qb) 31 ∧ blk w' hh_b (qfn Xn.h) 22 ∧ (L 21 = true → w0rrrrrr.heap.size ≤ p 21 ∧ blk w' (p 21) (bif L 22 then (vfn Ow) else (vfn fun _ => 0)) 31)) _ [(0, 83), (1, 84), (2, 85), (3, 86), (4, 87), (5, 88), (6, 89), (7, 90), (8, 91), (9, 92), (10, 93), (11, 94), (12, 95), (13, 96), (14, 97), (15, 98), (16, 99), (17, 100), (18, 82), (19, 101), (20, 102), (21, 16), (23, 17)] [0, 1, 2, 3, 4, 5, 6, 7, 8, 9, 10, 11, 12, 13, 14, 15, 16, 17, 18, 19, 20, 21, 22, 23]
    case hn => rfl
    case hB => kernel_rfl
    case hds => kernel_rfl
    case hA => (intro p; simp only [putsD, Act.put, sIT, sCZ, sCS, gCZ, gCS]; exact rfl)
    case h0 => exact fun p => ⟨Nat.le_refl _, hB, q, r, g, st, o, c, al, hh, fun h => absurd h (by decide)⟩
    case hmore => exact fun p L w1 w2 ⟨hsz, hB, q, r, g, st, o, c, al, hh, h_ow⟩ hm => ⟨Nat.le_trans hsz hm.size, hB.trans (hm.mono (Nat.le_trans hW0 hsz)), q.below hm q.lt, r.below hm r.lt, g.below hm g.lt, st.below hm st.lt, o.below hm o.lt, c.below hm c.lt, al.below hm al.lt, hh.below hm hh.lt, fun hl => ⟨(h_ow hl).1, (h_ow hl).2.below hm (h_ow hl).2.lt⟩⟩
    case hs =>
      intro more
      refine stepV 0 rfl rfl (fun _ _ _ h => h) ?_ ?_
      · rintro p L w1 ⟨hsz, hB, q, r, g, st, o, c, al, hh, h_ow⟩ hk
        have L22 : L 22 = false := hk.2.2 22 rfl
        first | exact valR_row _ _ rfl _ rfl _ _ al _ Try.underlying31 rfl (by first | kernel_rfl | (rw [vfn_size]; kernel_rfl)) rfl | (have hc := al.cellIs (vfn_get _ (show 0 < 3 by omega)); go_simp; exact ⟨rfl, rfl⟩)
      refine stepV _ rfl rfl (fun _ _ _ h => h) (by intros; go_simp; exact ⟨rfl, rfl⟩) ?_
      refine stepV 2 rfl rfl (fun _ _ _ h => h) ?_ ?_
      · rintro p L w1 ⟨hsz, hB, q, r, g, st, o, c, al, hh, h_ow⟩ hk
        have L22 : L 22 = false := hk.2.2 22 rfl
        have hc : w1.cell? ⟨hh_b, 0, none⟩ = some (.int .i64 (Xn.h 0)) := hh.cellIs (qfn_get _ (by omega))
        go_simp
        exact ⟨rfl, rfl⟩
      refine stepV _ rfl rfl (fun _ _ _ h => h) (by intros; go_simp; exact ⟨rfl, rfl⟩) ?_
      refine stepV 4 rfl rfl (fun _ _ _ h => h) ?_ ?_
      · rintro p L w1 ⟨hsz, hB, q, r, g, st, o, c, al, hh, h_ow⟩ hk
        have L22 : L 22 = false := hk.2.2 22 rfl
        have hc : w1.cell? ⟨hh_b, 3, none⟩ = some (.int .i64 (Xn.h 3)) := hh.cellIs (qfn_get _ (by omega))
        go_simp
        exact ⟨rfl, rfl⟩
      iterate 2 (refine stepV _ rfl rfl (fun _ _ _ h => h) (by intros; go_simp; exact ⟨rfl, rfl⟩) ?_)
      refine stepV 7 rfl rfl (fun _ _ _ h => h) ?_ ?_
      · rintro p L w1 ⟨hsz, hB, q, r, g, st, o, c, al, hh, h_ow⟩ hk
        have L22 : L 22 = false := hk.2.2 22 rfl
        have hc : w1.cell? ⟨hh_b, 1, none⟩ = some (.int .i64 (Xn.h 1)) := hh.cellIs (qfn_get _ (by omega))
        go_simp
        exact ⟨rfl, rfl⟩
      refine stepV _ rfl rfl (fun _ _ _ h => h) (by intros; go_simp; exact ⟨rfl, rfl⟩) ?_
      refine stepV 9 rfl rfl (fun _ _ _ h => h) ?_ ?_
      · rintro p L w1 ⟨hsz, hB, q, r, g, st, o, c, al, hh, h_ow⟩ hk
        have L22 : L 22 = false := hk.2.2 22 rfl
        have hc : w1.cell? ⟨hh_b, 3, none⟩ = some (.int .i64 (Xn.h 3)) := hh.cellIs (qfn_get _ (by omega))
        go_simp
        exact ⟨rfl, rfl⟩
      iterate 2 (refine stepV _ rfl rfl (fun _ _ _ h => h) (by intros; go_simp; exact ⟨rfl, rfl⟩) ?_)
      refine stepV 12 rfl rfl (fun _ _ _ h => h) ?_ ?_
      · rintro p L w1 ⟨hsz, hB, q, r, g, st, o, c, al, hh, h_ow⟩ hk
        have L22 : L 22 = false := hk.2.2 22 rfl
        have hc : w1.cell? ⟨hh_b, 2, none⟩ = some (.int .i64 (Xn.h 2)) := hh.cellIs (qfn_get _ (by omega))
        go_simp
        exact ⟨rfl, rfl⟩
      refine stepV _ rfl rfl (fun _ _ _ h => h) (by intros; go_simp; exact ⟨rfl, rfl⟩) ?_
      refine stepV 14 rfl rfl (fun _ _ _ h => h) ?_ ?_
      · rintro p L w1 ⟨hsz, hB, q, r, g, st, o, c, al, hh, h_ow⟩ hk
        have L22 : L 22 = false := hk.2.2 22 rfl
        have hc : w1.cell? ⟨hh_b, 3, none⟩ = some (.int .i64 (Xn.h 3)) := hh.cellIs (qfn_get _ (by omega))
        go_simp
        exact ⟨rfl, rfl⟩
      refine stepV _ rfl rfl (fun _ _ _ h => h) (by intros; go_simp; exact ⟨rfl, rfl⟩) ?_
      refine AllI.cons ?_ ?_
      · refine stepI_val 16 rfl (fun p => rfl) ?_ (fun _ _ _ h => h)
        intros; go_simp; exact ⟨congrArg Value.agg (vfn_of (sumW Xn.h)), rfl⟩
      refine stepD 17 rfl (fun p => rfl) (fun _ _ _ h => h) more ?_ ?_
      · rintro p L w1 ⟨hsz, hB, q, r, g, st, o, c, al, hh, h_ow⟩ hk
        go_simp
        refine (SU.out _).mono ?_
        rintro e w2 ⟨rfl, h2⟩
        first | exact ⟨rfl, h2⟩ | (subst h2; exact ⟨rfl, Below.refl _ _⟩)
      iterate 3 (refine stepV _ rfl rfl (fun _ _ _ h => h) (by intros; go_simp; exact ⟨rfl, rfl⟩) ?_)
      refine AllI.cons ?_ ?_
      · refine stepI_alloc 21 rfl (fun p => rfl) rfl (vfn fun _ => 0) 31 (fun p => rfl) ?_ ?_
        · intro p w1
          go_simp
          first | rfl | rw [zero_vec]
        rintro p L w1 ⟨hsz, hB, q, r, g, st, o, c, al, hh, h_ow⟩ hk
        have L22 : L 22 = false := hk.2.2 22 rfl
        refine ⟨Nat.le_trans hsz (by simp), hB.alloc (Nat.le_trans (by first | exact hW0 | (have := hB.size; simp at this ⊢; omega)) hsz) _, q.alloc _, r.alloc _, g.alloc _, st.alloc _, o.alloc _, c.alloc _, al.alloc _, hh.alloc _, fun _ => ⟨hsz, ?_⟩⟩
        rw [show upL L 21 22 = false from L22]
        exact blk.new _ _ _
      refine AllI.cons ?_ ?_
      · refine stepI_store 22 rfl (fun p => rfl) (fun p => rfl) _ _ _ rfl (fun p => p 21) 0 (fun p => rfl) (fun p => (vfn Ow)) (fun p => rfl) (fun p => (vfn fun _ => 0)) (fun p => (vfn Ow)) 31 (fun p => over_v _ _) (fun p => by first | (rw [vfn_size, vfn_size]; decide) | simp [vfn_size, vfn_size]) (fun p => by rw [vfn_size]; kernel_rfl) (fun p => vfn_one _) ?_ ?_
        · rintro p L w1 ⟨hsz, hB, q, r, g, st, o, c, al, hh, h_ow⟩ hk
          have L22 : L 22 = false := hk.1
          have hh := (h_ow (hk.2.1 21 rfl)).2
          rw [L22] at hh
          try simp only [cond_true, cond_false] at hh
          exact hh
        · rintro p L w1 ⟨hsz, hB, q, r, g, st, o, c, al, hh, h_ow⟩ hk
          have L22 : L 22 = false := hk.1
          skip
          have hp := h_ow (hk.2.1 21 rfl)
          refine ⟨(by simpa using hsz), hB.row (by first | exact .inr (Nat.le_trans hW0 hp.1) | exact .inr ge_ow | exact .inl ⟨Nat.le_refl _, Nat.le_refl _⟩ | omega | (have := hB.size; simp at this ⊢; omega)) _, q.rowOther (by first | exact Nat.ne_of_lt (Nat.lt_of_lt_of_le lt_q hp.1) | omega) _, r.rowOther (by first | exact Nat.ne_of_lt (Nat.lt_of_lt_of_le lt_r hp.1) | omega) _, g.rowOther (by first | exact Nat.ne_of_lt (Nat.lt_of_lt_of_le lt_g hp.1) | omega) _, st.rowOther (by first | exact Nat.ne_of_lt (Nat.lt_of_lt_of_le lt_st hp.1) | omega) _, o.rowOther (.inr (Nat.lt_of_lt_of_le lt_o hp.1)) _, c.rowOther (by first | exact Nat.ne_of_lt (Nat.lt_of_lt_of_le lt_c hp.1) | omega) _, al.rowOther (by first | exact Nat.ne_of_lt (Nat.lt_of_lt_of_le lt_al hp.1) | omega) _, hh.rowOther (by first | exact Nat.ne_of_lt (Nat.lt_of_lt_of_le lt_hh hp.1) | omega) _, fun _ => ⟨hp.1, ?_⟩⟩
          rw [show upL L 22 22 = true from rfl]
          exact hp.2.row _
      refine stepV _ rfl rfl (fun _ _ _ h => h) (by intros; go_simp; exact ⟨rfl, rfl⟩) ?_
      exact AllI.nil
    case hV0 =>
      intro p q
      refine AllI.cons ?_ ?_
      · skip
        iterate 24 (refine AllI.cons (by first | exact .inl rfl | (refine .inr ?_; simp only [gCZ, gCS]; done) | exact .inr rfl) ?_)
        exact AllI.nil
      exact AllI.nil
    case he =>
    clear hB q r g st o c al hh
    rintro p w0rrrrrrr ⟨hsz, hB, q, r, g, st, o, c, al, hh, h_ow⟩
    obtain ⟨le_ow, ow⟩ := h_ow rfl
    clear h_ow
    replace ow : blk w0rrrrrrr (p 21) (vfn Ow) 31 := ow
    have ne_q_ow : w.heap.size ≠ p 21 := Nat.ne_of_lt (Nat.lt_of_lt_of_le lt_q le_ow)
    have ne_r_ow : (w.heap.size + 1) ≠ p 21 := Nat.ne_of_lt (Nat.lt_of_lt_of_le lt_r le_ow)
    have ne_g_ow : lb ≠ p 21 := Nat.ne_of_lt (Nat.lt_of_lt_of_le lt_g le_ow)
    have ne_st_ow : sb ≠ p 21 := Nat.ne_of_lt (Nat.lt_of_lt_of_le lt_st le_ow)
    have ne_o_ow : ob ≠ p 21 := Nat.ne_of_lt (Nat.lt_of_lt_of_le lt_o le_ow)
    have ne_c_ow : c_b ≠ p 21 := Nat.ne_of_lt (Nat.lt_of_lt_of_le lt_c le_ow)
    have ne_al_ow : al_b ≠ p 21 := Nat.ne_of_lt (Nat.lt_of_lt_of_le lt_al le_ow)
    have ne_hh_ow : hh_b ≠ p 21 := Nat.ne_of_lt (Nat.lt_of_lt_of_le lt_hh le_ow)
    have ge_ow : w.heap.size ≤ p 21 := Nat.le_trans hW0 le_ow
    have out_ow : ob < p 21 := Nat.lt_of_lt_of_le lt_o le_ow
    generalize p 21 = ow_b at *
    clear lt_q lt_r lt_g lt_st lt_o lt_c lt_al lt_hh hsz hW0 SU f0 f1 f2
    go_upto_region 14 with (fail)
    have lt_q := q.lt
    have lt_r := r.lt
    have lt_g := g.lt
    have lt_st := st.lt
    have lt_o := o.lt
    have lt_c := c.lt
    have lt_al := al.lt
    have lt_hh := hh.lt
    have lt_ow := ow.lt
    have hW0 : w.heap.size ≤ w0rrrrrrr.heap.size := by simpa using hB.size
    apply wp_region_Q 17 [0, 1, 3, 7, 15, 31, 63, 127, 255, 511, 1023, 2047, 4095, 8191, 16383, 32767, 65535] [] [_, _, _, _, _, _, _, _, _, _, _, _, _, _, _, (fun _ => undef), _] (fun p L w' => w0rrrrrrr.heap.size ≤ w'.heap.size ∧ Save lo hi w w' ∧ blk w' w.heap.size (qfn tq) 23 ∧ blk w' (w.heap.size + 1) (bif L 15 then (vfn Ow) else (vfn fun _ => 0)) 31 ∧ blk w' lb (lpc (ob, sb, sun)) 93 ∧ blk w' sb (ssc Sn) 205 ∧ bod lo ob w' (Xn) ∧ blk w' c_b (qfn Cm) 22 ∧ blk w' al_b (vfn Qb) 31 ∧ blk w' hh_b (qfn Xn.h) 22 ∧ blk w' ow_b (vfn Ow) 31) _ [(0, 103), (1, 104), (2, 105), (3, 106), (4, 107), (5, 108), (6, 109), (7, 110), (8, 111), (9, 112), (10, 113), (11, 114), (12, 115), (13, 116), (14, 117), (16, 7)] [0, 1, 2, 3, 4, 5, 6, 7, 8, 9, 10, 11, 12, 13, 14, 15, 16]
    case hn => rfl
    case hB => kernel_rfl
    case hds => kernel_rfl
    case hA => (intro p; simp only [putsD, Act.put, sIT, sCZ, sCS, gCZ, gCS]; exact rfl)
    case h0 => exact fun p => ⟨Nat.le_refl _, hB, q, r, g, st, o, c, al, hh, ow⟩
    case hmore => exact fun p L w1 w2 ⟨hsz, hB, q, r, g, st, o, c, al, hh, ow⟩ hm => ⟨Nat.le_trans hsz hm.size, hB.trans (hm.mono (Nat.le_trans hW0 hsz)), q.below hm q.lt, r.below hm r.lt, g.below hm g.lt, st.below hm st.lt, o.below hm o.lt, c.below hm c.lt, al.below hm al.lt, hh.below hm hh.lt, ow.below hm ow.lt⟩
    case hs =>
      intro more
      refine stepV 0 rfl rfl (fun _ _ _ h => h) ?_ ?_
      · rintro p L w1 ⟨hsz, hB, q, r, g, st, o, c, al, hh, ow⟩ hk
        have L15 : L 15 = false := hk.2.2 15 rfl
        first | exact valR_row _ _ rfl _ rfl _ _ ow _ Try.underlying31 rfl (by first | kernel_rfl | (rw [vfn_size]; kernel_rfl)) rfl | (have hc := ow.cellIs (vfn_get _ (show 0 < 3 by omega)); go_simp; exact ⟨rfl, rfl⟩)
      iterate 3 (refine stepV _ rfl rfl (fun _ _ _ h => h) (by intros; go_simp; exact ⟨rfl, rfl⟩) ?_)
      iterate 2 (refine stepVg _ rfl (fun p => (by first | rfl | (simp [Region.wanted, yielded]; done))) (fun _ _ _ h => h) (by intros; go_simp; exact ⟨rfl, rfl⟩) ?_)
      iterate 2 (refine stepV _ rfl rfl (fun _ _ _ h => h) (by intros; go_simp; exact ⟨rfl, rfl⟩) ?_)
      iterate 2 (refine stepVg _ rfl (fun p => (by first | rfl | (simp [Region.wanted, yielded]; done))) (fun _ _ _ h => h) (by intros; go_simp; exact ⟨rfl, rfl⟩) ?_)
      iterate 2 (refine stepV _ rfl rfl (fun _ _ _ h => h) (by intros; go_simp; exact ⟨rfl, rfl⟩) ?_)
      iterate 2 (refine stepVg _ rfl (fun p => (by first | rfl | (simp [Region.wanted, yielded]; done))) (fun _ _ _ h => h) (by intros; go_simp; exact ⟨rfl, rfl⟩) ?_)
      refine stepV _ rfl rfl (fun _ _ _ h => h) (by intros; go_simp; exact ⟨rfl, rfl⟩) ?_
      refine AllI.cons ?_ ?_
      · refine stepI_store 15 rfl (fun p => rfl) (fun p => rfl) _ _ _ rfl (fun _ => (w.heap.size + 1)) 0 (fun p => rfl) (fun p => (vfn Ow)) (fun p => rfl) (fun p => (vfn fun _ => 0)) (fun p => (vfn Ow)) 31 (fun p => over_v _ _) (fun p => by first | (rw [vfn_size, vfn_size]; decide) | simp [vfn_size, vfn_size]) (fun p => by rw [vfn_size]; kernel_rfl) (fun p => vfn_one _) ?_ ?_
        · rintro p L w1 ⟨hsz, hB, q, r, g, st, o, c, al, hh, ow⟩ hk
          have L15 : L 15 = false := hk.1
          rw [L15] at r
          try simp only [cond_true, cond_false] at r
          exact r
        · rintro p L w1 ⟨hsz, hB, q, r, g, st, o, c, al, hh, ow⟩ hk
          have L15 : L 15 = false := hk.1
          skip
          refine ⟨(by simpa using hsz), hB.row (by first | exact .inr (Nat.le_trans hW0 hp.1) | exact .inr ge_r | exact .inl ⟨Nat.le_refl _, Nat.le_refl _⟩ | omega | (have := hB.size; simp at this ⊢; omega)) _, q.rowOther (by first | exact ne_q_r | exact Ne.symm ne_r_q | omega) _, ?_, g.rowOther (Ne.symm ne_r_g) _, st.rowOther (Ne.symm ne_r_st) _, o.rowOther (by first | exact .inr out_r | exact .inl out_r | omega) _, c.rowOther (Ne.symm ne_r_c) _, al.rowOther (Ne.symm ne_r_al) _, hh.rowOther (Ne.symm ne_r_hh) _, ow.rowOther (Ne.symm ne_r_ow) _⟩
          rw [show upL L 15 15 = true from rfl]
          exact r.row _
      refine stepV _ rfl rfl (fun _ _ _ h => h) (by intros; go_simp; exact ⟨rfl, rfl⟩) ?_
      exact AllI.nil
    case hV0 => exact fun p q => AllI.nil
    case he =>
    clear hB q r g st o c al hh ow
    rintro p w0rrrrrrrr ⟨hsz, hB, q, r, g, st, o, c, al, hh, ow⟩
    replace r : blk w0rrrrrrrr (w.heap.size + 1) (vfn Ow) 31 := r
    clear lt_q lt_r lt_g lt_st lt_o lt_c lt_al lt_hh lt_ow hsz hW0
    go_wp2_with (fail)
    refine bodyPost_ret (results_vec rfl _ _ _ _ _ _ _ rfl r Try.underlying31 rfl (by first | kernel_rfl | (rw [vfn_size]; kernel_rfl))) rfl ?_
    exact ⟨rfl, ⟨ob, sb, l1, l2, l3, l4, l5, Nat.lt_of_lt_of_le l6 hB.size, o, st, g⟩, hB⟩
end Go.Proofs.Ytkmelddejdikgaa
