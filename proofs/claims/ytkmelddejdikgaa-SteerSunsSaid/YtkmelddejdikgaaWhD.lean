/-
  Wheels: Command, Allocate.
-/
import Derived.Test.YtkmelddejdikgaaWhB
set_option linter.unusedSimpArgs false
set_option linter.unusedVariables false
namespace Go.Proofs.Ytkmelddejdikgaa
open Go.RowKit PM Dt
def mn (x y : Int) : Int := if y < x then y else x
theorem run_min {P : Program} (w : World) (ats : Array TypeId) (ty : TypeId) : ∀ (xs : List Int) (x : Int), (Builtin.min_ ats ty (((x :: xs).map (Value.int .i64)).toArray)).run P w = .ok (.int .i64 (xs.foldl mn x)) w := by
  have key : ∀ (xs : List Int) (x : Int), ((xs.map (Value.int .i64)).foldlM Builtin.min2 (Value.int .i64 x)).run P w = .ok (.int .i64 (xs.foldl mn x)) w := by
    intro xs
    induction xs with
    | nil => intro x; rfl
    | cons y ys ih =>
      intro x
      rw [List.map_cons, List.foldlM_cons, Sem.run_bind]
      have : (Builtin.min2 (Value.int .i64 x) (Value.int .i64 y)).run P w = .ok (.int .i64 (mn x y)) w := rfl
      rw [this, Result.andThen_ok, ih]
      rfl
  intro xs x
  exact key xs x
theorem wpList_min {P : Program} {ops : Array Oper} {rest : List Oper} {o : Oper} {a : Act} {w : World} {Q : Exit → Act → World → Prop} (hg : o.guard = none) {args : Array Operand} {ats : Array TypeId}
    (ho : o.op = Op.call { callee := Callee.builtin Builtin.min, args := args, argTypes := ats }) (xs : List Int) (x M : Int) (hM : xs.foldl mn x = M) (hargs0 : args.toList.map a.eval = (x :: xs).map (Value.int .i64))
    (h : wpList P ops Q rest (a.put o.dst (.int .i64 M)) w) : wpList P ops Q (o :: rest) a w := by
  refine wpList_pure (.int .i64 M) hg ?_ h
  have hargs : args.map a.eval = ((x :: xs).map (Value.int .i64)).toArray := by
    rw [← hargs0]; apply Array.ext'; simp
  have hr := run_min (P := P) w ats o.type xs x
  rw [hM, ← hargs] at hr
  simp [execOp, ho, resolve, invoke, builtin, hr, Result.andThen, DetR]
def cmdX (h t : Int) : Int := clampV t (-16777216) 16777216 - h + frW h
def cmdF (h : Nat → Int) (f : Int) (t : Nat → Int) : Nat → Int := fun i => if (i : Int) = f then 0 else cmdX (h i) (t i)
def spanZ (d : Nat → Int) : Int := ([d 1, d 2, 0].foldl mx (d 0) + [d 1, d 2, 0].foldl mn (d 0)) / 2
def allocZ (d : Nat → Int) (f : Int) : Int := if f = -1 then spanZ d else if f = 3 then 0 else d f.toNat
def allocF (d : Nat → Int) (f : Int) : Nat → Int
  | 0 => d 0 - allocZ d f
  | 1 => d 1 - allocZ d f
  | 2 => d 2 - allocZ d f
  | _ => allocZ d f
theorem mx3_bd {d : Nat → Int} {m : Int} (hm : 0 ≤ m) (h : ∀ i, i < 3 → -m ≤ d i ∧ d i ≤ m) : 0 ≤ [d 1, d 2, 0].foldl mx (d 0) ∧ [d 1, d 2, 0].foldl mx (d 0) ≤ m ∧ -m ≤ [d 1, d 2, 0].foldl mn (d 0) ∧ [d 1, d 2, 0].foldl mn (d 0) ≤ 0 ∧ ∀ i, i < 3 → d i ≤ [d 1, d 2, 0].foldl mx (d 0) ∧ [d 1, d 2, 0].foldl mn (d 0) ≤ d i := by
  have h0 := h 0 (by omega); have h1 := h 1 (by omega); have h2 := h 2 (by omega)
  simp only [List.foldl_cons, List.foldl_nil]
  refine ⟨?_, ?_, ?_, ?_, fun i hi => ?_⟩
  · unfold mx; split <;> (try split) <;> (try split) <;> omega
  · unfold mx; split <;> (try split) <;> (try split) <;> omega
  · unfold mn; split <;> (try split) <;> (try split) <;> omega
  · unfold mn; split <;> (try split) <;> (try split) <;> omega
  · rcases (show i = 0 ∨ i = 1 ∨ i = 2 by omega) with rfl | rfl | rfl <;> constructor <;> (first | unfold mx | unfold mn) <;> split <;> (try split) <;> (try split) <;> omega
theorem okV_bd {d : Nat → Int} (h : okV d = true) : ∀ i, i < 3 → -1099511627776 ≤ d i ∧ d i ≤ 1099511627776 := fun i hi => (vb_iff _).1 ((okV_iff _).1 h i hi)
theorem alloc_of {F : Nat → Int} {z : Int} (h3 : z = F 3) : #[Value.int .i64 (F 0), .int .i64 (F 1), .int .i64 (F 2), .int .i64 z] = qfn F := by
  subst h3
  unfold qfn; rfl
theorem spanZ_bd {d : Nat → Int} (h : okV d = true) : -1099511627776 ≤ spanZ d ∧ spanZ d ≤ 1099511627776 := by
  have := mx3_bd (m := 1099511627776) (by decide) (okV_bd h)
  unfold spanZ; omega
set_option maxRecDepth 100000 in
set_option maxHeartbeats 6000000 in
theorem scmd_any (h : Nat → Int) (f : Int) (b : Nat) (t : Nat → Int) (w : World) (hg : blk w b (setc (h, f)) 230) (hI : SI h f) : Calls Try.prog 182 #[.pointer (some ⟨b, 0, none⟩), .agg (qfn t)] w fun e w' => e = .returned (.agg (qfn (cmdF h f t))) ∧ Below w.heap.size w w' := by
  have NN := Lib.hid (fun w' (hb : Below w.heap.size w w') => snone_any h f b w' (hg.below hb hg.lt))
  have HI := Lib.hid hI.b
  clear hI
  go_enter Try.func182, Try.ntmps182
  go_upto_region 1 with (fail)
  simp only [zero_spd]
  have v : blk ((w.alloc (.cells (qfn t) 22)).alloc (.cells (qfn fun _ => 0) 22)) w.heap.size (qfn t) 22 := (blk.new _ _ _).alloc _
  have r : blk ((w.alloc (.cells (qfn t) 22)).alloc (.cells (qfn fun _ => 0) 22)) (w.heap.size + 1) (qfn fun _ => 0) 22 := blk.new' (by simp)
  have hB : Below w.heap.size w ((w.alloc (.cells (qfn t) 22)).alloc (.cells (qfn fun _ => 0) 22)) := by go_grown
  generalize ((w.alloc (.cells (qfn t) 22)).alloc (.cells (qfn fun _ => 0) 22)) = w0 at *
  have g : blk w0 b (setc (h, f)) 230 := hg.below hB hg.lt
  have gl := hg.lt
  clear hg
  have ne_v_g : w.heap.size ≠ b := by omega
  have ne_r_g : (w.heap.size + 1) ≠ b := by omega
  have lt_v := v.lt
  have lt_r := r.lt
  have lt_g := g.lt
  have hW0 : w.heap.size ≤ w0.heap.size := by simpa using hB.size
  apply wp_region_Q 1 [0] [0] [(fun p => .pointer (some ⟨p 0, 0, none⟩))] (fun p L w' => w0.heap.size ≤ w'.heap.size ∧ Below w.heap.size w w' ∧ blk w' w.heap.size (qfn t) 22 ∧ blk w' (w.heap.size + 1) (qfn fun _ => 0) 22 ∧ blk w' b (setc (h, f)) 230 ∧ (L 0 = true → w0.heap.size ≤ p 0 ∧ blk w' (p 0) (qfn fun _ => 0) 22)) _ [(0, 5)] [0]
  case hn => rfl
  case hB => kernel_rfl
  case hds => kernel_rfl
  case hA => (intro p; simp only [putsD, Act.put, sIT, sCZ, sCS, gCZ, gCS]; exact rfl)
  case h0 => exact fun p => ⟨Nat.le_refl _, hB, v, r, g, fun h => absurd h (by decide)⟩
  case hmore => exact fun p L w1 w2 ⟨hsz, hB, v, r, g, h_x⟩ hm => ⟨Nat.le_trans hsz hm.size, hB.trans (hm.mono (Nat.le_trans hW0 hsz)), v.below hm v.lt, r.below hm r.lt, g.below hm g.lt, fun hl => ⟨(h_x hl).1, (h_x hl).2.below hm (h_x hl).2.lt⟩⟩
  case hs =>
    intro more
    refine AllI.cons ?_ ?_
    · refine stepI_alloc 0 rfl (fun p => rfl) rfl (qfn fun _ => 0) 22 (fun p => rfl) ?_ ?_
      · intro p w1
        go_simp
        first | rfl | rw [zero_spd]
      rintro p L w1 ⟨hsz, hB, v, r, g, h_x⟩ hk
      refine ⟨Nat.le_trans hsz (by simp), hB.alloc (Nat.le_trans (by first | exact hW0 | (have := hB.size; simp at this ⊢; omega)) hsz) _, v.alloc _, r.alloc _, g.alloc _, fun _ => ⟨hsz, ?_⟩⟩
      exact blk.new _ _ _
    exact AllI.nil
  case hV0 =>
    intro p q
    refine AllI.cons ?_ ?_
    · skip
      iterate 1 (refine AllI.cons (by first | exact .inl rfl | (refine .inr ?_; simp only [gCZ, gCS]; done) | exact .inr rfl) ?_)
      exact AllI.nil
    exact AllI.nil
  case he =>
  clear hB v r g
  rintro p w0r ⟨hsz, hB, v, r, g, h_x⟩
  obtain ⟨le_x, x⟩ := h_x rfl
  clear h_x
  replace x : blk w0r (p 0) (qfn fun _ => 0) 22 := x
  have ne_v_x : w.heap.size ≠ p 0 := Nat.ne_of_lt (Nat.lt_of_lt_of_le lt_v le_x)
  have ne_r_x : (w.heap.size + 1) ≠ p 0 := Nat.ne_of_lt (Nat.lt_of_lt_of_le lt_r le_x)
  have ne_g_x : b ≠ p 0 := Nat.ne_of_lt (Nat.lt_of_lt_of_le lt_g le_x)
  have ge_x : w.heap.size ≤ p 0 := Nat.le_trans hW0 le_x
  generalize p 0 = x_b at *
  clear lt_v lt_r lt_g hsz hW0
  go_upto_region 4 with (first
    | (go_at_call 187; with_reducible refine (NN.out _ hB).mono ?_; rintro e w9 ⟨rfl, rfl⟩))
  have lt_v := v.lt
  have lt_r := r.lt
  have lt_g := g.lt
  have lt_x := x.lt
  have hW0 : w.heap.size ≤ w0r.heap.size := by simpa using hB.size
  apply wp_region_Q 6 [0, 1, 3, 7, 15, 31] [] [_, _, _, _, _, _] (fun p L w' => w0r.heap.size ≤ w'.heap.size ∧ Below w.heap.size w w' ∧ blk w' w.heap.size (qfn t) 22 ∧ blk w' (w.heap.size + 1) (qfn fun _ => 0) 22 ∧ blk w' b (setc (h, f)) 230 ∧ blk w' x_b (qfn fun _ => 0) 22) _ [(0, 11), (1, 12), (2, 13), (3, 14), (4, 15), (5, 16)] [0, 1, 2, 3, 4, 5]
  case hn => rfl
  case hB => kernel_rfl
  case hds => kernel_rfl
  case hA => (intro p; simp only [putsD, Act.put, sIT, sCZ, sCS, gCZ, gCS]; exact rfl)
  case h0 => exact fun p => ⟨Nat.le_refl _, hB, v, r, g, x⟩
  case hmore => exact fun p L w1 w2 ⟨hsz, hB, v, r, g, x⟩ hm => ⟨Nat.le_trans hsz hm.size, hB.trans (hm.mono (Nat.le_trans hW0 hsz)), v.below hm v.lt, r.below hm r.lt, g.below hm g.lt, x.below hm x.lt⟩
  case hs =>
    intro more
    refine stepV 0 rfl rfl (fun _ _ _ h => h) ?_ ?_
    · intros; go_simp; exact ⟨rfl, rfl⟩
    refine stepV 1 rfl rfl (fun _ _ _ h => h) ?_ ?_
    · intros; go_simp; exact ⟨rfl, rfl⟩
    refine stepV 2 rfl rfl (fun _ _ _ h => h) ?_ ?_
    · intros; go_simp; exact ⟨rfl, rfl⟩
    refine stepV 3 rfl rfl (fun _ _ _ h => h) ?_ ?_
    · intros; go_simp; exact ⟨rfl, rfl⟩
    refine stepV 4 rfl rfl (fun _ _ _ h => h) ?_ ?_
    · rintro p L w1 ⟨hsz, hB, v, r, g, x⟩ hk
      exact valR_part _ _ rfl _ 0 rfl _ _ g (qfn h) (set_h h f) _ Try.underlying22 rfl (by rw [qfn_size]; kernel_rfl) rfl
    refine stepV 5 rfl rfl (fun _ _ _ h => h) ?_ ?_
    · intros; go_simp; exact ⟨rfl, rfl⟩
    exact AllI.nil
  case hV0 => exact fun p q => AllI.nil
  case he =>
  clear hB v r g x
  rintro p w0rr ⟨hsz, hB, v, r, g, x⟩
  clear lt_v lt_r lt_g lt_x hsz hW0
  rw [show qfn (fun _ => 0) = qfn (preH (cmdF h f t) (fun _ => 0) 0) from by rw [preH_zero]] at x
  clear NN
  go_wp2_with (fail)
  go_loopg [16] 4 (fun g_ iv wr => ∃ k : Nat, g_ + k = 4 ∧ iv = .int .i64 k ∧ blk wr w.heap.size (qfn t) 22 ∧ blk wr (w.heap.size + 1) (qfn fun _ => 0) 22 ∧ blk wr b (setc (h, f)) 230 ∧ blk wr x_b (qfn (preH (cmdF h f t) (fun _ => 0) k)) 22 ∧ Below w.heap.size w wr)
  case atStart => exact ⟨0, rfl, rfl, v, r, g, x, hB⟩
  case round =>
    clear v r g x hB
    obtain ⟨k, hk, rfl, v, r, g, x, hB⟩ := hrel
    by_cases hkn : k < 4
    · have hdk : decide ((k : Int) < 4) = true := decide_eq_true (by omega)
      have hdk' : decide (k < 4) = true := decide_eq_true (by omega)
      have hk3 : (k : Int) < 4 := by omega
      have hw3 : IntKind.i64.wrap ((k : Int) + 1) = ((k + 1 : Nat) : Int) := by rw [IntKind.wrap_i64]; omega
      have hix : Hid (∀ w, (Instr.index 22 (.agg (qfn h)) (.int .i64 k)).run Try.prog w = .ok (.int .i64 (h k)) w) := fun w => widx h hkn w
      have H := HI.out k hkn
      by_cases hf : (k : Int) = f
      · have d6 : ((k : Int) != f) = false := by simp [hf]
        have ev : cmdF h f t k = (fun _ => (0 : Int)) k := by unfold cmdF; rw [if_pos hf]
        have hc4 : wr.cell? ⟨b, 4, none⟩ = some (.int .i64 f) := g.cellIs rfl
        clear H hf
        go_wp2_with ((refine wpList_index ?hw _ _ _ rfl _ rfl k _ rfl rfl _ hix.out ?_; (case hw => (first | rfl | (simp [Region.wanted, yielded]; done)))))
        go_roundg (4 - (k + 1))
        case rel =>
          exact ⟨k + 1, by omega, rfl, v, r, g, by rw [preH_same ev]; exact x, hB⟩
        case measure => omega
      · have d6 : ((k : Int) != f) = true := by simp [hf]
        have hc4 : wr.cell? ⟨b, 4, none⟩ = some (.int .i64 f) := g.cellIs rfl
        have H1 := clampW_bd (t k)
        have H2 := frW_bd H
        have CL := Lib.hid (fun w => clamp_any (t k) (-16777216) 16777216 w)
        have FR := Lib.hid (fun w => fric_any (h k) w H)
        have e1 : IntKind.i64.wrap (clampV (t k) (-16777216) 16777216 - h k) = clampV (t k) (-16777216) 16777216 - h k := by rw [IntKind.wrap_i64]; omega
        have e2 : IntKind.i64.wrap (clampV (t k) (-16777216) 16777216 - h k + frW (h k)) = cmdX (h k) (t k) := by rw [IntKind.wrap_i64]; unfold cmdX; omega
        have ev : cmdX (h k) (t k) = cmdF h f t k := by unfold cmdF; rw [if_neg hf]
        clear H H1 H2 hf
        go_upto_region 8 with (first
          | (refine wpList_index ?hw _ _ _ rfl _ rfl k _ rfl rfl _ hix.out ?_; (case hw => (first | rfl | (simp [Region.wanted, yielded]; done)))))
        clear hix hc4
        have lt_v := v.lt
        have lt_r := r.lt
        have lt_g := g.lt
        have lt_x := x.lt
        have hW0 : w.heap.size ≤ wr.heap.size := by simpa using hB.size
        apply wp_region_Q 12 [0, 1, 3, 7, 15, 31, 63, 127, 255, 511, 1023, 2047] [] [_, _, _, _, _, _, _, _, _, _, _, (fun _ => undef)] (fun p L w' => wr.heap.size ≤ w'.heap.size ∧ Below w.heap.size w w' ∧ blk w' w.heap.size (qfn t) 22 ∧ blk w' (w.heap.size + 1) (qfn fun _ => 0) 22 ∧ blk w' b (setc (h, f)) 230 ∧ blk w' x_b (bif L 11 then (qfn (preH (cmdF h f t) (fun _ => 0) (k + 1))) else (qfn (preH (cmdF h f t) (fun _ => 0) k))) 22) _ [(0, 27), (1, 28), (2, 29), (3, 30), (4, 31), (5, 32), (6, 33), (7, 34), (8, 35), (9, 36), (10, 37)] [0, 1, 2, 3, 4, 5, 6, 7, 8, 9, 10, 11]
        case hn => rfl
        case hB => kernel_rfl
        case hds => kernel_rfl
        case hA => (intro p; simp only [putsD, Act.put, sIT, sCZ, sCS, gCZ, gCS]; exact rfl)
        case h0 => exact fun p => ⟨Nat.le_refl _, hB, v, r, g, x⟩
        case hmore => exact fun p L w1 w2 ⟨hsz, hB, v, r, g, x⟩ hm => ⟨Nat.le_trans hsz hm.size, hB.trans (hm.mono (Nat.le_trans hW0 hsz)), v.below hm v.lt, r.below hm r.lt, g.below hm g.lt, x.below hm x.lt⟩
        case hs =>
          intro more
          refine stepV 0 rfl rfl (fun _ _ _ h => h) ?_ ?_
          · intros; go_simp; exact ⟨rfl, rfl⟩
          refine stepV 1 rfl rfl (fun _ _ _ h => h) ?_ ?_
          · intros; go_simp; exact ⟨rfl, rfl⟩
          refine stepV 2 rfl rfl (fun _ _ _ h => h) ?_ ?_
          · intros; go_simp; exact ⟨rfl, rfl⟩
          refine stepV 3 rfl rfl (fun _ _ _ h => h) ?_ ?_
          · rintro p L w1 ⟨hsz, hB, v, r, g, x⟩ hk
            have L11 : L 11 = false := hk.2.2 11 rfl
            have hc : w1.cell? ⟨w.heap.size, k, none⟩ = some (.int .i64 (t k)) := v.cellIs (qfn_get _ hkn)
            go_simp
            exact ⟨rfl, rfl⟩
          refine stepD 4 rfl (fun p => rfl) (fun _ _ _ h => h) more ?_ ?_
          · rintro p L w1 ⟨hsz, hB, v, r, g, x⟩ hk
            go_simp
            refine (CL.out _).mono ?_
            rintro e w2 ⟨rfl, h2⟩
            first | exact ⟨rfl, h2⟩ | (subst h2; exact ⟨rfl, Below.refl _ _⟩)
          refine stepV 5 rfl rfl (fun _ _ _ h => h) ?_ ?_
          · intros; go_simp; exact ⟨rfl, rfl⟩
          refine stepV 6 rfl rfl (fun _ _ _ h => h) ?_ ?_
          · intros; go_simp; exact ⟨rfl, rfl⟩
          refine stepV 7 rfl rfl (fun _ _ _ h => h) ?_ ?_
          · intros; go_simp; exact ⟨rfl, rfl⟩
          refine stepD 8 rfl (fun p => rfl) (fun _ _ _ h => h) more ?_ ?_
          · rintro p L w1 ⟨hsz, hB, v, r, g, x⟩ hk
            go_simp
            refine (FR.out _).mono ?_
            rintro e w2 ⟨rfl, h2⟩
            first | exact ⟨rfl, h2⟩ | (subst h2; exact ⟨rfl, Below.refl _ _⟩)
          refine stepV 9 rfl rfl (fun _ _ _ h => h) ?_ ?_
          · intros; go_simp; exact ⟨rfl, rfl⟩
          refine stepV 10 rfl rfl (fun _ _ _ h => h) ?_ ?_
          · intros; go_simp; exact ⟨rfl, rfl⟩
          refine AllI.cons ?_ ?_
          · refine stepI_cell 11 rfl (fun p => rfl) (fun p => rfl) (fun _ => x_b) (k) (fun p => .int .i64 (cmdX (h k) (t k))) (fun p => (qfn (preH (cmdF h f t) (fun _ => 0) k))) (fun p => (qfn (preH (cmdF h f t) (fun _ => 0) (k + 1)))) 22 (fun p => q_pre hkn _ ev) ?_ ?_ ?_
            · rintro p L w1 ⟨hsz, hB, v, r, g, x⟩ hk
              have L11 : L 11 = false := hk.1
              rw [L11] at x
              try simp only [cond_true, cond_false] at x
              exact x
            · intro p w1 hb
              have fz : w1.frozen? ⟨x_b, k, none⟩ = false := hb.free _
              have cz : ∃ u, w1.cell? ⟨x_b, k, none⟩ = some u := ⟨_, hb.cellIs (qfn_get _ hkn)⟩
              obtain ⟨u, cz⟩ := cz
              go_simp
              try exact ⟨_, rfl, by first | exact .inl rfl | exact .inr rfl⟩
            · rintro p L w1 ⟨hsz, hB, v, r, g, x⟩ hk
              have L11 : L 11 = false := hk.1
              refine ⟨(by simpa using hsz), Below.setRow hB (by first | exact Nat.le_trans hW0 hp.1 | exact ge_x | omega | (have := hB.size; simp at this ⊢; omega)) _, v.rowOther ne_v_x _, r.rowOther ne_r_x _, g.rowOther ne_g_x _, ?_⟩
              rw [show upL L 11 11 = true from rfl]
              exact x.row _
          exact AllI.nil
        case hV0 => exact fun p q => AllI.nil
        case he =>
        clear hB v r g x
        rintro p wrr ⟨hsz, hB, v, r, g, x⟩
        replace x : blk wrr x_b (qfn (preH (cmdF h f t) (fun _ => 0) (k + 1))) 22 := x
        clear lt_v lt_r lt_g lt_x hsz hW0
        go_wp2_with (fail)
        go_roundg (4 - (k + 1))
        case rel =>
          exact ⟨k + 1, by omega, rfl, v, r, g, x, hB⟩
        case measure => omega
    · obtain rfl : k = 4 := by omega
      rw [q_pre4] at x
      go_upto_region 10 with (fail)
      have lt_v := v.lt
      have lt_r := r.lt
      have lt_g := g.lt
      have lt_x := x.lt
      have hW0 : w.heap.size ≤ wr.heap.size := by simpa using hB.size
      apply wp_region_Q 2 [0, 1] [] [_, (fun _ => undef)] (fun p L w' => wr.heap.size ≤ w'.heap.size ∧ Below w.heap.size w w' ∧ blk w' w.heap.size (qfn t) 22 ∧ blk w' (w.heap.size + 1) (bif L 1 then (qfn (cmdF h f t)) else (qfn fun _ => 0)) 22 ∧ blk w' b (setc (h, f)) 230 ∧ blk w' x_b (qfn (cmdF h f t)) 22) _ [(0, 39)] [0, 1]
      case hn => rfl
      case hB => kernel_rfl
      case hds => kernel_rfl
      case hA => (intro p; simp only [putsD, Act.put, sIT, sCZ, sCS, gCZ, gCS]; exact rfl)
      case h0 => exact fun p => ⟨Nat.le_refl _, hB, v, r, g, x⟩
      case hmore => exact fun p L w1 w2 ⟨hsz, hB, v, r, g, x⟩ hm => ⟨Nat.le_trans hsz hm.size, hB.trans (hm.mono (Nat.le_trans hW0 hsz)), v.below hm v.lt, r.below hm r.lt, g.below hm g.lt, x.below hm x.lt⟩
      case hs =>
        intro more
        refine stepV 0 rfl rfl (fun _ _ _ h => h) ?_ ?_
        · rintro p L w1 ⟨hsz, hB, v, r, g, x⟩ hk
          have L1 : L 1 = false := hk.2.2 1 rfl
          first | exact valR_row _ _ rfl _ rfl _ _ x _ Try.underlying22 rfl (by first | kernel_rfl | (rw [qfn_size]; kernel_rfl)) rfl | (have hc := x.cellIs (qfn_get _ (show 0 < 4 by omega)); go_simp; exact ⟨rfl, rfl⟩)
        refine AllI.cons ?_ ?_
        · refine stepI_store 1 rfl (fun p => rfl) (fun p => rfl) _ _ _ rfl (fun _ => (w.heap.size + 1)) 0 (fun p => rfl) (fun p => (qfn (cmdF h f t))) (fun p => rfl) (fun p => (qfn fun _ => 0)) (fun p => (qfn (cmdF h f t))) 22 (fun p => over_qq _ _) (fun p => by first | (rw [qfn_size, qfn_size]; decide) | simp [qfn_size, qfn_size]) (fun p => by rw [qfn_size]; kernel_rfl) (fun p => qfn_one _) ?_ ?_
          · rintro p L w1 ⟨hsz, hB, v, r, g, x⟩ hk
            have L1 : L 1 = false := hk.1
            rw [L1] at r
            try simp only [cond_true, cond_false] at r
            exact r
          · rintro p L w1 ⟨hsz, hB, v, r, g, x⟩ hk
            have L1 : L 1 = false := hk.1
            skip
            refine ⟨(by simpa using hsz), Below.setRow hB (by first | exact Nat.le_trans hW0 hp.1 | exact ge_r | omega | (have := hB.size; simp at this ⊢; omega)) _, v.rowOther (by first | exact ne_v_r | exact Ne.symm ne_r_v | omega) _, ?_, g.rowOther (Ne.symm ne_r_g) _, x.rowOther (Ne.symm ne_r_x) _⟩
            rw [show upL L 1 1 = true from rfl]
            exact r.row _
        exact AllI.nil
      case hV0 => exact fun p q => AllI.nil
      case he =>
      clear hB v r g x
      rintro p wrr ⟨hsz, hB, v, r, g, x⟩
      replace r : blk wrr (w.heap.size + 1) (qfn (cmdF h f t)) 22 := r
      clear lt_v lt_r lt_g lt_x hsz hW0
      go_wp2_with (fail)
      refine bodyPost_ret (results_cell_row rfl _ _ _ _ _ _ _ rfl r Try.underlying22 rfl (by first | kernel_rfl | (rw [qfn_size]; kernel_rfl))) rfl ?_
      refine ⟨?_, hB⟩
      rfl
set_option maxRecDepth 100000 in
set_option maxHeartbeats 2000000 in
theorem wall_no1 (d : Nat → Int) (f : Int) (w : World) (hv : okV d = false) : Calls Try.prog 181 #[.agg (vfn d), .int .i64 f] w fun e w' => e = .returned (.tuple #[.agg (qfn fun _ => 0), .int .i64 2]) ∧ Below w.heap.size w w' := by
  have VA := Lib.hid (fun w => valid_any d w)
  rw [hv] at VA
  have IS := Lib.hid (fun w => is_any f w)
  go_enter Try.func181, Try.ntmps181
  go_upto_region 1 with (fail)
  simp only [zero_spd]
  have v : blk ((w.alloc (.cells (vfn d) 31)).alloc (.cells (qfn fun _ => 0) 22)) w.heap.size (vfn d) 31 := (blk.new _ _ _).alloc _
  have r : blk ((w.alloc (.cells (vfn d) 31)).alloc (.cells (qfn fun _ => 0) 22)) (w.heap.size + 1) (qfn fun _ => 0) 22 := blk.new' (by simp)
  have hB : Below w.heap.size w ((w.alloc (.cells (vfn d) 31)).alloc (.cells (qfn fun _ => 0) 22)) := by go_grown
  generalize ((w.alloc (.cells (vfn d) 31)).alloc (.cells (qfn fun _ => 0) 22)) = w0 at *
  go_upto_region 2 with (first
    | (refine wpList_load_rowG ?hw _ _ rfl _ rfl _ _ _ _ v Try.underlying31 rfl ?hi ?_; (case hw => (first | rfl | (simp [Region.wanted, yielded]; done))); (case hi => (first | kernel_rfl | (rw [vfn_size]; kernel_rfl))))
    | (go_at_call 78; with_reducible refine (VA.out _).mono ?_; rintro e w1 ⟨rfl, hb⟩; replace hB := hB.trans (hb.mono hB.size); replace v := v.below hb v.lt; replace r := r.below hb r.lt; clear hb))
  have lt_v := v.lt
  have lt_r := r.lt
  have hW0 : w.heap.size ≤ w1.heap.size := by simpa using hB.size
  apply wp_region_Q 3 [0, 1, 3] [] [_, (fun _ => undef), _] (fun p L w' => w1.heap.size ≤ w'.heap.size ∧ Below w.heap.size w w' ∧ blk w' w.heap.size (vfn d) 31 ∧ blk w' (w.heap.size + 1) (bif L 1 then (qfn (fun _ => 0)) else (qfn fun _ => 0)) 22) _ [(0, 15), (2, 5)] [0, 1, 2]
  case hn => rfl
  case hB => kernel_rfl
  case hds => kernel_rfl
  case hA => (intro p; simp only [putsD, Act.put, sIT, sCZ, sCS, gCZ, gCS]; exact rfl)
  case h0 => exact fun p => ⟨Nat.le_refl _, hB, v, r⟩
  case hmore => exact fun p L w1 w2 ⟨hsz, hB, v, r⟩ hm => ⟨Nat.le_trans hsz hm.size, hB.trans (hm.mono (Nat.le_trans hW0 hsz)), v.below hm v.lt, r.below hm r.lt⟩
  case hs =>
    intro more
    refine stepV 0 rfl rfl (fun _ _ _ h => h) ?_ ?_
    · intros; (try simp only [vfn, qfn]); go_simp; exact ⟨rfl, rfl⟩
    refine AllI.cons ?_ ?_
    · refine stepI_store 1 rfl (fun p => rfl) (fun p => rfl) _ _ _ rfl (fun _ => (w.heap.size + 1)) 0 (fun p => rfl) (fun p => (qfn (fun _ => 0))) (fun p => (congrArg Value.agg zero_spd)) (fun p => (qfn fun _ => 0)) (fun p => (qfn (fun _ => 0))) 22 (fun p => over_qq _ _) (fun p => by first | (rw [qfn_size, qfn_size]; decide) | simp [qfn_size, qfn_size]) (fun p => by rw [qfn_size]; kernel_rfl) (fun p => qfn_one _) ?_ ?_
      · rintro p L w1 ⟨hsz, hB, v, r⟩ hk
        have L1 : L 1 = false := hk.1
        rw [L1] at r
        try simp only [cond_true, cond_false] at r
        exact r
      · rintro p L w1 ⟨hsz, hB, v, r⟩ hk
        have L1 : L 1 = false := hk.1
        skip
        refine ⟨(by simpa using hsz), Below.setRow hB (by first | exact Nat.le_trans hW0 hp.1 | exact ge_r | omega | (have := hB.size; simp at this ⊢; omega)) _, v.rowOther (by first | exact ne_v_r | exact Ne.symm ne_r_v | omega) _, ?_⟩
        rw [show upL L 1 1 = true from rfl]
        exact r.row _
    refine stepV 2 rfl rfl (fun _ _ _ h => h) ?_ ?_
    · intros; go_simp; exact ⟨rfl, rfl⟩
    exact AllI.nil
  case hV0 => exact fun p q => AllI.nil
  case he =>
  clear hB v r
  rintro p w1r ⟨hsz, hB, v, r⟩
  replace r : blk w1r (w.heap.size + 1) (qfn (fun _ => 0)) 22 := r
  clear lt_v lt_r hsz hW0
  go_wp2_with (fail)
  refine bodyPost_ret (results_vec rfl _ _ _ _ _ _ _ rfl r Try.underlying22 rfl (by first | kernel_rfl | (rw [qfn_size]; kernel_rfl))) rfl ?_
  refine ⟨?_, hB⟩
  rfl
set_option maxRecDepth 100000 in
set_option maxHeartbeats 2000000 in
theorem wall_no2 (d : Nat → Int) (f : Int) (w : World) (hv : okV d = true) (hf : isW f = false) : Calls Try.prog 181 #[.agg (vfn d), .int .i64 f] w fun e w' => e = .returned (.tuple #[.agg (qfn fun _ => 0), .int .i64 2]) ∧ Below w.heap.size w w' := by
  have VA := Lib.hid (fun w => valid_any d w)
  rw [hv] at VA
  have IS := Lib.hid (fun w => is_any f w)
  rw [hf] at IS
  go_enter Try.func181, Try.ntmps181
  go_upto_region 1 with (fail)
  simp only [zero_spd]
  have v : blk ((w.alloc (.cells (vfn d) 31)).alloc (.cells (qfn fun _ => 0) 22)) w.heap.size (vfn d) 31 := (blk.new _ _ _).alloc _
  have r : blk ((w.alloc (.cells (vfn d) 31)).alloc (.cells (qfn fun _ => 0) 22)) (w.heap.size + 1) (qfn fun _ => 0) 22 := blk.new' (by simp)
  have hB : Below w.heap.size w ((w.alloc (.cells (vfn d) 31)).alloc (.cells (qfn fun _ => 0) 22)) := by go_grown
  generalize ((w.alloc (.cells (vfn d) 31)).alloc (.cells (qfn fun _ => 0) 22)) = w0 at *
  go_upto_region 2 with (first
    | (refine wpList_load_rowG ?hw _ _ rfl _ rfl _ _ _ _ v Try.underlying31 rfl ?hi ?_; (case hw => (first | rfl | (simp [Region.wanted, yielded]; done))); (case hi => (first | kernel_rfl | (rw [vfn_size]; kernel_rfl))))
    | (go_at_call 78; with_reducible refine (VA.out _).mono ?_; rintro e w1 ⟨rfl, hb⟩; replace hB := hB.trans (hb.mono hB.size); replace v := v.below hb v.lt; replace r := r.below hb r.lt; clear hb)
    | (go_at_call 178; with_reducible refine (IS.out _).mono ?_; rintro e w2 ⟨rfl, hb⟩; replace hB := hB.trans (hb.mono hB.size); replace v := v.below hb v.lt; replace r := r.below hb r.lt; clear hb))
  have lt_v := v.lt
  have lt_r := r.lt
  have hW0 : w.heap.size ≤ w2.heap.size := by simpa using hB.size
  apply wp_region_Q 3 [0, 1, 3] [] [_, (fun _ => undef), _] (fun p L w' => w2.heap.size ≤ w'.heap.size ∧ Below w.heap.size w w' ∧ blk w' w.heap.size (vfn d) 31 ∧ blk w' (w.heap.size + 1) (bif L 1 then (qfn (fun _ => 0)) else (qfn fun _ => 0)) 22) _ [(0, 15), (2, 5)] [0, 1, 2]
  case hn => rfl
  case hB => kernel_rfl
  case hds => kernel_rfl
  case hA => (intro p; simp only [putsD, Act.put, sIT, sCZ, sCS, gCZ, gCS]; exact rfl)
  case h0 => exact fun p => ⟨Nat.le_refl _, hB, v, r⟩
  case hmore => exact fun p L w1 w2 ⟨hsz, hB, v, r⟩ hm => ⟨Nat.le_trans hsz hm.size, hB.trans (hm.mono (Nat.le_trans hW0 hsz)), v.below hm v.lt, r.below hm r.lt⟩
  case hs =>
    intro more
    refine stepV 0 rfl rfl (fun _ _ _ h => h) ?_ ?_
    · intros; (try simp only [vfn, qfn]); go_simp; exact ⟨rfl, rfl⟩
    refine AllI.cons ?_ ?_
    · refine stepI_store 1 rfl (fun p => rfl) (fun p => rfl) _ _ _ rfl (fun _ => (w.heap.size + 1)) 0 (fun p => rfl) (fun p => (qfn (fun _ => 0))) (fun p => (congrArg Value.agg zero_spd)) (fun p => (qfn fun _ => 0)) (fun p => (qfn (fun _ => 0))) 22 (fun p => over_qq _ _) (fun p => by first | (rw [qfn_size, qfn_size]; decide) | simp [qfn_size, qfn_size]) (fun p => by rw [qfn_size]; kernel_rfl) (fun p => qfn_one _) ?_ ?_
      · rintro p L w1 ⟨hsz, hB, v, r⟩ hk
        have L1 : L 1 = false := hk.1
        rw [L1] at r
        try simp only [cond_true, cond_false] at r
        exact r
      · rintro p L w1 ⟨hsz, hB, v, r⟩ hk
        have L1 : L 1 = false := hk.1
        skip
        refine ⟨(by simpa using hsz), Below.setRow hB (by first | exact Nat.le_trans hW0 hp.1 | exact ge_r | omega | (have := hB.size; simp at this ⊢; omega)) _, v.rowOther (by first | exact ne_v_r | exact Ne.symm ne_r_v | omega) _, ?_⟩
        rw [show upL L 1 1 = true from rfl]
        exact r.row _
    refine stepV 2 rfl rfl (fun _ _ _ h => h) ?_ ?_
    · intros; go_simp; exact ⟨rfl, rfl⟩
    exact AllI.nil
  case hV0 => exact fun p q => AllI.nil
  case he =>
  clear hB v r
  rintro p w2r ⟨hsz, hB, v, r⟩
  replace r : blk w2r (w.heap.size + 1) (qfn (fun _ => 0)) 22 := r
  clear lt_v lt_r hsz hW0
  go_wp2_with (fail)
  refine bodyPost_ret (results_vec rfl _ _ _ _ _ _ _ rfl r Try.underlying22 rfl (by first | kernel_rfl | (rw [qfn_size]; kernel_rfl))) rfl ?_
  refine ⟨?_, hB⟩
  rfl
set_option maxRecDepth 100000 in
set_option maxHeartbeats 4000000 in
theorem wall_m (d : Nat → Int) (w : World) (hv : okV d = true) : Calls Try.prog 181 #[.agg (vfn d), .int .i64 (-1)] w fun e w' => e = .returned (.tuple #[.agg (qfn (allocF d (-1))), .int .i64 0]) ∧ Below w.heap.size w w' := by
  have VA := Lib.hid (fun w => valid_any d w)
  rw [hv] at VA
  have IS := Lib.hid (fun w => is_any (-1) w)
  rw [show isW (-1) = true from by decide] at IS
  have bd := okV_bd hv
  have hz : allocZ d (-1) = spanZ d := rfl
  obtain ⟨x0, x1, n0, n1, _⟩ := mx3_bd (m := 1099511627776) (by decide) bd
  have zb := spanZ_bd hv
  have hM : Hid ([d 1, d 2, 0].foldl mx (d 0) = [d 1, d 2, 0].foldl mx (d 0)) := Lib.hid rfl
  have hm : Hid ([d 1, d 2, 0].foldl mn (d 0) = [d 1, d 2, 0].foldl mn (d 0)) := Lib.hid rfl
  have hs : spanZ d = ([d 1, d 2, 0].foldl mx (d 0) + [d 1, d 2, 0].foldl mn (d 0)) / 2 := rfl
  generalize hZ : spanZ d = Z at *
  generalize h1 : [d 1, d 2, 0].foldl mx (d 0) = M1 at *
  generalize h2 : [d 1, d 2, 0].foldl mn (d 0) = M2 at *
  replace hM := Lib.hid h1
  replace hm := Lib.hid h2
  clear h1 h2 hZ
  have ew : IntKind.i64.wrap (M1 + M2) = M1 + M2 := by rw [IntKind.wrap_i64]; omega
  have es : (M1 + M2) >>> 1 = Z := by rw [hs]; exact Int.shiftRight_eq_div_pow _ _
  have es2 : (M1 + M2) / 2 = Z := hs.symm
  have ez : IntKind.i64.wrap Z = Z := by rw [IntKind.wrap_i64]; omega
  have s0 : IntKind.i64.wrap (d 0 - Z) = allocF d (-1) 0 := by have := bd 0 (by omega); have := bd 0 (by omega); have := bd 1 (by omega); have := bd 2 (by omega); rw [IntKind.wrap_i64]; show _ = d 0 - allocZ d (-1); rw [hz]; omega
  have s1 : IntKind.i64.wrap (d 1 - Z) = allocF d (-1) 1 := by have := bd 1 (by omega); have := bd 0 (by omega); have := bd 1 (by omega); have := bd 2 (by omega); rw [IntKind.wrap_i64]; show _ = d 1 - allocZ d (-1); rw [hz]; omega
  have s2 : IntKind.i64.wrap (d 2 - Z) = allocF d (-1) 2 := by have := bd 2 (by omega); have := bd 0 (by omega); have := bd 1 (by omega); have := bd 2 (by omega); rw [IntKind.wrap_i64]; show _ = d 2 - allocZ d (-1); rw [hz]; omega
  have s3 := Lib.hid (show Z = allocF d (-1) 3 from hz.symm)
  clear bd hz hs x0 x1 n0 n1 zb
  go_enter Try.func181, Try.ntmps181
  go_upto_region 1 with (fail)
  simp only [zero_spd]
  have v : blk ((w.alloc (.cells (vfn d) 31)).alloc (.cells (qfn fun _ => 0) 22)) w.heap.size (vfn d) 31 := (blk.new _ _ _).alloc _
  have r : blk ((w.alloc (.cells (vfn d) 31)).alloc (.cells (qfn fun _ => 0) 22)) (w.heap.size + 1) (qfn fun _ => 0) 22 := blk.new' (by simp)
  have hB : Below w.heap.size w ((w.alloc (.cells (vfn d) 31)).alloc (.cells (qfn fun _ => 0) 22)) := by go_grown
  generalize ((w.alloc (.cells (vfn d) 31)).alloc (.cells (qfn fun _ => 0) 22)) = w0 at *
  have hc0 : ∀ w1, blk w1 w.heap.size (vfn d) 31 → w1.cell? ⟨w.heap.size, 0, none⟩ = some (.int .i64 (d 0)) := fun w1 hv => hv.cellIs (vfn_get d (by omega))
  replace hc0 := Lib.hid hc0
  have hc1 : ∀ w1, blk w1 w.heap.size (vfn d) 31 → w1.cell? ⟨w.heap.size, 1, none⟩ = some (.int .i64 (d 1)) := fun w1 hv => hv.cellIs (vfn_get d (by omega))
  replace hc1 := Lib.hid hc1
  have hc2 : ∀ w1, blk w1 w.heap.size (vfn d) 31 → w1.cell? ⟨w.heap.size, 2, none⟩ = some (.int .i64 (d 2)) := fun w1 hv => hv.cellIs (vfn_get d (by omega))
  replace hc2 := Lib.hid hc2
  go_upto_region 3 with (first
    | (refine wpList_load_rowG ?hw _ _ rfl _ rfl _ _ _ _ v Try.underlying31 rfl ?hi ?_; (case hw => (first | rfl | (simp [Region.wanted, yielded]; done))); (case hi => (first | kernel_rfl | (rw [vfn_size]; kernel_rfl))))
    | (go_at_call 78; with_reducible refine (VA.out _).mono ?_; rintro e w1 ⟨rfl, hb⟩; replace hB := hB.trans (hb.mono hB.size); replace v := v.below hb v.lt; replace r := r.below hb r.lt; clear hb)
    | (go_at_call 178; with_reducible refine (IS.out _).mono ?_; rintro e w2 ⟨rfl, hb⟩; replace hB := hB.trans (hb.mono hB.size); replace v := v.below hb v.lt; replace r := r.below hb r.lt; clear hb))
  have q0 := hc0.out _ v
  have q1 := hc1.out _ v
  have q2 := hc2.out _ v
  go_upto_region 11 with (first
    | (refine wpList_max rfl rfl _ _ _ hM.out rfl ?_)
    | (refine wpList_min rfl rfl _ _ _ hm.out rfl ?_))
  clear q0 q1 q2 hc0 hc1 hc2 VA IS
  have lt_v := v.lt
  have lt_r := r.lt
  have hW0 : w.heap.size ≤ w2.heap.size := by simpa using hB.size
  apply wp_region_Q 16 [0, 1, 3, 7, 15, 31, 63, 127, 255, 511, 1023, 2047, 4095, 8191, 16383, 32767] [] [_, _, _, _, _, _, _, _, _, _, _, _, _, _, (fun _ => undef), _] (fun p L w' => w2.heap.size ≤ w'.heap.size ∧ Below w.heap.size w w' ∧ blk w' w.heap.size (vfn d) 31 ∧ blk w' (w.heap.size + 1) (bif L 14 then (qfn (allocF d (-1))) else (qfn fun _ => 0)) 22) _ [(0, 42), (1, 43), (2, 44), (3, 45), (4, 46), (5, 47), (6, 48), (7, 49), (8, 50), (9, 51), (10, 52), (11, 53), (12, 54), (13, 55), (15, 5)] [0, 1, 2, 3, 4, 5, 6, 7, 8, 9, 10, 11, 12, 13, 14, 15]
  case hn => rfl
  case hB => kernel_rfl
  case hds => kernel_rfl
  case hA => (intro p; simp only [putsD, Act.put, sIT, sCZ, sCS, gCZ, gCS]; exact rfl)
  case h0 => exact fun p => ⟨Nat.le_refl _, hB, v, r⟩
  case hmore => exact fun p L w1 w2 ⟨hsz, hB, v, r⟩ hm => ⟨Nat.le_trans hsz hm.size, hB.trans (hm.mono (Nat.le_trans hW0 hsz)), v.below hm v.lt, r.below hm r.lt⟩
  case hs =>
    intro more
    refine stepV 0 rfl rfl (fun _ _ _ h => h) ?_ ?_
    · intros; go_simp; exact ⟨rfl, rfl⟩
    refine stepV 1 rfl rfl (fun _ _ _ h => h) ?_ ?_
    · rintro p L w1 ⟨hsz, hB, v, r⟩ hk
      have L14 : L 14 = false := hk.2.2 14 rfl
      have hc : w1.cell? ⟨w.heap.size, 0, none⟩ = some (.int .i64 (d 0)) := v.cellIs (vfn_get _ (by omega))
      go_simp
      exact ⟨rfl, rfl⟩
    refine stepV 2 rfl rfl (fun _ _ _ h => h) ?_ ?_
    · intros; go_simp; exact ⟨rfl, rfl⟩
    refine stepV 3 rfl rfl (fun _ _ _ h => h) ?_ ?_
    · intros; go_simp; exact ⟨rfl, rfl⟩
    refine stepV 4 rfl rfl (fun _ _ _ h => h) ?_ ?_
    · intros; go_simp; exact ⟨rfl, rfl⟩
    refine stepV 5 rfl rfl (fun _ _ _ h => h) ?_ ?_
    · rintro p L w1 ⟨hsz, hB, v, r⟩ hk
      have L14 : L 14 = false := hk.2.2 14 rfl
      have hc : w1.cell? ⟨w.heap.size, 1, none⟩ = some (.int .i64 (d 1)) := v.cellIs (vfn_get _ (by omega))
      go_simp
      exact ⟨rfl, rfl⟩
    refine stepV 6 rfl rfl (fun _ _ _ h => h) ?_ ?_
    · intros; go_simp; exact ⟨rfl, rfl⟩
    refine stepV 7 rfl rfl (fun _ _ _ h => h) ?_ ?_
    · intros; go_simp; exact ⟨rfl, rfl⟩
    refine stepV 8 rfl rfl (fun _ _ _ h => h) ?_ ?_
    · intros; go_simp; exact ⟨rfl, rfl⟩
    refine stepV 9 rfl rfl (fun _ _ _ h => h) ?_ ?_
    · rintro p L w1 ⟨hsz, hB, v, r⟩ hk
      have L14 : L 14 = false := hk.2.2 14 rfl
      have hc : w1.cell? ⟨w.heap.size, 2, none⟩ = some (.int .i64 (d 2)) := v.cellIs (vfn_get _ (by omega))
      go_simp
      exact ⟨rfl, rfl⟩
    refine stepV 10 rfl rfl (fun _ _ _ h => h) ?_ ?_
    · intros; go_simp; exact ⟨rfl, rfl⟩
    refine stepV 11 rfl rfl (fun _ _ _ h => h) ?_ ?_
    · intros; go_simp; exact ⟨rfl, rfl⟩
    refine stepV 12 rfl rfl (fun _ _ _ h => h) ?_ ?_
    · intros; go_simp; exact ⟨rfl, rfl⟩
    refine AllI.cons ?_ ?_
    · refine stepI_val 13 rfl (fun p => rfl) ?_ (fun _ _ _ h => h)
      intros; go_simp; exact ⟨congrArg Value.agg (alloc_of s3), rfl⟩
    refine AllI.cons ?_ ?_
    · refine stepI_store 14 rfl (fun p => rfl) (fun p => rfl) _ _ _ rfl (fun _ => (w.heap.size + 1)) 0 (fun p => rfl) (fun p => (qfn (allocF d (-1)))) (fun p => rfl) (fun p => (qfn fun _ => 0)) (fun p => (qfn (allocF d (-1)))) 22 (fun p => over_qq _ _) (fun p => by first | (rw [qfn_size, qfn_size]; decide) | simp [qfn_size, qfn_size]) (fun p => by rw [qfn_size]; kernel_rfl) (fun p => qfn_one _) ?_ ?_
      · rintro p L w1 ⟨hsz, hB, v, r⟩ hk
        have L14 : L 14 = false := hk.1
        rw [L14] at r
        try simp only [cond_true, cond_false] at r
        exact r
      · rintro p L w1 ⟨hsz, hB, v, r⟩ hk
        have L14 : L 14 = false := hk.1
        skip
        refine ⟨(by simpa using hsz), Below.setRow hB (by first | exact Nat.le_trans hW0 hp.1 | exact ge_r | omega | (have := hB.size; simp at this ⊢; omega)) _, v.rowOther (by first | exact ne_v_r | exact Ne.symm ne_r_v | omega) _, ?_⟩
        rw [show upL L 14 14 = true from rfl]
        exact r.row _
    refine stepV 15 rfl rfl (fun _ _ _ h => h) ?_ ?_
    · intros; go_simp; exact ⟨rfl, rfl⟩
    exact AllI.nil
  case hV0 => exact fun p q => AllI.nil
  case he =>
  clear hB v r
  rintro p w2r ⟨hsz, hB, v, r⟩
  replace r : blk w2r (w.heap.size + 1) (qfn (allocF d (-1))) 22 := r
  clear lt_v lt_r hsz hW0
  go_wp2_with (fail)
  refine bodyPost_ret (results_vec rfl _ _ _ _ _ _ _ rfl r Try.underlying22 rfl (by first | kernel_rfl | (rw [qfn_size]; kernel_rfl))) rfl ?_
  refine ⟨?_, hB⟩
  rfl
set_option maxRecDepth 100000 in
set_option maxHeartbeats 4000000 in
theorem wall_0 (d : Nat → Int) (w : World) (hv : okV d = true) : Calls Try.prog 181 #[.agg (vfn d), .int .i64 0] w fun e w' => e = .returned (.tuple #[.agg (qfn (allocF d 0)), .int .i64 0]) ∧ Below w.heap.size w w' := by
  have VA := Lib.hid (fun w => valid_any d w)
  rw [hv] at VA
  have IS := Lib.hid (fun w => is_any 0 w)
  rw [show isW 0 = true from by decide] at IS
  have bd := okV_bd hv
  have hz : allocZ d 0 = d 0 := rfl
  have s0 : IntKind.i64.wrap (d 0 - d 0) = allocF d 0 0 := by have := bd 0 (by omega); have := bd 0 (by omega); have := bd 1 (by omega); have := bd 2 (by omega); rw [IntKind.wrap_i64]; show _ = d 0 - allocZ d 0; rw [hz]; omega
  have s1 : IntKind.i64.wrap (d 1 - d 0) = allocF d 0 1 := by have := bd 1 (by omega); have := bd 0 (by omega); have := bd 1 (by omega); have := bd 2 (by omega); rw [IntKind.wrap_i64]; show _ = d 1 - allocZ d 0; rw [hz]; omega
  have s2 : IntKind.i64.wrap (d 2 - d 0) = allocF d 0 2 := by have := bd 2 (by omega); have := bd 0 (by omega); have := bd 1 (by omega); have := bd 2 (by omega); rw [IntKind.wrap_i64]; show _ = d 2 - allocZ d 0; rw [hz]; omega
  have s3 := Lib.hid (show d 0 = allocF d 0 3 from hz.symm)
  have t0 : IntKind.i64.wrap 0 = allocF d 0 0 := by rw [← s0]; congr 1; omega
  clear s0 bd hz
  go_enter Try.func181, Try.ntmps181
  go_upto_region 1 with (fail)
  simp only [zero_spd]
  have v : blk ((w.alloc (.cells (vfn d) 31)).alloc (.cells (qfn fun _ => 0) 22)) w.heap.size (vfn d) 31 := (blk.new _ _ _).alloc _
  have r : blk ((w.alloc (.cells (vfn d) 31)).alloc (.cells (qfn fun _ => 0) 22)) (w.heap.size + 1) (qfn fun _ => 0) 22 := blk.new' (by simp)
  have hB : Below w.heap.size w ((w.alloc (.cells (vfn d) 31)).alloc (.cells (qfn fun _ => 0) 22)) := by go_grown
  generalize ((w.alloc (.cells (vfn d) 31)).alloc (.cells (qfn fun _ => 0) 22)) = w0 at *
  have hc0 : ∀ w1, blk w1 w.heap.size (vfn d) 31 → w1.cell? ⟨w.heap.size, 0, none⟩ = some (.int .i64 (d 0)) := fun w1 hv => hv.cellIs (vfn_get d (by omega))
  replace hc0 := Lib.hid hc0
  have hc1 : ∀ w1, blk w1 w.heap.size (vfn d) 31 → w1.cell? ⟨w.heap.size, 1, none⟩ = some (.int .i64 (d 1)) := fun w1 hv => hv.cellIs (vfn_get d (by omega))
  replace hc1 := Lib.hid hc1
  have hc2 : ∀ w1, blk w1 w.heap.size (vfn d) 31 → w1.cell? ⟨w.heap.size, 2, none⟩ = some (.int .i64 (d 2)) := fun w1 hv => hv.cellIs (vfn_get d (by omega))
  replace hc2 := Lib.hid hc2
  go_upto_region 3 with (first
    | (refine wpList_load_rowG ?hw _ _ rfl _ rfl _ _ _ _ v Try.underlying31 rfl ?hi ?_; (case hw => (first | rfl | (simp [Region.wanted, yielded]; done))); (case hi => (first | kernel_rfl | (rw [vfn_size]; kernel_rfl))))
    | (go_at_call 78; with_reducible refine (VA.out _).mono ?_; rintro e w1 ⟨rfl, hb⟩; replace hB := hB.trans (hb.mono hB.size); replace v := v.below hb v.lt; replace r := r.below hb r.lt; clear hb)
    | (go_at_call 178; with_reducible refine (IS.out _).mono ?_; rintro e w2 ⟨rfl, hb⟩; replace hB := hB.trans (hb.mono hB.size); replace v := v.below hb v.lt; replace r := r.below hb r.lt; clear hb))
  have q0 := hc0.out _ v
  have q1 := hc1.out _ v
  have q2 := hc2.out _ v
  go_upto_region 11 with (fail)
  clear q0 q1 q2 hc0 hc1 hc2 VA IS
  have lt_v := v.lt
  have lt_r := r.lt
  have hW0 : w.heap.size ≤ w2.heap.size := by simpa using hB.size
  apply wp_region_Q 16 [0, 1, 3, 7, 15, 31, 63, 127, 255, 511, 1023, 2047, 4095, 8191, 16383, 32767] [] [_, _, _, _, _, _, _, _, _, _, _, _, _, _, (fun _ => undef), _] (fun p L w' => w2.heap.size ≤ w'.heap.size ∧ Below w.heap.size w w' ∧ blk w' w.heap.size (vfn d) 31 ∧ blk w' (w.heap.size + 1) (bif L 14 then (qfn (allocF d 0)) else (qfn fun _ => 0)) 22) _ [(0, 42), (1, 43), (2, 44), (3, 45), (4, 46), (5, 47), (6, 48), (7, 49), (8, 50), (9, 51), (10, 52), (11, 53), (12, 54), (13, 55), (15, 5)] [0, 1, 2, 3, 4, 5, 6, 7, 8, 9, 10, 11, 12, 13, 14, 15]
  case hn => rfl
  case hB => kernel_rfl
  case hds => kernel_rfl
  case hA => (intro p; simp only [putsD, Act.put, sIT, sCZ, sCS, gCZ, gCS]; exact rfl)
  case h0 => exact fun p => ⟨Nat.le_refl _, hB, v, r⟩
  case hmore => exact fun p L w1 w2 ⟨hsz, hB, v, r⟩ hm => ⟨Nat.le_trans hsz hm.size, hB.trans (hm.mono (Nat.le_trans hW0 hsz)), v.below hm v.lt, r.below hm r.lt⟩
  case hs =>
    intro more
    refine stepV 0 rfl rfl (fun _ _ _ h => h) ?_ ?_
    · intros; go_simp; exact ⟨rfl, rfl⟩
    refine stepV 1 rfl rfl (fun _ _ _ h => h) ?_ ?_
    · rintro p L w1 ⟨hsz, hB, v, r⟩ hk
      have L14 : L 14 = false := hk.2.2 14 rfl
      have hc : w1.cell? ⟨w.heap.size, 0, none⟩ = some (.int .i64 (d 0)) := v.cellIs (vfn_get _ (by omega))
      go_simp
      exact ⟨rfl, rfl⟩
    refine stepV 2 rfl rfl (fun _ _ _ h => h) ?_ ?_
    · intros; go_simp; exact ⟨rfl, rfl⟩
    refine stepV 3 rfl rfl (fun _ _ _ h => h) ?_ ?_
    · intros; go_simp; exact ⟨rfl, rfl⟩
    refine stepV 4 rfl rfl (fun _ _ _ h => h) ?_ ?_
    · intros; go_simp; exact ⟨rfl, rfl⟩
    refine stepV 5 rfl rfl (fun _ _ _ h => h) ?_ ?_
    · rintro p L w1 ⟨hsz, hB, v, r⟩ hk
      have L14 : L 14 = false := hk.2.2 14 rfl
      have hc : w1.cell? ⟨w.heap.size, 1, none⟩ = some (.int .i64 (d 1)) := v.cellIs (vfn_get _ (by omega))
      go_simp
      exact ⟨rfl, rfl⟩
    refine stepV 6 rfl rfl (fun _ _ _ h => h) ?_ ?_
    · intros; go_simp; exact ⟨rfl, rfl⟩
    refine stepV 7 rfl rfl (fun _ _ _ h => h) ?_ ?_
    · intros; go_simp; exact ⟨rfl, rfl⟩
    refine stepV 8 rfl rfl (fun _ _ _ h => h) ?_ ?_
    · intros; go_simp; exact ⟨rfl, rfl⟩
    refine stepV 9 rfl rfl (fun _ _ _ h => h) ?_ ?_
    · rintro p L w1 ⟨hsz, hB, v, r⟩ hk
      have L14 : L 14 = false := hk.2.2 14 rfl
      have hc : w1.cell? ⟨w.heap.size, 2, none⟩ = some (.int .i64 (d 2)) := v.cellIs (vfn_get _ (by omega))
      go_simp
      exact ⟨rfl, rfl⟩
    refine stepV 10 rfl rfl (fun _ _ _ h => h) ?_ ?_
    · intros; go_simp; exact ⟨rfl, rfl⟩
    refine stepV 11 rfl rfl (fun _ _ _ h => h) ?_ ?_
    · intros; go_simp; exact ⟨rfl, rfl⟩
    refine stepV 12 rfl rfl (fun _ _ _ h => h) ?_ ?_
    · intros; go_simp; exact ⟨rfl, rfl⟩
    refine AllI.cons ?_ ?_
    · refine stepI_val 13 rfl (fun p => rfl) ?_ (fun _ _ _ h => h)
      intros; go_simp; exact ⟨congrArg Value.agg (alloc_of s3), rfl⟩
    refine AllI.cons ?_ ?_
    · refine stepI_store 14 rfl (fun p => rfl) (fun p => rfl) _ _ _ rfl (fun _ => (w.heap.size + 1)) 0 (fun p => rfl) (fun p => (qfn (allocF d 0))) (fun p => rfl) (fun p => (qfn fun _ => 0)) (fun p => (qfn (allocF d 0))) 22 (fun p => over_qq _ _) (fun p => by first | (rw [qfn_size, qfn_size]; decide) | simp [qfn_size, qfn_size]) (fun p => by rw [qfn_size]; kernel_rfl) (fun p => qfn_one _) ?_ ?_
      · rintro p L w1 ⟨hsz, hB, v, r⟩ hk
        have L14 : L 14 = false := hk.1
        rw [L14] at r
        try simp only [cond_true, cond_false] at r
        exact r
      · rintro p L w1 ⟨hsz, hB, v, r⟩ hk
        have L14 : L 14 = false := hk.1
        skip
        refine ⟨(by simpa using hsz), Below.setRow hB (by first | exact Nat.le_trans hW0 hp.1 | exact ge_r | omega | (have := hB.size; simp at this ⊢; omega)) _, v.rowOther (by first | exact ne_v_r | exact Ne.symm ne_r_v | omega) _, ?_⟩
        rw [show upL L 14 14 = true from rfl]
        exact r.row _
    refine stepV 15 rfl rfl (fun _ _ _ h => h) ?_ ?_
    · intros; go_simp; exact ⟨rfl, rfl⟩
    exact AllI.nil
  case hV0 => exact fun p q => AllI.nil
  case he =>
  clear hB v r
  rintro p w2r ⟨hsz, hB, v, r⟩
  replace r : blk w2r (w.heap.size + 1) (qfn (allocF d 0)) 22 := r
  clear lt_v lt_r hsz hW0
  go_wp2_with (fail)
  refine bodyPost_ret (results_vec rfl _ _ _ _ _ _ _ rfl r Try.underlying22 rfl (by first | kernel_rfl | (rw [qfn_size]; kernel_rfl))) rfl ?_
  refine ⟨?_, hB⟩
  rfl
set_option maxRecDepth 100000 in
set_option maxHeartbeats 4000000 in
theorem wall_1 (d : Nat → Int) (w : World) (hv : okV d = true) : Calls Try.prog 181 #[.agg (vfn d), .int .i64 1] w fun e w' => e = .returned (.tuple #[.agg (qfn (allocF d 1)), .int .i64 0]) ∧ Below w.heap.size w w' := by
  have VA := Lib.hid (fun w => valid_any d w)
  rw [hv] at VA
  have IS := Lib.hid (fun w => is_any 1 w)
  rw [show isW 1 = true from by decide] at IS
  have bd := okV_bd hv
  have hz : allocZ d 1 = d 1 := rfl
  have s0 : IntKind.i64.wrap (d 0 - d 1) = allocF d 1 0 := by have := bd 0 (by omega); have := bd 0 (by omega); have := bd 1 (by omega); have := bd 2 (by omega); rw [IntKind.wrap_i64]; show _ = d 0 - allocZ d 1; rw [hz]; omega
  have s1 : IntKind.i64.wrap (d 1 - d 1) = allocF d 1 1 := by have := bd 1 (by omega); have := bd 0 (by omega); have := bd 1 (by omega); have := bd 2 (by omega); rw [IntKind.wrap_i64]; show _ = d 1 - allocZ d 1; rw [hz]; omega
  have s2 : IntKind.i64.wrap (d 2 - d 1) = allocF d 1 2 := by have := bd 2 (by omega); have := bd 0 (by omega); have := bd 1 (by omega); have := bd 2 (by omega); rw [IntKind.wrap_i64]; show _ = d 2 - allocZ d 1; rw [hz]; omega
  have s3 := Lib.hid (show d 1 = allocF d 1 3 from hz.symm)
  have t1 : IntKind.i64.wrap 0 = allocF d 1 1 := by rw [← s1]; congr 1; omega
  clear s1 bd hz
  go_enter Try.func181, Try.ntmps181
  go_upto_region 1 with (fail)
  simp only [zero_spd]
  have v : blk ((w.alloc (.cells (vfn d) 31)).alloc (.cells (qfn fun _ => 0) 22)) w.heap.size (vfn d) 31 := (blk.new _ _ _).alloc _
  have r : blk ((w.alloc (.cells (vfn d) 31)).alloc (.cells (qfn fun _ => 0) 22)) (w.heap.size + 1) (qfn fun _ => 0) 22 := blk.new' (by simp)
  have hB : Below w.heap.size w ((w.alloc (.cells (vfn d) 31)).alloc (.cells (qfn fun _ => 0) 22)) := by go_grown
  generalize ((w.alloc (.cells (vfn d) 31)).alloc (.cells (qfn fun _ => 0) 22)) = w0 at *
  have hc0 : ∀ w1, blk w1 w.heap.size (vfn d) 31 → w1.cell? ⟨w.heap.size, 0, none⟩ = some (.int .i64 (d 0)) := fun w1 hv => hv.cellIs (vfn_get d (by omega))
  replace hc0 := Lib.hid hc0
  have hc1 : ∀ w1, blk w1 w.heap.size (vfn d) 31 → w1.cell? ⟨w.heap.size, 1, none⟩ = some (.int .i64 (d 1)) := fun w1 hv => hv.cellIs (vfn_get d (by omega))
  replace hc1 := Lib.hid hc1
  have hc2 : ∀ w1, blk w1 w.heap.size (vfn d) 31 → w1.cell? ⟨w.heap.size, 2, none⟩ = some (.int .i64 (d 2)) := fun w1 hv => hv.cellIs (vfn_get d (by omega))
  replace hc2 := Lib.hid hc2
  go_upto_region 3 with (first
    | (refine wpList_load_rowG ?hw _ _ rfl _ rfl _ _ _ _ v Try.underlying31 rfl ?hi ?_; (case hw => (first | rfl | (simp [Region.wanted, yielded]; done))); (case hi => (first | kernel_rfl | (rw [vfn_size]; kernel_rfl))))
    | (go_at_call 78; with_reducible refine (VA.out _).mono ?_; rintro e w1 ⟨rfl, hb⟩; replace hB := hB.trans (hb.mono hB.size); replace v := v.below hb v.lt; replace r := r.below hb r.lt; clear hb)
    | (go_at_call 178; with_reducible refine (IS.out _).mono ?_; rintro e w2 ⟨rfl, hb⟩; replace hB := hB.trans (hb.mono hB.size); replace v := v.below hb v.lt; replace r := r.below hb r.lt; clear hb))
  have q0 := hc0.out _ v
  have q1 := hc1.out _ v
  have q2 := hc2.out _ v
  go_upto_region 11 with (fail)
  clear q0 q1 q2 hc0 hc1 hc2 VA IS
  have lt_v := v.lt
  have lt_r := r.lt
  have hW0 : w.heap.size ≤ w2.heap.size := by simpa using hB.size
  apply wp_region_Q 16 [0, 1, 3, 7, 15, 31, 63, 127, 255, 511, 1023, 2047, 4095, 8191, 16383, 32767] [] [_, _, _, _, _, _, _, _, _, _, _, _, _, _, (fun _ => undef), _] (fun p L w' => w2.heap.size ≤ w'.heap.size ∧ Below w.heap.size w w' ∧ blk w' w.heap.size (vfn d) 31 ∧ blk w' (w.heap.size + 1) (bif L 14 then (qfn (allocF d 1)) else (qfn fun _ => 0)) 22) _ [(0, 42), (1, 43), (2, 44), (3, 45), (4, 46), (5, 47), (6, 48), (7, 49), (8, 50), (9, 51), (10, 52), (11, 53), (12, 54), (13, 55), (15, 5)] [0, 1, 2, 3, 4, 5, 6, 7, 8, 9, 10, 11, 12, 13, 14, 15]
  case hn => rfl
  case hB => kernel_rfl
  case hds => kernel_rfl
  case hA => (intro p; simp only [putsD, Act.put, sIT, sCZ, sCS, gCZ, gCS]; exact rfl)
  case h0 => exact fun p => ⟨Nat.le_refl _, hB, v, r⟩
  case hmore => exact fun p L w1 w2 ⟨hsz, hB, v, r⟩ hm => ⟨Nat.le_trans hsz hm.size, hB.trans (hm.mono (Nat.le_trans hW0 hsz)), v.below hm v.lt, r.below hm r.lt⟩
  case hs =>
    intro more
    refine stepV 0 rfl rfl (fun _ _ _ h => h) ?_ ?_
    · intros; go_simp; exact ⟨rfl, rfl⟩
    refine stepV 1 rfl rfl (fun _ _ _ h => h) ?_ ?_
    · rintro p L w1 ⟨hsz, hB, v, r⟩ hk
      have L14 : L 14 = false := hk.2.2 14 rfl
      have hc : w1.cell? ⟨w.heap.size, 0, none⟩ = some (.int .i64 (d 0)) := v.cellIs (vfn_get _ (by omega))
      go_simp
      exact ⟨rfl, rfl⟩
    refine stepV 2 rfl rfl (fun _ _ _ h => h) ?_ ?_
    · intros; go_simp; exact ⟨rfl, rfl⟩
    refine stepV 3 rfl rfl (fun _ _ _ h => h) ?_ ?_
    · intros; go_simp; exact ⟨rfl, rfl⟩
    refine stepV 4 rfl rfl (fun _ _ _ h => h) ?_ ?_
    · intros; go_simp; exact ⟨rfl, rfl⟩
    refine stepV 5 rfl rfl (fun _ _ _ h => h) ?_ ?_
    · rintro p L w1 ⟨hsz, hB, v, r⟩ hk
      have L14 : L 14 = false := hk.2.2 14 rfl
      have hc : w1.cell? ⟨w.heap.size, 1, none⟩ = some (.int .i64 (d 1)) := v.cellIs (vfn_get _ (by omega))
      go_simp
      exact ⟨rfl, rfl⟩
    refine stepV 6 rfl rfl (fun _ _ _ h => h) ?_ ?_
    · intros; go_simp; exact ⟨rfl, rfl⟩
    refine stepV 7 rfl rfl (fun _ _ _ h => h) ?_ ?_
    · intros; go_simp; exact ⟨rfl, rfl⟩
    refine stepV 8 rfl rfl (fun _ _ _ h => h) ?_ ?_
    · intros; go_simp; exact ⟨rfl, rfl⟩
    refine stepV 9 rfl rfl (fun _ _ _ h => h) ?_ ?_
    · rintro p L w1 ⟨hsz, hB, v, r⟩ hk
      have L14 : L 14 = false := hk.2.2 14 rfl
      have hc : w1.cell? ⟨w.heap.size, 2, none⟩ = some (.int .i64 (d 2)) := v.cellIs (vfn_get _ (by omega))
      go_simp
      exact ⟨rfl, rfl⟩
    refine stepV 10 rfl rfl (fun _ _ _ h => h) ?_ ?_
    · intros; go_simp; exact ⟨rfl, rfl⟩
    refine stepV 11 rfl rfl (fun _ _ _ h => h) ?_ ?_
    · intros; go_simp; exact ⟨rfl, rfl⟩
    refine stepV 12 rfl rfl (fun _ _ _ h => h) ?_ ?_
    · intros; go_simp; exact ⟨rfl, rfl⟩
    refine AllI.cons ?_ ?_
    · refine stepI_val 13 rfl (fun p => rfl) ?_ (fun _ _ _ h => h)
      intros; go_simp; exact ⟨congrArg Value.agg (alloc_of s3), rfl⟩
    refine AllI.cons ?_ ?_
    · refine stepI_store 14 rfl (fun p => rfl) (fun p => rfl) _ _ _ rfl (fun _ => (w.heap.size + 1)) 0 (fun p => rfl) (fun p => (qfn (allocF d 1))) (fun p => rfl) (fun p => (qfn fun _ => 0)) (fun p => (qfn (allocF d 1))) 22 (fun p => over_qq _ _) (fun p => by first | (rw [qfn_size, qfn_size]; decide) | simp [qfn_size, qfn_size]) (fun p => by rw [qfn_size]; kernel_rfl) (fun p => qfn_one _) ?_ ?_
      · rintro p L w1 ⟨hsz, hB, v, r⟩ hk
        have L14 : L 14 = false := hk.1
        rw [L14] at r
        try simp only [cond_true, cond_false] at r
        exact r
      · rintro p L w1 ⟨hsz, hB, v, r⟩ hk
        have L14 : L 14 = false := hk.1
        skip
        refine ⟨(by simpa using hsz), Below.setRow hB (by first | exact Nat.le_trans hW0 hp.1 | exact ge_r | omega | (have := hB.size; simp at this ⊢; omega)) _, v.rowOther (by first | exact ne_v_r | exact Ne.symm ne_r_v | omega) _, ?_⟩
        rw [show upL L 14 14 = true from rfl]
        exact r.row _
    refine stepV 15 rfl rfl (fun _ _ _ h => h) ?_ ?_
    · intros; go_simp; exact ⟨rfl, rfl⟩
    exact AllI.nil
  case hV0 => exact fun p q => AllI.nil
  case he =>
  clear hB v r
  rintro p w2r ⟨hsz, hB, v, r⟩
  replace r : blk w2r (w.heap.size + 1) (qfn (allocF d 1)) 22 := r
  clear lt_v lt_r hsz hW0
  go_wp2_with (fail)
  refine bodyPost_ret (results_vec rfl _ _ _ _ _ _ _ rfl r Try.underlying22 rfl (by first | kernel_rfl | (rw [qfn_size]; kernel_rfl))) rfl ?_
  refine ⟨?_, hB⟩
  rfl
set_option maxRecDepth 100000 in
set_option maxHeartbeats 4000000 in
theorem wall_2 (d : Nat → Int) (w : World) (hv : okV d = true) : Calls Try.prog 181 #[.agg (vfn d), .int .i64 2] w fun e w' => e = .returned (.tuple #[.agg (qfn (allocF d 2)), .int .i64 0]) ∧ Below w.heap.size w w' := by
  have VA := Lib.hid (fun w => valid_any d w)
  rw [hv] at VA
  have IS := Lib.hid (fun w => is_any 2 w)
  rw [show isW 2 = true from by decide] at IS
  have bd := okV_bd hv
  have hz : allocZ d 2 = d 2 := rfl
  have s0 : IntKind.i64.wrap (d 0 - d 2) = allocF d 2 0 := by have := bd 0 (by omega); have := bd 0 (by omega); have := bd 1 (by omega); have := bd 2 (by omega); rw [IntKind.wrap_i64]; show _ = d 0 - allocZ d 2; rw [hz]; omega
  have s1 : IntKind.i64.wrap (d 1 - d 2) = allocF d 2 1 := by have := bd 1 (by omega); have := bd 0 (by omega); have := bd 1 (by omega); have := bd 2 (by omega); rw [IntKind.wrap_i64]; show _ = d 1 - allocZ d 2; rw [hz]; omega
  have s2 : IntKind.i64.wrap (d 2 - d 2) = allocF d 2 2 := by have := bd 2 (by omega); have := bd 0 (by omega); have := bd 1 (by omega); have := bd 2 (by omega); rw [IntKind.wrap_i64]; show _ = d 2 - allocZ d 2; rw [hz]; omega
  have s3 := Lib.hid (show d 2 = allocF d 2 3 from hz.symm)
  have t2 : IntKind.i64.wrap 0 = allocF d 2 2 := by rw [← s2]; congr 1; omega
  clear s2 bd hz
  go_enter Try.func181, Try.ntmps181
  go_upto_region 1 with (fail)
  simp only [zero_spd]
  have v : blk ((w.alloc (.cells (vfn d) 31)).alloc (.cells (qfn fun _ => 0) 22)) w.heap.size (vfn d) 31 := (blk.new _ _ _).alloc _
  have r : blk ((w.alloc (.cells (vfn d) 31)).alloc (.cells (qfn fun _ => 0) 22)) (w.heap.size + 1) (qfn fun _ => 0) 22 := blk.new' (by simp)
  have hB : Below w.heap.size w ((w.alloc (.cells (vfn d) 31)).alloc (.cells (qfn fun _ => 0) 22)) := by go_grown
  generalize ((w.alloc (.cells (vfn d) 31)).alloc (.cells (qfn fun _ => 0) 22)) = w0 at *
  have hc0 : ∀ w1, blk w1 w.heap.size (vfn d) 31 → w1.cell? ⟨w.heap.size, 0, none⟩ = some (.int .i64 (d 0)) := fun w1 hv => hv.cellIs (vfn_get d (by omega))
  replace hc0 := Lib.hid hc0
  have hc1 : ∀ w1, blk w1 w.heap.size (vfn d) 31 → w1.cell? ⟨w.heap.size, 1, none⟩ = some (.int .i64 (d 1)) := fun w1 hv => hv.cellIs (vfn_get d (by omega))
  replace hc1 := Lib.hid hc1
  have hc2 : ∀ w1, blk w1 w.heap.size (vfn d) 31 → w1.cell? ⟨w.heap.size, 2, none⟩ = some (.int .i64 (d 2)) := fun w1 hv => hv.cellIs (vfn_get d (by omega))
  replace hc2 := Lib.hid hc2
  go_upto_region 3 with (first
    | (refine wpList_load_rowG ?hw _ _ rfl _ rfl _ _ _ _ v Try.underlying31 rfl ?hi ?_; (case hw => (first | rfl | (simp [Region.wanted, yielded]; done))); (case hi => (first | kernel_rfl | (rw [vfn_size]; kernel_rfl))))
    | (go_at_call 78; with_reducible refine (VA.out _).mono ?_; rintro e w1 ⟨rfl, hb⟩; replace hB := hB.trans (hb.mono hB.size); replace v := v.below hb v.lt; replace r := r.below hb r.lt; clear hb)
    | (go_at_call 178; with_reducible refine (IS.out _).mono ?_; rintro e w2 ⟨rfl, hb⟩; replace hB := hB.trans (hb.mono hB.size); replace v := v.below hb v.lt; replace r := r.below hb r.lt; clear hb))
  have q0 := hc0.out _ v
  have q1 := hc1.out _ v
  have q2 := hc2.out _ v
  go_upto_region 11 with (fail)
  clear q0 q1 q2 hc0 hc1 hc2 VA IS
  have lt_v := v.lt
  have lt_r := r.lt
  have hW0 : w.heap.size ≤ w2.heap.size := by simpa using hB.size
  apply wp_region_Q 16 [0, 1, 3, 7, 15, 31, 63, 127, 255, 511, 1023, 2047, 4095, 8191, 16383, 32767] [] [_, _, _, _, _, _, _, _, _, _, _, _, _, _, (fun _ => undef), _] (fun p L w' => w2.heap.size ≤ w'.heap.size ∧ Below w.heap.size w w' ∧ blk w' w.heap.size (vfn d) 31 ∧ blk w' (w.heap.size + 1) (bif L 14 then (qfn (allocF d 2)) else (qfn fun _ => 0)) 22) _ [(0, 42), (1, 43), (2, 44), (3, 45), (4, 46), (5, 47), (6, 48), (7, 49), (8, 50), (9, 51), (10, 52), (11, 53), (12, 54), (13, 55), (15, 5)] [0, 1, 2, 3, 4, 5, 6, 7, 8, 9, 10, 11, 12, 13, 14, 15]
  case hn => rfl
  case hB => kernel_rfl
  case hds => kernel_rfl
  case hA => (intro p; simp only [putsD, Act.put, sIT, sCZ, sCS, gCZ, gCS]; exact rfl)
  case h0 => exact fun p => ⟨Nat.le_refl _, hB, v, r⟩
  case hmore => exact fun p L w1 w2 ⟨hsz, hB, v, r⟩ hm => ⟨Nat.le_trans hsz hm.size, hB.trans (hm.mono (Nat.le_trans hW0 hsz)), v.below hm v.lt, r.below hm r.lt⟩
  case hs =>
    intro more
    refine stepV 0 rfl rfl (fun _ _ _ h => h) ?_ ?_
    · intros; go_simp; exact ⟨rfl, rfl⟩
    refine stepV 1 rfl rfl (fun _ _ _ h => h) ?_ ?_
    · rintro p L w1 ⟨hsz, hB, v, r⟩ hk
      have L14 : L 14 = false := hk.2.2 14 rfl
      have hc : w1.cell? ⟨w.heap.size, 0, none⟩ = some (.int .i64 (d 0)) := v.cellIs (vfn_get _ (by omega))
      go_simp
      exact ⟨rfl, rfl⟩
    refine stepV 2 rfl rfl (fun _ _ _ h => h) ?_ ?_
    · intros; go_simp; exact ⟨rfl, rfl⟩
    refine stepV 3 rfl rfl (fun _ _ _ h => h) ?_ ?_
    · intros; go_simp; exact ⟨rfl, rfl⟩
    refine stepV 4 rfl rfl (fun _ _ _ h => h) ?_ ?_
    · intros; go_simp; exact ⟨rfl, rfl⟩
    refine stepV 5 rfl rfl (fun _ _ _ h => h) ?_ ?_
    · rintro p L w1 ⟨hsz, hB, v, r⟩ hk
      have L14 : L 14 = false := hk.2.2 14 rfl
      have hc : w1.cell? ⟨w.heap.size, 1, none⟩ = some (.int .i64 (d 1)) := v.cellIs (vfn_get _ (by omega))
      go_simp
      exact ⟨rfl, rfl⟩
    refine stepV 6 rfl rfl (fun _ _ _ h => h) ?_ ?_
    · intros; go_simp; exact ⟨rfl, rfl⟩
    refine stepV 7 rfl rfl (fun _ _ _ h => h) ?_ ?_
    · intros; go_simp; exact ⟨rfl, rfl⟩
    refine stepV 8 rfl rfl (fun _ _ _ h => h) ?_ ?_
    · intros; go_simp; exact ⟨rfl, rfl⟩
    refine stepV 9 rfl rfl (fun _ _ _ h => h) ?_ ?_
    · rintro p L w1 ⟨hsz, hB, v, r⟩ hk
      have L14 : L 14 = false := hk.2.2 14 rfl
      have hc : w1.cell? ⟨w.heap.size, 2, none⟩ = some (.int .i64 (d 2)) := v.cellIs (vfn_get _ (by omega))
      go_simp
      exact ⟨rfl, rfl⟩
    refine stepV 10 rfl rfl (fun _ _ _ h => h) ?_ ?_
    · intros; go_simp; exact ⟨rfl, rfl⟩
    refine stepV 11 rfl rfl (fun _ _ _ h => h) ?_ ?_
    · intros; go_simp; exact ⟨rfl, rfl⟩
    refine stepV 12 rfl rfl (fun _ _ _ h => h) ?_ ?_
    · intros; go_simp; exact ⟨rfl, rfl⟩
    refine AllI.cons ?_ ?_
    · refine stepI_val 13 rfl (fun p => rfl) ?_ (fun _ _ _ h => h)
      intros; go_simp; exact ⟨congrArg Value.agg (alloc_of s3), rfl⟩
    refine AllI.cons ?_ ?_
    · refine stepI_store 14 rfl (fun p => rfl) (fun p => rfl) _ _ _ rfl (fun _ => (w.heap.size + 1)) 0 (fun p => rfl) (fun p => (qfn (allocF d 2))) (fun p => rfl) (fun p => (qfn fun _ => 0)) (fun p => (qfn (allocF d 2))) 22 (fun p => over_qq _ _) (fun p => by first | (rw [qfn_size, qfn_size]; decide) | simp [qfn_size, qfn_size]) (fun p => by rw [qfn_size]; kernel_rfl) (fun p => qfn_one _) ?_ ?_
      · rintro p L w1 ⟨hsz, hB, v, r⟩ hk
        have L14 : L 14 = false := hk.1
        rw [L14] at r
        try simp only [cond_true, cond_false] at r
        exact r
      · rintro p L w1 ⟨hsz, hB, v, r⟩ hk
        have L14 : L 14 = false := hk.1
        skip
        refine ⟨(by simpa using hsz), Below.setRow hB (by first | exact Nat.le_trans hW0 hp.1 | exact ge_r | omega | (have := hB.size; simp at this ⊢; omega)) _, v.rowOther (by first | exact ne_v_r | exact Ne.symm ne_r_v | omega) _, ?_⟩
        rw [show upL L 14 14 = true from rfl]
        exact r.row _
    refine stepV 15 rfl rfl (fun _ _ _ h => h) ?_ ?_
    · intros; go_simp; exact ⟨rfl, rfl⟩
    exact AllI.nil
  case hV0 => exact fun p q => AllI.nil
  case he =>
  clear hB v r
  rintro p w2r ⟨hsz, hB, v, r⟩
  replace r : blk w2r (w.heap.size + 1) (qfn (allocF d 2)) 22 := r
  clear lt_v lt_r hsz hW0
  go_wp2_with (fail)
  refine bodyPost_ret (results_vec rfl _ _ _ _ _ _ _ rfl r Try.underlying22 rfl (by first | kernel_rfl | (rw [qfn_size]; kernel_rfl))) rfl ?_
  refine ⟨?_, hB⟩
  rfl
set_option maxRecDepth 100000 in
set_option maxHeartbeats 4000000 in
theorem wall_3 (d : Nat → Int) (w : World) (hv : okV d = true) : Calls Try.prog 181 #[.agg (vfn d), .int .i64 3] w fun e w' => e = .returned (.tuple #[.agg (qfn (allocF d 3)), .int .i64 0]) ∧ Below w.heap.size w w' := by
  have VA := Lib.hid (fun w => valid_any d w)
  rw [hv] at VA
  have IS := Lib.hid (fun w => is_any 3 w)
  rw [show isW 3 = true from by decide] at IS
  have bd := okV_bd hv
  have hz : allocZ d 3 = 0 := rfl
  have s0 : IntKind.i64.wrap (d 0 - 0) = allocF d 3 0 := by have := bd 0 (by omega); have := bd 0 (by omega); have := bd 1 (by omega); have := bd 2 (by omega); rw [IntKind.wrap_i64]; show _ = d 0 - allocZ d 3; rw [hz]; omega
  have s1 : IntKind.i64.wrap (d 1 - 0) = allocF d 3 1 := by have := bd 1 (by omega); have := bd 0 (by omega); have := bd 1 (by omega); have := bd 2 (by omega); rw [IntKind.wrap_i64]; show _ = d 1 - allocZ d 3; rw [hz]; omega
  have s2 : IntKind.i64.wrap (d 2 - 0) = allocF d 3 2 := by have := bd 2 (by omega); have := bd 0 (by omega); have := bd 1 (by omega); have := bd 2 (by omega); rw [IntKind.wrap_i64]; show _ = d 2 - allocZ d 3; rw [hz]; omega
  have s3 := Lib.hid (show 0 = allocF d 3 3 from hz.symm)
  rw [Int.sub_zero] at s0
  rw [Int.sub_zero] at s1
  rw [Int.sub_zero] at s2
  clear bd hz
  go_enter Try.func181, Try.ntmps181
  go_upto_region 1 with (fail)
  simp only [zero_spd]
  have v : blk ((w.alloc (.cells (vfn d) 31)).alloc (.cells (qfn fun _ => 0) 22)) w.heap.size (vfn d) 31 := (blk.new _ _ _).alloc _
  have r : blk ((w.alloc (.cells (vfn d) 31)).alloc (.cells (qfn fun _ => 0) 22)) (w.heap.size + 1) (qfn fun _ => 0) 22 := blk.new' (by simp)
  have hB : Below w.heap.size w ((w.alloc (.cells (vfn d) 31)).alloc (.cells (qfn fun _ => 0) 22)) := by go_grown
  generalize ((w.alloc (.cells (vfn d) 31)).alloc (.cells (qfn fun _ => 0) 22)) = w0 at *
  have hc0 : ∀ w1, blk w1 w.heap.size (vfn d) 31 → w1.cell? ⟨w.heap.size, 0, none⟩ = some (.int .i64 (d 0)) := fun w1 hv => hv.cellIs (vfn_get d (by omega))
  replace hc0 := Lib.hid hc0
  have hc1 : ∀ w1, blk w1 w.heap.size (vfn d) 31 → w1.cell? ⟨w.heap.size, 1, none⟩ = some (.int .i64 (d 1)) := fun w1 hv => hv.cellIs (vfn_get d (by omega))
  replace hc1 := Lib.hid hc1
  have hc2 : ∀ w1, blk w1 w.heap.size (vfn d) 31 → w1.cell? ⟨w.heap.size, 2, none⟩ = some (.int .i64 (d 2)) := fun w1 hv => hv.cellIs (vfn_get d (by omega))
  replace hc2 := Lib.hid hc2
  go_upto_region 3 with (first
    | (refine wpList_load_rowG ?hw _ _ rfl _ rfl _ _ _ _ v Try.underlying31 rfl ?hi ?_; (case hw => (first | rfl | (simp [Region.wanted, yielded]; done))); (case hi => (first | kernel_rfl | (rw [vfn_size]; kernel_rfl))))
    | (go_at_call 78; with_reducible refine (VA.out _).mono ?_; rintro e w1 ⟨rfl, hb⟩; replace hB := hB.trans (hb.mono hB.size); replace v := v.below hb v.lt; replace r := r.below hb r.lt; clear hb)
    | (go_at_call 178; with_reducible refine (IS.out _).mono ?_; rintro e w2 ⟨rfl, hb⟩; replace hB := hB.trans (hb.mono hB.size); replace v := v.below hb v.lt; replace r := r.below hb r.lt; clear hb))
  have q0 := hc0.out _ v
  have q1 := hc1.out _ v
  have q2 := hc2.out _ v
  go_upto_region 11 with (fail)
  clear q0 q1 q2 hc0 hc1 hc2 VA IS
  have lt_v := v.lt
  have lt_r := r.lt
  have hW0 : w.heap.size ≤ w2.heap.size := by simpa using hB.size
  apply wp_region_Q 16 [0, 1, 3, 7, 15, 31, 63, 127, 255, 511, 1023, 2047, 4095, 8191, 16383, 32767] [] [_, _, _, _, _, _, _, _, _, _, _, _, _, _, (fun _ => undef), _] (fun p L w' => w2.heap.size ≤ w'.heap.size ∧ Below w.heap.size w w' ∧ blk w' w.heap.size (vfn d) 31 ∧ blk w' (w.heap.size + 1) (bif L 14 then (qfn (allocF d 3)) else (qfn fun _ => 0)) 22) _ [(0, 42), (1, 43), (2, 44), (3, 45), (4, 46), (5, 47), (6, 48), (7, 49), (8, 50), (9, 51), (10, 52), (11, 53), (12, 54), (13, 55), (15, 5)] [0, 1, 2, 3, 4, 5, 6, 7, 8, 9, 10, 11, 12, 13, 14, 15]
  case hn => rfl
  case hB => kernel_rfl
  case hds => kernel_rfl
  case hA => (intro p; simp only [putsD, Act.put, sIT, sCZ, sCS, gCZ, gCS]; exact rfl)
  case h0 => exact fun p => ⟨Nat.le_refl _, hB, v, r⟩
  case hmore => exact fun p L w1 w2 ⟨hsz, hB, v, r⟩ hm => ⟨Nat.le_trans hsz hm.size, hB.trans (hm.mono (Nat.le_trans hW0 hsz)), v.below hm v.lt, r.below hm r.lt⟩
  case hs =>
    intro more
    refine stepV 0 rfl rfl (fun _ _ _ h => h) ?_ ?_
    · intros; go_simp; exact ⟨rfl, rfl⟩
    refine stepV 1 rfl rfl (fun _ _ _ h => h) ?_ ?_
    · rintro p L w1 ⟨hsz, hB, v, r⟩ hk
      have L14 : L 14 = false := hk.2.2 14 rfl
      have hc : w1.cell? ⟨w.heap.size, 0, none⟩ = some (.int .i64 (d 0)) := v.cellIs (vfn_get _ (by omega))
      go_simp
      exact ⟨rfl, rfl⟩
    refine stepV 2 rfl rfl (fun _ _ _ h => h) ?_ ?_
    · intros; go_simp; exact ⟨rfl, rfl⟩
    refine stepV 3 rfl rfl (fun _ _ _ h => h) ?_ ?_
    · intros; go_simp; exact ⟨rfl, rfl⟩
    refine stepV 4 rfl rfl (fun _ _ _ h => h) ?_ ?_
    · intros; go_simp; exact ⟨rfl, rfl⟩
    refine stepV 5 rfl rfl (fun _ _ _ h => h) ?_ ?_
    · rintro p L w1 ⟨hsz, hB, v, r⟩ hk
      have L14 : L 14 = false := hk.2.2 14 rfl
      have hc : w1.cell? ⟨w.heap.size, 1, none⟩ = some (.int .i64 (d 1)) := v.cellIs (vfn_get _ (by omega))
      go_simp
      exact ⟨rfl, rfl⟩
    refine stepV 6 rfl rfl (fun _ _ _ h => h) ?_ ?_
    · intros; go_simp; exact ⟨rfl, rfl⟩
    refine stepV 7 rfl rfl (fun _ _ _ h => h) ?_ ?_
    · intros; go_simp; exact ⟨rfl, rfl⟩
    refine stepV 8 rfl rfl (fun _ _ _ h => h) ?_ ?_
    · intros; go_simp; exact ⟨rfl, rfl⟩
    refine stepV 9 rfl rfl (fun _ _ _ h => h) ?_ ?_
    · rintro p L w1 ⟨hsz, hB, v, r⟩ hk
      have L14 : L 14 = false := hk.2.2 14 rfl
      have hc : w1.cell? ⟨w.heap.size, 2, none⟩ = some (.int .i64 (d 2)) := v.cellIs (vfn_get _ (by omega))
      go_simp
      exact ⟨rfl, rfl⟩
    refine stepV 10 rfl rfl (fun _ _ _ h => h) ?_ ?_
    · intros; go_simp; exact ⟨rfl, rfl⟩
    refine stepV 11 rfl rfl (fun _ _ _ h => h) ?_ ?_
    · intros; go_simp; exact ⟨rfl, rfl⟩
    refine stepV 12 rfl rfl (fun _ _ _ h => h) ?_ ?_
    · intros; go_simp; exact ⟨rfl, rfl⟩
    refine AllI.cons ?_ ?_
    · refine stepI_val 13 rfl (fun p => rfl) ?_ (fun _ _ _ h => h)
      intros; go_simp; exact ⟨congrArg Value.agg (alloc_of s3), rfl⟩
    refine AllI.cons ?_ ?_
    · refine stepI_store 14 rfl (fun p => rfl) (fun p => rfl) _ _ _ rfl (fun _ => (w.heap.size + 1)) 0 (fun p => rfl) (fun p => (qfn (allocF d 3))) (fun p => rfl) (fun p => (qfn fun _ => 0)) (fun p => (qfn (allocF d 3))) 22 (fun p => over_qq _ _) (fun p => by first | (rw [qfn_size, qfn_size]; decide) | simp [qfn_size, qfn_size]) (fun p => by rw [qfn_size]; kernel_rfl) (fun p => qfn_one _) ?_ ?_
      · rintro p L w1 ⟨hsz, hB, v, r⟩ hk
        have L14 : L 14 = false := hk.1
        rw [L14] at r
        try simp only [cond_true, cond_false] at r
        exact r
      · rintro p L w1 ⟨hsz, hB, v, r⟩ hk
        have L14 : L 14 = false := hk.1
        skip
        refine ⟨(by simpa using hsz), Below.setRow hB (by first | exact Nat.le_trans hW0 hp.1 | exact ge_r | omega | (have := hB.size; simp at this ⊢; omega)) _, v.rowOther (by first | exact ne_v_r | exact Ne.symm ne_r_v | omega) _, ?_⟩
        rw [show upL L 14 14 = true from rfl]
        exact r.row _
    refine stepV 15 rfl rfl (fun _ _ _ h => h) ?_ ?_
    · intros; go_simp; exact ⟨rfl, rfl⟩
    exact AllI.nil
  case hV0 => exact fun p q => AllI.nil
  case he =>
  clear hB v r
  rintro p w2r ⟨hsz, hB, v, r⟩
  replace r : blk w2r (w.heap.size + 1) (qfn (allocF d 3)) 22 := r
  clear lt_v lt_r hsz hW0
  go_wp2_with (fail)
  refine bodyPost_ret (results_vec rfl _ _ _ _ _ _ _ rfl r Try.underlying22 rfl (by first | kernel_rfl | (rw [qfn_size]; kernel_rfl))) rfl ?_
  refine ⟨?_, hB⟩
  rfl
def allE (d : Nat → Int) (f : Int) : Int := if okV d && isW f then 0 else 2
def allF (d : Nat → Int) (f : Int) : Nat → Int := if okV d && isW f then allocF d f else fun _ => 0
theorem wall_any (d : Nat → Int) (f : Int) (w : World) : Calls Try.prog 181 #[.agg (vfn d), .int .i64 f] w fun e w' => e = .returned (.tuple #[.agg (qfn (allF d f)), .int .i64 (allE d f)]) ∧ Below w.heap.size w w' := by
  unfold allF allE
  cases hv : okV d with
  | false => exact wall_no1 d f w hv
  | true =>
    cases hf : isW f with
    | false => exact wall_no2 d f w hv hf
    | true =>
      have h1 := hf
      simp only [isW, Bool.and_eq_true, decide_eq_true_eq] at h1
      rcases (show f = -1 ∨ f = 0 ∨ f = 1 ∨ f = 2 ∨ f = 3 by omega) with rfl | rfl | rfl | rfl | rfl
      · exact wall_m d w hv
      · exact wall_0 d w hv
      · exact wall_1 d w hv
      · exact wall_2 d w hv
      · exact wall_3 d w hv
end Go.Proofs.Ytkmelddejdikgaa
