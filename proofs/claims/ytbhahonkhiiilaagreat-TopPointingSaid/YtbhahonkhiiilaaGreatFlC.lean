/-
  The filter of the package: Correct.
-/
import Derived.Test.YtbhahonkhiiilaaGreatMc
import Derived.Test.YtbhahonkhiiilaaGreatMac
import Derived.Test.YtbhahonkhiiilaaGreatGyB
import Derived.Test.YtbhahonkhiiilaaGreatTurn
set_option linter.unusedSimpArgs false
set_option linter.unusedVariables false
set_option maxHeartbeats 6000000
set_option maxRecDepth 100000
namespace Go.Proofs.YtbhahonkhiiilaaGreat
open Go.RowKit PM Dt
def bO (p:Nat->Int):Nat->Int:=fun i=>p (i+1)
theorem mw (p:Nat->Int):#[Value.int .i64 (p 1),.int .i64 (p 2),.int .i64 (p 3)]=ah (bO p):=by unfold ah bO;rfl
def Ji (A:Nat->Int):Array Value:=#[.int .i64 (A 0),.int .i64 (A 1),.int .i64 (A 2)]
def p7 (B p:Nat->Int):Nat->Int:=fun i=>aI (ec (fq (cu B (aS p 32)) (cu B (aS p 32)) (cu B (aS p 32))) 1 i) (-16777216) 16777216
theorem Dy (f g:Nat->Int):∀i,i<3->-4398046511104<=cu f g i/\cu f g i<=4398046511104:=by
 intro i hi
 have h0:-4398046511104<=(0:Int)/\(0:Int)<=4398046511104:=⟨oa,oa⟩
 unfold cu
 split
 ·unfold iV
  split
  ·rename_i h
   have:=(bE _).1 ((bK _).1 h i hi)
   exact⟨oa,oa⟩
  ·exact h0
 ·exact h0
theorem C7 {A:Nat->Int} (hA:∀i,i<3->-4398046511104<=A i/\A i<=4398046511104):∀k,k<1->∀j,j<3->-4398046511104<=fq A A A k j/\fq A A A k j<=4398046511104:=by
 intro k hk j hj
 unfold fq
 split
 ·exact hA j hj
 ·split<;>exact hA j hj
theorem Lj:bu 0:=⟨oa,oa⟩
theorem Iu (f g:Nat->Int):∀i,i<4->bu (am f g i):=by
 intro i hi
 have h0:bu 0:=Lj
 have h1:=uJ (cw f) g hi
 unfold am
 split
 ·unfold qF
  split
  ·unfold jH;exact⟨oa,oa⟩
  ·exact⟨oa,oa⟩
 ·exact h0
theorem CA (f g:Nat->Int):∀i,i<3->bu (bO (am f g) i):=fun i hi=>Iu f g (i+1) oa
theorem FV (Q B q:Nat->Int) (b:Nat) (w:World) (hg:af w b (bU (Q,B)) 85) (hz:zQ Q=false) (hQ:∀i,i<4->bu (Q i)) (hq:∀i,i<4->bu (q i)) (hb:fF Q q=2):Calls Tryz.prog 21 #[.pointer (some ⟨b,0,none⟩),.agg (aj q)] w fun e w'=>e=.returned (.int .i64 2)/\Below w.heap.size w w':=by
 have NN:=aa (fun w' (hb:Below w.heap.size w w')=>iq Q B b w' (hg.below hb hg.lt))
 rw[hz]at NN
 have BE:=aa (fun w=>gQ Q q w hQ hq)
 rw[hb]at BE
 clear hb
 have hgl:=hg.lt
 clear hQ hq
 go_enter Tryz.func21,Tryz.ntmps21
 go_upto_region 1 with(fail)
 have v:af (w.alloc (.cells (aj q) 23)) w.heap.size (aj q) 23:=af.new _ _ _
 have hB:Below w.heap.size w (w.alloc (.cells (aj q) 23)):=by go_grown
 generalize(w.alloc (.cells (aj q) 23))=w0 at *
 go_upto_region 3 with(first
  |(refine ac ?hw _ _ rfl _ rfl _ _ _ _ v yb rfl ?hi ?_;(case hw=>exact rW);(case hi=>exact rI))
  |(go_at_call 54;with_reducible refine(NN.out _ hB).mono ?_;rintro e w9 ⟨rfl,rfl⟩))
 have f:af w0 b (bU (Q,B)) 85:=hg.below hB hg.lt
 clear hg
 have ne_v_f:w.heap.size≠b:=oa
 have lt_v:=v.lt
 have lt_f:=f.lt
 have hW0:w.heap.size<=w0.heap.size:=by simpa using hB.size
 apply a_ 12 [0,1,3,7,0,31,63,127,127,0,767,2047] [9] [_,_,_,_,_,_,_,_,_,(fun p=>.pointer (some ⟨p 9,0,none⟩)),(fun _=>undef),_] (fun p L w'=>w0.heap.size<=w'.heap.size/\Below w.heap.size w w'/\af w' w.heap.size (aj q) 23/\af w' b (bU (Q,B)) 85/\(L 9=true->w0.heap.size<=p 9/\af w' (p 9) (bif L 10 then(aj (am Q q))else(aj fun _=>0)) 23)) _ [(0,13),(1,14),(2,15),(3,16),(4,17),(5,18),(6,12),(7,19),(8,20),(9,5),(11,6)] [0,1,2,3,4,5,6,7,8,9,10,11]
 case hn|hm|hB|hds|hA=>exact rA
 case h0=>exact rH
 case hmore=>exact rM
 case hs=>
  intro more
  refine aH ?_
  refine aH ?_
  refine aH ?_
  refine cm ?_ ?_
  ·rintro p L w1 ⟨hsz,hB,v,f,h_d⟩ hk
   exact aO _ _ rfl _ 0 rfl _ _ f (aj Q) (qQ Q B) _ yb rfl rI rfl
  refine cm ?_ ?_
  ·rintro p L w1 ⟨hsz,hB,v,f,h_d⟩ hk
   first|exact br _ _ rfl _ rfl _ _ v _ yb rfl rI rfl|(have hc:=v.cellIs (aD _ (show 0<4 by omega));go_simp;exact⟨rfl,rfl⟩)
  refine bS 5 rfl (fun p=>rfl) (fun _ _ _ h=>h) more ?_ ?_
  ·rintro p L w1 ⟨hsz,hB,v,f,h_d⟩ hk
   go_simp
   exact(BE.out _).mono rC
  refine aH ?_
  refine aH ?_
  refine aH ?_
  refine aw.cons ?_ ?_
  ·refine aP 9 rfl (fun p=>rfl) rfl (aj fun _=>0) 23 (fun p=>rfl) ?_ ?_
   ·exact rZ
   rintro p L w1 ⟨hsz,hB,v,f,h_d⟩ hk
   have L10:L 10=false:=hk.2.2 10 rfl
   refine⟨nk hsz sd,hB.alloc (nk hW0 hsz) _,v.alloc _,f.alloc _,fun _=>⟨hsz,?_⟩⟩
   rw[show cD L 9 10=false from L10]
   exact af.new _ _ _
  refine aw.cons ?_ ?_
  ·refine aA 10 rfl (fun p=>rfl) (fun p=>rfl) _ _ _ rfl (fun p=>p 9) 0 (fun p=>rfl) (fun p=>(aj (am Q q))) (fun p=>rfl) (fun p=>(aj fun _=>0)) (fun p=>(aj (am Q q))) 23 (fun p=>dKz _ _) (fun p=>by first|(rw[ak,ak];decide)|simp[ak,ak]) (fun p=>by rw[ak];kernel_rfl) (fun p=>bF _) ?_ ?_
   ·rintro p L w1 ⟨hsz,hB,v,f,h_d⟩ hk
    exact cg (h_d (hk.2.1 9 rfl)).2 hk.1
   ·rintro p L w1 ⟨hsz,hB,v,f,h_d⟩ hk
    have hp:=h_d (hk.2.1 9 rfl)
    refine⟨(by simpa using hsz),Below.setRow hB (nk hW0 hp.1) _,v.rowOther (nL lt_v hp.1) _,f.rowOther (nL lt_f hp.1) _,fun _=>⟨hp.1,?_⟩⟩
    rw[show cD L 10 10=true from rfl]
    exact hp.2.row _
  refine aH ?_
  exact aw.nil
 case hV0=>exact rV
 case he=>
 clear hB v f
 rintro p w0r ⟨hsz,hB,v,f,h_d⟩
 obtain⟨le_d,d⟩:=h_d rfl
 clear h_d
 replace d:af w0r (p 9) (aj (am Q q)) 23:=d
 have ne_v_d:w.heap.size≠p 9:=nN (nq lt_v le_d)
 have ne_f_d:b≠p 9:=nN (nq lt_f le_d)
 have ge_d:w.heap.size<=p 9:=nk hW0 le_d
 generalize p 9=d_b at *
 clear lt_v lt_f hsz hW0
 have ne_d_f:d_b≠b:=Ne.symm ne_f_d
 go_wp2_with (fail)
 go_ret
 exact⟨rfl,hB⟩
theorem Du (Q B q:Nat->Int) (b:Nat) (w:World) (hg:af w b (bU (Q,B)) 85) (hz:zQ Q=false) (hQ:∀i,i<4->bu (Q i)) (hq:∀i,i<4->bu (q i)) (hb:fF Q q=0) (hw:aE (bO (am Q q)) 1048576=false):Calls Tryz.prog 21 #[.pointer (some ⟨b,0,none⟩),.agg (aj q)] w fun e w'=>e=.returned (.int .i64 0)/\Below w.heap.size (w.setRow b (bU ((fL Q (aS (bO (am Q q)) 4)),B))) w':=by
 have NN:=aa (fun w' (hb:Below w.heap.size w w')=>iq Q B b w' (hg.below hb hg.lt))
 rw[hz]at NN
 have BE:=aa (fun w=>gQ Q q w hQ hq)
 rw[hb]at BE
 clear hb
 have PA:=aa (fun d w (hd:bu d)=>pz (bO (am Q q)) d w (CA Q q) hd)
 have WI:=aa (fun w=>gG (bO (am Q q)) 1048576 w oa oa)
 rw[hw]at WI
 clear hw
 have FT:=aa (fun(w1:World) (h1:af w1 b (bU (Q,B)) 85)=>mz Q B (aS (bO (am Q q)) 4) b w1 h1 hQ (sf _ _))
 have hgl:=hg.lt
 clear hQ hq
 go_enter Tryz.func21,Tryz.ntmps21
 go_upto_region 1 with(fail)
 have v:af (w.alloc (.cells (aj q) 23)) w.heap.size (aj q) 23:=af.new _ _ _
 have hB:Below w.heap.size w (w.alloc (.cells (aj q) 23)):=by go_grown
 generalize(w.alloc (.cells (aj q) 23))=w0 at *
 go_upto_region 3 with(first
  |(refine ac ?hw _ _ rfl _ rfl _ _ _ _ v yb rfl ?hi ?_;(case hw=>exact rW);(case hi=>exact rI))
  |(go_at_call 54;with_reducible refine(NN.out _ hB).mono ?_;rintro e w9 ⟨rfl,rfl⟩))
 have f:af w0 b (bU (Q,B)) 85:=hg.below hB hg.lt
 clear hg
 have ne_v_f:w.heap.size≠b:=oa
 have lt_v:=v.lt
 have lt_f:=f.lt
 have hW0:w.heap.size<=w0.heap.size:=by simpa using hB.size
 apply a_ 12 [0,1,3,7,0,31,63,127,127,0,767,2047] [9] [_,_,_,_,_,_,_,_,_,(fun p=>.pointer (some ⟨p 9,0,none⟩)),(fun _=>undef),_] (fun p L w'=>w0.heap.size<=w'.heap.size/\Below w.heap.size w w'/\af w' w.heap.size (aj q) 23/\af w' b (bU (Q,B)) 85/\(L 9=true->w0.heap.size<=p 9/\af w' (p 9) (bif L 10 then(aj (am Q q))else(aj fun _=>0)) 23)) _ [(0,13),(1,14),(2,15),(3,16),(4,17),(5,18),(6,12),(7,19),(8,20),(9,5),(11,6)] [0,1,2,3,4,5,6,7,8,9,10,11]
 case hn|hm|hB|hds|hA=>exact rA
 case h0=>exact rH
 case hmore=>exact rM
 case hs=>
  intro more
  refine aH ?_
  refine aH ?_
  refine aH ?_
  refine cm ?_ ?_
  ·rintro p L w1 ⟨hsz,hB,v,f,h_d⟩ hk
   exact aO _ _ rfl _ 0 rfl _ _ f (aj Q) (qQ Q B) _ yb rfl rI rfl
  refine cm ?_ ?_
  ·rintro p L w1 ⟨hsz,hB,v,f,h_d⟩ hk
   first|exact br _ _ rfl _ rfl _ _ v _ yb rfl rI rfl|(have hc:=v.cellIs (aD _ (show 0<4 by omega));go_simp;exact⟨rfl,rfl⟩)
  refine bS 5 rfl (fun p=>rfl) (fun _ _ _ h=>h) more ?_ ?_
  ·rintro p L w1 ⟨hsz,hB,v,f,h_d⟩ hk
   go_simp
   exact(BE.out _).mono rC
  refine aH ?_
  refine aH ?_
  refine aH ?_
  refine aw.cons ?_ ?_
  ·refine aP 9 rfl (fun p=>rfl) rfl (aj fun _=>0) 23 (fun p=>rfl) ?_ ?_
   ·exact rZ
   rintro p L w1 ⟨hsz,hB,v,f,h_d⟩ hk
   have L10:L 10=false:=hk.2.2 10 rfl
   refine⟨nk hsz sd,hB.alloc (nk hW0 hsz) _,v.alloc _,f.alloc _,fun _=>⟨hsz,?_⟩⟩
   rw[show cD L 9 10=false from L10]
   exact af.new _ _ _
  refine aw.cons ?_ ?_
  ·refine aA 10 rfl (fun p=>rfl) (fun p=>rfl) _ _ _ rfl (fun p=>p 9) 0 (fun p=>rfl) (fun p=>(aj (am Q q))) (fun p=>rfl) (fun p=>(aj fun _=>0)) (fun p=>(aj (am Q q))) 23 (fun p=>dKz _ _) (fun p=>by first|(rw[ak,ak];decide)|simp[ak,ak]) (fun p=>by rw[ak];kernel_rfl) (fun p=>bF _) ?_ ?_
   ·rintro p L w1 ⟨hsz,hB,v,f,h_d⟩ hk
    exact cg (h_d (hk.2.1 9 rfl)).2 hk.1
   ·rintro p L w1 ⟨hsz,hB,v,f,h_d⟩ hk
    have hp:=h_d (hk.2.1 9 rfl)
    refine⟨(by simpa using hsz),Below.setRow hB (nk hW0 hp.1) _,v.rowOther (nL lt_v hp.1) _,f.rowOther (nL lt_f hp.1) _,fun _=>⟨hp.1,?_⟩⟩
    rw[show cD L 10 10=true from rfl]
    exact hp.2.row _
  refine aH ?_
  exact aw.nil
 case hV0=>exact rV
 case he=>
 clear hB v f
 rintro p w0r ⟨hsz,hB,v,f,h_d⟩
 obtain⟨le_d,d⟩:=h_d rfl
 clear h_d
 replace d:af w0r (p 9) (aj (am Q q)) 23:=d
 have ne_v_d:w.heap.size≠p 9:=nN (nq lt_v le_d)
 have ne_f_d:b≠p 9:=nN (nq lt_f le_d)
 have ge_d:w.heap.size<=p 9:=nk hW0 le_d
 generalize p 9=d_b at *
 clear lt_v lt_f hsz hW0
 have ne_d_f:d_b≠b:=Ne.symm ne_f_d
 generalize hD:am Q q=D at *
 go_upto_region 6 with(fail)
 have lt_v:=v.lt
 have lt_f:=f.lt
 have lt_d:=d.lt
 have hW0:w.heap.size<=w0r.heap.size:=by simpa using hB.size
 apply ay 9 [0,1,3,7,15,31,63,127,255] [7] [_,_,_,_,_,_,_,(fun p=>.pointer (some ⟨p 7,0,none⟩)),(fun _=>undef)] (fun p L w'=>w0r.heap.size<=w'.heap.size/\Below w.heap.size w w'/\af w' w.heap.size (aj q) 23/\af w' b (bU (Q,B)) 85/\af w' d_b (aj D) 23/\(L 7=true->w0r.heap.size<=p 7/\af w' (p 7) (bif L 8 then(ah (bO D))else(ah fun _=>0)) 25)) _ [(0,23),(1,24),(2,25),(3,26),(4,27),(5,28),(6,29),(7,7)] [0,1,2,3,4,5,6,7,8]
 case hn|hB|hds|hA=>exact rA
 case h0=>exact rH
 case hmore=>exact rM
 case hs=>
  intro more
  refine aH ?_
  refine cm ?_ ?_
  ·rintro p L w1 ⟨hsz,hB,v,f,d,h_o⟩ hk
   first|exact br _ _ rfl _ rfl _ _ d _ yb rfl rI rfl|(have hc:=d.cellIs (aD _ (show 1<4 by omega));go_simp;exact⟨rfl,rfl⟩)
  refine aH ?_
  refine cm ?_ ?_
  ·rintro p L w1 ⟨hsz,hB,v,f,d,h_o⟩ hk
   first|exact br _ _ rfl _ rfl _ _ d _ yb rfl rI rfl|(have hc:=d.cellIs (aD _ (show 2<4 by omega));go_simp;exact⟨rfl,rfl⟩)
  refine aH ?_
  refine cm ?_ ?_
  ·rintro p L w1 ⟨hsz,hB,v,f,d,h_o⟩ hk
   first|exact br _ _ rfl _ rfl _ _ d _ yb rfl rI rfl|(have hc:=d.cellIs (aD _ (show 3<4 by omega));go_simp;exact⟨rfl,rfl⟩)
  refine cm ?_ ?_
  ·intros;try simp only[ah,aj];go_simp;exact⟨rfl,rfl⟩
  refine aw.cons ?_ ?_
  ·refine aP 7 rfl (fun p=>rfl) rfl (ah fun _=>0) 25 (fun p=>rfl) ?_ ?_
   ·exact rZ
   rintro p L w1 ⟨hsz,hB,v,f,d,h_o⟩ hk
   have L8:L 8=false:=hk.2.2 8 rfl
   refine⟨nk hsz sd,hB.alloc (nk hW0 hsz) _,v.alloc _,f.alloc _,d.alloc _,fun _=>⟨hsz,?_⟩⟩
   rw[show cD L 7 8=false from L8]
   exact af.new _ _ _
  refine aw.cons ?_ ?_
  ·refine aA 8 rfl (fun p=>rfl) (fun p=>rfl) _ _ _ rfl (fun p=>p 7) 0 (fun p=>rfl) (fun p=>(ah (bO D))) (fun p=>congrArg Value.agg (mw D)) (fun p=>(ah fun _=>0)) (fun p=>(ah (bO D))) 25 (fun p=>dHz _ _) (fun p=>by first|(rw[ad,ad];decide)|simp[ad,ad]) (fun p=>by rw[ad];kernel_rfl) (fun p=>aG _) ?_ ?_
   ·rintro p L w1 ⟨hsz,hB,v,f,d,h_o⟩ hk
    exact cg (h_o (hk.2.1 7 rfl)).2 hk.1
   ·rintro p L w1 ⟨hsz,hB,v,f,d,h_o⟩ hk
    have hp:=h_o (hk.2.1 7 rfl)
    refine⟨(by simpa using hsz),Below.setRow hB (nk hW0 hp.1) _,v.rowOther (nL lt_v hp.1) _,f.rowOther (nL lt_f hp.1) _,d.rowOther (nL lt_d hp.1) _,fun _=>⟨hp.1,?_⟩⟩
    rw[show cD L 8 8=true from rfl]
    exact hp.2.row _
  exact aw.nil
 case hV0=>exact rV
 case he=>
 clear hB v f d
 rintro p w0rr ⟨hsz,hB,v,f,d,h_o⟩
 obtain⟨le_o,o⟩:=h_o rfl
 clear h_o
 replace o:af w0rr (p 7) (ah (bO D)) 25:=o
 have ne_v_o:w.heap.size≠p 7:=nN (nq lt_v le_o)
 have ne_f_o:b≠p 7:=nN (nq lt_f le_o)
 have ne_d_o:d_b≠p 7:=nN (nq lt_d le_o)
 have ge_o:w.heap.size<=p 7:=nk hW0 le_o
 generalize p 7=o_b at *
 clear lt_v lt_f lt_d hsz hW0
 have ne_o_f:o_b≠b:=Ne.symm ne_f_o
 go_upto_region 7 with(fail)
 have lt_v:=v.lt
 have lt_f:=f.lt
 have lt_d:=d.lt
 have lt_o:=o.lt
 have hW0:w.heap.size<=w0rr.heap.size:=by simpa using hB.size
 apply ay 4 [0,1,3,7] [] [_,_,_,_] (fun p L w'=>w0rr.heap.size<=w'.heap.size/\Below w.heap.size (bif L 3 then w.setRow b (bU ((fL Q (aS (bO D) 4)),B))else w) w'/\af w' w.heap.size (aj q) 23/\af w' b (bif L 3 then(bU ((fL Q (aS (bO D) 4)),B))else(bU (Q,B))) 85/\af w' d_b (aj D) 23/\af w' o_b (ah (bO D)) 25) _ [(0,30),(1,31),(2,32),(3,33)] [0,1,2,3]
 case hn|hB|hds|hA=>exact rA
 case h0=>exact rH
 case hmore=>exact rM
 case hs=>
  intro more
  refine aH ?_
  refine cm ?_ ?_
  ·rintro p L w1 ⟨hsz,hB,v,f,d,o⟩ hk
   first|exact br _ _ rfl _ rfl _ _ o _ yc rfl rI rfl|(have hc:=o.cellIs (az _ (show 0<3 by omega));go_simp;exact⟨rfl,rfl⟩)
  refine bS 2 rfl (fun p=>rfl) (fun _ _ _ h=>h) more ?_ ?_
  ·rintro p L w1 ⟨hsz,hB,v,f,d,o⟩ hk
   go_simp
   exact(PA.out 4 _ ⟨oa,oa⟩).mono rC
  refine aw.cons ?_ ?_
  ·refine gw 3 rfl (fun p=>rfl) (fun _=>b) (fun p=>(bU ((fL Q (aS (bO D) 4)),B))) ?_ ?_
   ·rintro p L w1 ⟨hsz,hB,v,f,d,o⟩ hk
    have L3:L 3=false:=hk.1
    rw[L3]at f
    try simp only[cond_true,cond_false]at f
    go_simp
    exact(FT.out _ f).mono rC
   ·rintro p L w1 w2 ⟨hsz,hB,v,f,d,o⟩ hk hm
    have L3:L 3=false:=hk.1
    refine⟨nk hsz (by have:=hm.size;simpa using this),?_,(v.rowOther ne_v_f _).below hm (by simpa using v.lt),?_,(d.rowOther ne_d_f _).below hm (by simpa using d.lt),(o.rowOther ne_o_f _).below hm (by simpa using o.lt)⟩
    ·rw[show cD L 3 3=true from rfl]
     rw[L3]at hB
     have hB2:=lM hB b (bU ((fL Q (aS (bO D) 4)),B))
     try simp only[cond_true,cond_false]at hB2|-
     try rw[setRow_setRow]at hB2
     exact hB2.trans (hm.mono (nk hW0 hsz))
    ·rw[show cD L 3 3=true from rfl]
     exact(f.row _).below hm (by simpa using f.lt)
  exact aw.nil
 case hV0=>exact fun p q=>aw.nil
 case he=>
 clear hB v f d o
 rintro p w0rrr ⟨hsz,hB,v,f,d,o⟩
 replace f:af w0rrr b (bU ((fL Q (aS (bO D) 4)),B)) 85:=f
 replace hB:Below w.heap.size (w.setRow b (bU ((fL Q (aS (bO D) 4)),B))) w0rrr:=hB
 clear lt_v lt_f lt_d lt_o hsz hW0
 go_upto_region 8 with(fail)
 have lt_v:=v.lt
 have lt_f:=f.lt
 have lt_d:=d.lt
 have lt_o:=o.lt
 have hW0:w.heap.size<=w0rrr.heap.size:=by simpa using hB.size
 apply ay 2 [0,1] [] [_,_] (fun p L w'=>w0rrr.heap.size<=w'.heap.size/\Below w.heap.size (w.setRow b (bU ((fL Q (aS (bO D) 4)),B))) w'/\af w' w.heap.size (aj q) 23/\af w' b (bU ((fL Q (aS (bO D) 4)),B)) 85/\af w' d_b (aj D) 23/\af w' o_b (ah (bO D)) 25) _ [(0,34),(1,35)] [0,1]
 case hn|hB|hds|hA=>exact rA
 case h0=>exact rH
 case hmore=>exact rM
 case hs=>
  intro more
  refine cm ?_ ?_
  ·rintro p L w1 ⟨hsz,hB,v,f,d,o⟩ hk
   first|exact br _ _ rfl _ rfl _ _ o _ yc rfl rI rfl|(have hc:=o.cellIs (az _ (show 0<3 by omega));go_simp;exact⟨rfl,rfl⟩)
  refine bS 1 rfl (fun p=>rfl) (fun _ _ _ h=>h) more ?_ ?_
  ·rintro p L w1 ⟨hsz,hB,v,f,d,o⟩ hk
   go_simp
   exact(WI.out _).mono rC
  exact aw.nil
 case hV0=>exact fun p q=>aw.nil
 case he=>
 clear hB v f d o
 rintro p w0rrrr ⟨hsz,hB,v,f,d,o⟩
 clear lt_v lt_f lt_d lt_o hsz hW0
 go_wp2_with (fail)
 go_ret
 subst hD
 exact⟨rfl,hB⟩
theorem B9 (Q B q:Nat->Int) (b:Nat) (w:World) (hg:af w b (bU (Q,B)) 85) (hz:zQ Q=false) (hQ:∀i,i<4->bu (Q i)) (hq:∀i,i<4->bu (q i)) (hb:fF Q q=0) (hw:aE (bO (am Q q)) 1048576=true) (hBb:∀i,i<3->-16777216<=B i/\B i<=16777216):Calls Tryz.prog 21 #[.pointer (some ⟨b,0,none⟩),.agg (aj q)] w fun e w'=>e=.returned (.int .i64 0)/\Below w.heap.size (w.setRow b (bU ((fL Q (aS (bO (am Q q)) 4)),p7 B (bO (am Q q))))) w':=by
 have NN:=aa (fun w' (hb:Below w.heap.size w w')=>iq Q B b w' (hg.below hb hg.lt))
 rw[hz]at NN
 have BE:=aa (fun w=>gQ Q q w hQ hq)
 rw[hb]at BE
 clear hb
 have PA:=aa (fun d w (hd:bu d)=>pz (bO (am Q q)) d w (CA Q q) hd)
 have WI:=aa (fun w=>gG (bO (am Q q)) 1048576 w oa oa)
 rw[hw]at WI
 clear hw
 have FT:=aa (fun(w1:World) (h1:af w1 b (bU (Q,B)) 85)=>mz Q B (aS (bO (am Q q)) 4) b w1 h1 hQ (sf _ _))
 have SU:=aa (fun w=>pH B (aS (bO (am Q q)) 32) w)
 have CL:=aa (fun b C t w (hb:af w b C t) hC=>nJ (fq (cu B (aS (bO (am Q q)) 32)) (cu B (aS (bO (am Q q)) 32)) (cu B (aS (bO (am Q q)) 32))) 1 16777216 b C t w hb hC oa (C7 (Dy _ _)) oa oa)
 have hgl:=hg.lt
 clear hQ hq
 go_enter Tryz.func21,Tryz.ntmps21
 go_upto_region 1 with(fail)
 have v:af (w.alloc (.cells (aj q) 23)) w.heap.size (aj q) 23:=af.new _ _ _
 have hB:Below w.heap.size w (w.alloc (.cells (aj q) 23)):=by go_grown
 generalize(w.alloc (.cells (aj q) 23))=w0 at *
 go_upto_region 3 with(first
  |(refine ac ?hw _ _ rfl _ rfl _ _ _ _ v yb rfl ?hi ?_;(case hw=>exact rW);(case hi=>exact rI))
  |(go_at_call 54;with_reducible refine(NN.out _ hB).mono ?_;rintro e w9 ⟨rfl,rfl⟩))
 have f:af w0 b (bU (Q,B)) 85:=hg.below hB hg.lt
 clear hg
 have ne_v_f:w.heap.size≠b:=oa
 have lt_v:=v.lt
 have lt_f:=f.lt
 have hW0:w.heap.size<=w0.heap.size:=by simpa using hB.size
 apply a_ 12 [0,1,3,7,0,31,63,127,127,0,767,2047] [9] [_,_,_,_,_,_,_,_,_,(fun p=>.pointer (some ⟨p 9,0,none⟩)),(fun _=>undef),_] (fun p L w'=>w0.heap.size<=w'.heap.size/\Below w.heap.size w w'/\af w' w.heap.size (aj q) 23/\af w' b (bU (Q,B)) 85/\(L 9=true->w0.heap.size<=p 9/\af w' (p 9) (bif L 10 then(aj (am Q q))else(aj fun _=>0)) 23)) _ [(0,13),(1,14),(2,15),(3,16),(4,17),(5,18),(6,12),(7,19),(8,20),(9,5),(11,6)] [0,1,2,3,4,5,6,7,8,9,10,11]
 case hn|hm|hB|hds|hA=>exact rA
 case h0=>exact rH
 case hmore=>exact rM
 case hs=>
  intro more
  refine aH ?_
  refine aH ?_
  refine aH ?_
  refine cm ?_ ?_
  ·rintro p L w1 ⟨hsz,hB,v,f,h_d⟩ hk
   exact aO _ _ rfl _ 0 rfl _ _ f (aj Q) (qQ Q B) _ yb rfl rI rfl
  refine cm ?_ ?_
  ·rintro p L w1 ⟨hsz,hB,v,f,h_d⟩ hk
   first|exact br _ _ rfl _ rfl _ _ v _ yb rfl rI rfl|(have hc:=v.cellIs (aD _ (show 0<4 by omega));go_simp;exact⟨rfl,rfl⟩)
  refine bS 5 rfl (fun p=>rfl) (fun _ _ _ h=>h) more ?_ ?_
  ·rintro p L w1 ⟨hsz,hB,v,f,h_d⟩ hk
   go_simp
   exact(BE.out _).mono rC
  refine aH ?_
  refine aH ?_
  refine aH ?_
  refine aw.cons ?_ ?_
  ·refine aP 9 rfl (fun p=>rfl) rfl (aj fun _=>0) 23 (fun p=>rfl) ?_ ?_
   ·exact rZ
   rintro p L w1 ⟨hsz,hB,v,f,h_d⟩ hk
   have L10:L 10=false:=hk.2.2 10 rfl
   refine⟨nk hsz sd,hB.alloc (nk hW0 hsz) _,v.alloc _,f.alloc _,fun _=>⟨hsz,?_⟩⟩
   rw[show cD L 9 10=false from L10]
   exact af.new _ _ _
  refine aw.cons ?_ ?_
  ·refine aA 10 rfl (fun p=>rfl) (fun p=>rfl) _ _ _ rfl (fun p=>p 9) 0 (fun p=>rfl) (fun p=>(aj (am Q q))) (fun p=>rfl) (fun p=>(aj fun _=>0)) (fun p=>(aj (am Q q))) 23 (fun p=>dKz _ _) (fun p=>by first|(rw[ak,ak];decide)|simp[ak,ak]) (fun p=>by rw[ak];kernel_rfl) (fun p=>bF _) ?_ ?_
   ·rintro p L w1 ⟨hsz,hB,v,f,h_d⟩ hk
    exact cg (h_d (hk.2.1 9 rfl)).2 hk.1
   ·rintro p L w1 ⟨hsz,hB,v,f,h_d⟩ hk
    have hp:=h_d (hk.2.1 9 rfl)
    refine⟨(by simpa using hsz),Below.setRow hB (nk hW0 hp.1) _,v.rowOther (nL lt_v hp.1) _,f.rowOther (nL lt_f hp.1) _,fun _=>⟨hp.1,?_⟩⟩
    rw[show cD L 10 10=true from rfl]
    exact hp.2.row _
  refine aH ?_
  exact aw.nil
 case hV0=>exact rV
 case he=>
 clear hB v f
 rintro p w0r ⟨hsz,hB,v,f,h_d⟩
 obtain⟨le_d,d⟩:=h_d rfl
 clear h_d
 replace d:af w0r (p 9) (aj (am Q q)) 23:=d
 have ne_v_d:w.heap.size≠p 9:=nN (nq lt_v le_d)
 have ne_f_d:b≠p 9:=nN (nq lt_f le_d)
 have ge_d:w.heap.size<=p 9:=nk hW0 le_d
 generalize p 9=d_b at *
 clear lt_v lt_f hsz hW0
 have ne_d_f:d_b≠b:=Ne.symm ne_f_d
 generalize hD:am Q q=D at *
 go_upto_region 6 with(fail)
 have lt_v:=v.lt
 have lt_f:=f.lt
 have lt_d:=d.lt
 have hW0:w.heap.size<=w0r.heap.size:=by simpa using hB.size
 apply ay 9 [0,1,3,7,15,31,63,127,255] [7] [_,_,_,_,_,_,_,(fun p=>.pointer (some ⟨p 7,0,none⟩)),(fun _=>undef)] (fun p L w'=>w0r.heap.size<=w'.heap.size/\Below w.heap.size w w'/\af w' w.heap.size (aj q) 23/\af w' b (bU (Q,B)) 85/\af w' d_b (aj D) 23/\(L 7=true->w0r.heap.size<=p 7/\af w' (p 7) (bif L 8 then(ah (bO D))else(ah fun _=>0)) 25)) _ [(0,23),(1,24),(2,25),(3,26),(4,27),(5,28),(6,29),(7,7)] [0,1,2,3,4,5,6,7,8]
 case hn|hB|hds|hA=>exact rA
 case h0=>exact rH
 case hmore=>exact rM
 case hs=>
  intro more
  refine aH ?_
  refine cm ?_ ?_
  ·rintro p L w1 ⟨hsz,hB,v,f,d,h_o⟩ hk
   first|exact br _ _ rfl _ rfl _ _ d _ yb rfl rI rfl|(have hc:=d.cellIs (aD _ (show 1<4 by omega));go_simp;exact⟨rfl,rfl⟩)
  refine aH ?_
  refine cm ?_ ?_
  ·rintro p L w1 ⟨hsz,hB,v,f,d,h_o⟩ hk
   first|exact br _ _ rfl _ rfl _ _ d _ yb rfl rI rfl|(have hc:=d.cellIs (aD _ (show 2<4 by omega));go_simp;exact⟨rfl,rfl⟩)
  refine aH ?_
  refine cm ?_ ?_
  ·rintro p L w1 ⟨hsz,hB,v,f,d,h_o⟩ hk
   first|exact br _ _ rfl _ rfl _ _ d _ yb rfl rI rfl|(have hc:=d.cellIs (aD _ (show 3<4 by omega));go_simp;exact⟨rfl,rfl⟩)
  refine cm ?_ ?_
  ·intros;try simp only[ah,aj];go_simp;exact⟨rfl,rfl⟩
  refine aw.cons ?_ ?_
  ·refine aP 7 rfl (fun p=>rfl) rfl (ah fun _=>0) 25 (fun p=>rfl) ?_ ?_
   ·exact rZ
   rintro p L w1 ⟨hsz,hB,v,f,d,h_o⟩ hk
   have L8:L 8=false:=hk.2.2 8 rfl
   refine⟨nk hsz sd,hB.alloc (nk hW0 hsz) _,v.alloc _,f.alloc _,d.alloc _,fun _=>⟨hsz,?_⟩⟩
   rw[show cD L 7 8=false from L8]
   exact af.new _ _ _
  refine aw.cons ?_ ?_
  ·refine aA 8 rfl (fun p=>rfl) (fun p=>rfl) _ _ _ rfl (fun p=>p 7) 0 (fun p=>rfl) (fun p=>(ah (bO D))) (fun p=>congrArg Value.agg (mw D)) (fun p=>(ah fun _=>0)) (fun p=>(ah (bO D))) 25 (fun p=>dHz _ _) (fun p=>by first|(rw[ad,ad];decide)|simp[ad,ad]) (fun p=>by rw[ad];kernel_rfl) (fun p=>aG _) ?_ ?_
   ·rintro p L w1 ⟨hsz,hB,v,f,d,h_o⟩ hk
    exact cg (h_o (hk.2.1 7 rfl)).2 hk.1
   ·rintro p L w1 ⟨hsz,hB,v,f,d,h_o⟩ hk
    have hp:=h_o (hk.2.1 7 rfl)
    refine⟨(by simpa using hsz),Below.setRow hB (nk hW0 hp.1) _,v.rowOther (nL lt_v hp.1) _,f.rowOther (nL lt_f hp.1) _,d.rowOther (nL lt_d hp.1) _,fun _=>⟨hp.1,?_⟩⟩
    rw[show cD L 8 8=true from rfl]
    exact hp.2.row _
  exact aw.nil
 case hV0=>exact rV
 case he=>
 clear hB v f d
 rintro p w0rr ⟨hsz,hB,v,f,d,h_o⟩
 obtain⟨le_o,o⟩:=h_o rfl
 clear h_o
 replace o:af w0rr (p 7) (ah (bO D)) 25:=o
 have ne_v_o:w.heap.size≠p 7:=nN (nq lt_v le_o)
 have ne_f_o:b≠p 7:=nN (nq lt_f le_o)
 have ne_d_o:d_b≠p 7:=nN (nq lt_d le_o)
 have ge_o:w.heap.size<=p 7:=nk hW0 le_o
 generalize p 7=o_b at *
 clear lt_v lt_f lt_d hsz hW0
 have ne_o_f:o_b≠b:=Ne.symm ne_f_o
 go_upto_region 7 with(fail)
 have lt_v:=v.lt
 have lt_f:=f.lt
 have lt_d:=d.lt
 have lt_o:=o.lt
 have hW0:w.heap.size<=w0rr.heap.size:=by simpa using hB.size
 apply ay 4 [0,1,3,7] [] [_,_,_,_] (fun p L w'=>w0rr.heap.size<=w'.heap.size/\Below w.heap.size (bif L 3 then w.setRow b (bU ((fL Q (aS (bO D) 4)),B))else w) w'/\af w' w.heap.size (aj q) 23/\af w' b (bif L 3 then(bU ((fL Q (aS (bO D) 4)),B))else(bU (Q,B))) 85/\af w' d_b (aj D) 23/\af w' o_b (ah (bO D)) 25) _ [(0,30),(1,31),(2,32),(3,33)] [0,1,2,3]
 case hn|hB|hds|hA=>exact rA
 case h0=>exact rH
 case hmore=>exact rM
 case hs=>
  intro more
  refine aH ?_
  refine cm ?_ ?_
  ·rintro p L w1 ⟨hsz,hB,v,f,d,o⟩ hk
   first|exact br _ _ rfl _ rfl _ _ o _ yc rfl rI rfl|(have hc:=o.cellIs (az _ (show 0<3 by omega));go_simp;exact⟨rfl,rfl⟩)
  refine bS 2 rfl (fun p=>rfl) (fun _ _ _ h=>h) more ?_ ?_
  ·rintro p L w1 ⟨hsz,hB,v,f,d,o⟩ hk
   go_simp
   exact(PA.out 4 _ ⟨oa,oa⟩).mono rC
  refine aw.cons ?_ ?_
  ·refine gw 3 rfl (fun p=>rfl) (fun _=>b) (fun p=>(bU ((fL Q (aS (bO D) 4)),B))) ?_ ?_
   ·rintro p L w1 ⟨hsz,hB,v,f,d,o⟩ hk
    have L3:L 3=false:=hk.1
    rw[L3]at f
    try simp only[cond_true,cond_false]at f
    go_simp
    exact(FT.out _ f).mono rC
   ·rintro p L w1 w2 ⟨hsz,hB,v,f,d,o⟩ hk hm
    have L3:L 3=false:=hk.1
    refine⟨nk hsz (by have:=hm.size;simpa using this),?_,(v.rowOther ne_v_f _).below hm (by simpa using v.lt),?_,(d.rowOther ne_d_f _).below hm (by simpa using d.lt),(o.rowOther ne_o_f _).below hm (by simpa using o.lt)⟩
    ·rw[show cD L 3 3=true from rfl]
     rw[L3]at hB
     have hB2:=lM hB b (bU ((fL Q (aS (bO D) 4)),B))
     try simp only[cond_true,cond_false]at hB2|-
     try rw[setRow_setRow]at hB2
     exact hB2.trans (hm.mono (nk hW0 hsz))
    ·rw[show cD L 3 3=true from rfl]
     exact(f.row _).below hm (by simpa using f.lt)
  exact aw.nil
 case hV0=>exact fun p q=>aw.nil
 case he=>
 clear hB v f d o
 rintro p w0rrr ⟨hsz,hB,v,f,d,o⟩
 replace f:af w0rrr b (bU ((fL Q (aS (bO D) 4)),B)) 85:=f
 replace hB:Below w.heap.size (w.setRow b (bU ((fL Q (aS (bO D) 4)),B))) w0rrr:=hB
 clear lt_v lt_f lt_d lt_o hsz hW0
 go_upto_region 8 with(fail)
 have lt_v:=v.lt
 have lt_f:=f.lt
 have lt_d:=d.lt
 have lt_o:=o.lt
 have hW0:w.heap.size<=w0rrr.heap.size:=by simpa using hB.size
 apply ay 2 [0,1] [] [_,_] (fun p L w'=>w0rrr.heap.size<=w'.heap.size/\Below w.heap.size (w.setRow b (bU ((fL Q (aS (bO D) 4)),B))) w'/\af w' w.heap.size (aj q) 23/\af w' b (bU ((fL Q (aS (bO D) 4)),B)) 85/\af w' d_b (aj D) 23/\af w' o_b (ah (bO D)) 25) _ [(0,34),(1,35)] [0,1]
 case hn|hB|hds|hA=>exact rA
 case h0=>exact rH
 case hmore=>exact rM
 case hs=>
  intro more
  refine cm ?_ ?_
  ·rintro p L w1 ⟨hsz,hB,v,f,d,o⟩ hk
   first|exact br _ _ rfl _ rfl _ _ o _ yc rfl rI rfl|(have hc:=o.cellIs (az _ (show 0<3 by omega));go_simp;exact⟨rfl,rfl⟩)
  refine bS 1 rfl (fun p=>rfl) (fun _ _ _ h=>h) more ?_ ?_
  ·rintro p L w1 ⟨hsz,hB,v,f,d,o⟩ hk
   go_simp
   exact(WI.out _).mono rC
  exact aw.nil
 case hV0=>exact fun p q=>aw.nil
 case he=>
 clear hB v f d o
 rintro p w0rrrr ⟨hsz,hB,v,f,d,o⟩
 clear lt_v lt_f lt_d lt_o hsz hW0
 go_upto_region 9 with(fail)
 have lt_v:=v.lt
 have lt_f:=f.lt
 have lt_d:=d.lt
 have lt_o:=o.lt
 have hW0:w.heap.size<=w0rrrr.heap.size:=by simpa using hB.size
 apply a_ 13 [0,1,3,7,0,16,63,127,255,255,0,1535,4095] [10] [_,_,_,_,_,_,_,_,_,_,(fun p=>.pointer (some ⟨p 10,0,none⟩)),(fun _=>undef),_] (fun p L w'=>w0rrrr.heap.size<=w'.heap.size/\Below w.heap.size (w.setRow b (bU ((fL Q (aS (bO D) 4)),B))) w'/\af w' w.heap.size (aj q) 23/\af w' b (bU ((fL Q (aS (bO D) 4)),B)) 85/\af w' d_b (aj D) 23/\af w' o_b (ah (bO D)) 25/\(L 10=true->w0rrrr.heap.size<=p 10/\af w' (p 10) (bif L 11 then(ah (cu B (aS (bO D) 32)))else(ah fun _=>0)) 25)) _ [(0,37),(1,38),(2,39),(3,40),(4,41),(5,42),(6,43),(7,36),(8,44),(9,45),(10,8),(12,9)] [0,1,2,3,4,5,6,7,8,9,10,11,12]
 case hn|hm|hB|hds|hA=>exact rA
 case h0=>exact rH
 case hmore=>exact rM
 case hs=>
  intro more
  refine aH ?_
  refine aH ?_
  refine aH ?_
  refine cm ?_ ?_
  ·rintro p L w1 ⟨hsz,hB,v,f,d,o,h_e⟩ hk
   exact aO _ _ rfl _ 4 rfl _ _ f (ah B) (GC (fL Q (aS (bO D) 4)) B) _ yc rfl rI rfl
  refine cm ?_ ?_
  ·rintro p L w1 ⟨hsz,hB,v,f,d,o,h_e⟩ hk
   first|exact br _ _ rfl _ rfl _ _ o _ yc rfl rI rfl|(have hc:=o.cellIs (az _ (show 0<3 by omega));go_simp;exact⟨rfl,rfl⟩)
  refine bS 5 rfl (fun p=>rfl) (fun _ _ _ h=>h) more ?_ ?_
  ·rintro p L w1 ⟨hsz,hB,v,f,d,o,h_e⟩ hk
   go_simp
   exact(PA.out 32 _ ⟨oa,oa⟩).mono rC
  refine bS 6 rfl (fun p=>rfl) (fun _ _ _ h=>h) more ?_ ?_
  ·rintro p L w1 ⟨hsz,hB,v,f,d,o,h_e⟩ hk
   go_simp
   exact(SU.out _).mono rC
  refine aH ?_
  refine aH ?_
  refine aH ?_
  refine aw.cons ?_ ?_
  ·refine aP 10 rfl (fun p=>rfl) rfl (ah fun _=>0) 25 (fun p=>rfl) ?_ ?_
   ·exact rZ
   rintro p L w1 ⟨hsz,hB,v,f,d,o,h_e⟩ hk
   have L11:L 11=false:=hk.2.2 11 rfl
   refine⟨nk hsz sd,hB.alloc (nk hW0 hsz) _,v.alloc _,f.alloc _,d.alloc _,o.alloc _,fun _=>⟨hsz,?_⟩⟩
   rw[show cD L 10 11=false from L11]
   exact af.new _ _ _
  refine aw.cons ?_ ?_
  ·refine aA 11 rfl (fun p=>rfl) (fun p=>rfl) _ _ _ rfl (fun p=>p 10) 0 (fun p=>rfl) (fun p=>(ah (cu B (aS (bO D) 32)))) (fun p=>rfl) (fun p=>(ah fun _=>0)) (fun p=>(ah (cu B (aS (bO D) 32)))) 25 (fun p=>dHz _ _) (fun p=>by first|(rw[ad,ad];decide)|simp[ad,ad]) (fun p=>by rw[ad];kernel_rfl) (fun p=>aG _) ?_ ?_
   ·rintro p L w1 ⟨hsz,hB,v,f,d,o,h_e⟩ hk
    exact cg (h_e (hk.2.1 10 rfl)).2 hk.1
   ·rintro p L w1 ⟨hsz,hB,v,f,d,o,h_e⟩ hk
    have hp:=h_e (hk.2.1 10 rfl)
    refine⟨(by simpa using hsz),Below.setRow hB (nk hW0 hp.1) _,v.rowOther (nL lt_v hp.1) _,f.rowOther (nL lt_f hp.1) _,d.rowOther (nL lt_d hp.1) _,o.rowOther (nL lt_o hp.1) _,fun _=>⟨hp.1,?_⟩⟩
    rw[show cD L 11 11=true from rfl]
    exact hp.2.row _
  refine aH ?_
  exact aw.nil
 case hV0=>exact rV
 case he=>
 clear hB v f d o
 rintro p w0rrrrr ⟨hsz,hB,v,f,d,o,h_e⟩
 obtain⟨le_e,e⟩:=h_e rfl
 clear h_e
 replace e:af w0rrrrr (p 10) (ah (cu B (aS (bO D) 32))) 25:=e
 have ne_v_e:w.heap.size≠p 10:=nN (nq lt_v le_e)
 have ne_f_e:b≠p 10:=nN (nq lt_f le_e)
 have ne_d_e:d_b≠p 10:=nN (nq lt_d le_e)
 have ne_o_e:o_b≠p 10:=nN (nq lt_o le_e)
 have ge_e:w.heap.size<=p 10:=nk hW0 le_e
 generalize p 10=e_b at *
 clear lt_v lt_f lt_d lt_o hsz hW0
 have ne_e_f:e_b≠b:=Ne.symm ne_f_e
 go_upto_region 10 with(fail)
 have lt_v:=v.lt
 have lt_f:=f.lt
 have lt_d:=d.lt
 have lt_o:=o.lt
 have lt_e:=e.lt
 have hW0:w.heap.size<=w0rrrrr.heap.size:=by simpa using hB.size
 apply ay 7 [0,1,3,7,15,31,63] [2] [_,_,(fun p=>(fun b=>.slice (some ⟨b,0,none⟩) 1 1) (p 2)),_,_,_,(fun _=>undef)] (fun p L w'=>w0rrrrr.heap.size<=w'.heap.size/\Below w.heap.size (bif L 6 then w.setRow b (bU ((fL Q (aS (bO D) 4)),p7 B (bO D)))else(w.setRow b (bU ((fL Q (aS (bO D) 4)),B)))) w'/\af w' w.heap.size (aj q) 23/\af w' b (bif L 6 then(bU ((fL Q (aS (bO D) 4)),p7 B (bO D)))else(bU ((fL Q (aS (bO D) 4)),B))) 85/\af w' d_b (aj D) 23/\af w' o_b (ah (bO D)) 25/\af w' e_b (ah (cu B (aS (bO D) 32))) 25/\(L 2=true->w0rrrrr.heap.size<=p 2/\af w' (p 2) (Ji (cu B (aS (bO D) 32))) 25)) _ [(0,46),(1,47),(2,48),(3,49),(4,50),(5,51)] [0,1,2,3,4,5,6]
 case hn|hB|hds|hA=>exact rA
 case h0=>exact rH
 case hmore=>exact rM
 case hs=>
  intro more
  refine aH ?_
  refine cm ?_ ?_
  ·rintro p L w1 ⟨hsz,hB,v,f,d,o,e,h_l⟩ hk
   first|exact br _ _ rfl _ rfl _ _ e _ yc rfl rI rfl|(have hc:=e.cellIs (az _ (show 0<3 by omega));go_simp;exact⟨rfl,rfl⟩)
  refine aw.cons ?_ ?_
  ·refine fT 2 rfl (fun p=>rfl) rfl (fun b=>.slice (some ⟨b,0,none⟩) 1 1) (fun p=>(Ji (cu B (aS (bO D) 32)))) 25 (fun p=>rfl) ?_ ?_
   ·intro p w1
    simp only[ah,aj]
    go_simp
    try rfl
   rintro p L w1 ⟨hsz,hB,v,f,d,o,e,h_l⟩ hk
   refine⟨nk hsz sd,hB.alloc (nk hW0 hsz) _,v.alloc _,f.alloc _,d.alloc _,o.alloc _,e.alloc _,fun _=>⟨hsz,?_⟩⟩
   exact af.new _ _ _
  refine bS 3 rfl (fun p=>rfl) (fun _ _ _ h=>h) more ?_ ?_
  ·rintro p L w1 ⟨hsz,hB,v,f,d,o,e,h_l⟩ hk
   have hh_l:=(h_l (hk.2.1 2 rfl)).2
   go_simp
   exact(CL.out _ _ _ _ hh_l (wP _)).mono rC
  refine aH ?_
  refine aH ?_
  refine aw.cons ?_ ?_
  ·refine aA 6 rfl (fun p=>rfl) (fun p=>rfl) _ _ _ rfl (fun _=>b) 4 (fun p=>rfl) (fun p=>(ah (p7 B (bO D)))) (fun p=>rfl) (fun p=>(bU ((fL Q (aS (bO D) 4)),B))) (fun p=>(bU ((fL Q (aS (bO D) 4)),p7 B (bO D)))) 85 (fun p=>IR _ _ _) (fun p=>by first|(rw[ad,kC];decide)|simp[ad,kC]) (fun p=>by rw[ad];kernel_rfl) (fun p=>aG _) ?_ ?_
   ·rintro p L w1 ⟨hsz,hB,v,f,d,o,e,h_l⟩ hk
    exact cg f hk.1
   ·rintro p L w1 ⟨hsz,hB,v,f,d,o,e,h_l⟩ hk
    have L6:L 6=false:=hk.1
    refine⟨(by simpa using hsz),?_,v.rowOther ne_v_f _,?_,d.rowOther ne_d_f _,o.rowOther ne_o_f _,e.rowOther ne_e_f _,fun hl=>⟨(h_l hl).1,(h_l hl).2.rowOther (nG (nq lt_f (h_l hl).1)) _⟩⟩
    ·rw[show cD L 6 6=true from rfl]
     rw[L6]at hB
     have hB2:=lM hB b (bU ((fL Q (aS (bO D) 4)),p7 B (bO D)))
     try simp only[cond_true,cond_false]at hB2|-
     try rw[setRow_setRow]at hB2
     exact hB2
    ·rw[show cD L 6 6=true from rfl]
     exact f.row _
  exact aw.nil
 case hV0=>exact rV
 case he=>
 clear hB v f d o e
 rintro p w0rrrrrr ⟨hsz,hB,v,f,d,o,e,h_l⟩
 obtain⟨le_l,l⟩:=h_l rfl
 clear h_l
 replace f:af w0rrrrrr b (bU ((fL Q (aS (bO D) 4)),p7 B (bO D))) 85:=f
 replace l:af w0rrrrrr (p 2) (Ji (cu B (aS (bO D) 32))) 25:=l
 replace hB:Below w.heap.size (w.setRow b (bU ((fL Q (aS (bO D) 4)),p7 B (bO D)))) w0rrrrrr:=hB
 have ne_v_l:w.heap.size≠p 2:=nN (nq lt_v le_l)
 have ne_f_l:b≠p 2:=nN (nq lt_f le_l)
 have ne_d_l:d_b≠p 2:=nN (nq lt_d le_l)
 have ne_o_l:o_b≠p 2:=nN (nq lt_o le_l)
 have ne_e_l:e_b≠p 2:=nN (nq lt_e le_l)
 have ge_l:w.heap.size<=p 2:=nk hW0 le_l
 generalize p 2=l_b at *
 clear lt_v lt_f lt_d lt_o lt_e hsz hW0
 go_upto_region 11 with(fail)
 go_wp2_with (fail)
 go_ret
 subst hD
 exact⟨rfl,hB⟩
end Go.Proofs.YtbhahonkhiiilaaGreat
