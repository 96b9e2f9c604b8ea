/-
  Wheels: what they do.
-/
import Derived.Test.YtbhahonkhiiilaaGreatSave
set_option linter.unusedSimpArgs false
set_option linter.unusedVariables false
set_option maxRecDepth 100000
set_option maxHeartbeats 6000000
namespace Go.Proofs.YtbhahonkhiiilaaGreat
open Go.RowKit PM Dt
theorem sT (F:Nat->Int):#[Value.int .i64 (F 0),.int .i64 (F 1),.int .i64 (F 2)]=ah F:=by unfold ah;rfl
theorem uO (h:Int) (w:World) (hh:-16777216<=h/\h<=16777216):Calls Tryz.prog 95 #[.int .i64 h] w fun e w'=>e=.returned (.int .i64 (f9 h))/\Below w.heap.size w w':=by
 have hB:Below w.heap.size w w:=Below.refl _ _
 have hf:=qj hh
 unfold f9 at hf|-
 have e1:IntKind.i64.wrap (h.tdiv 1024)=h.tdiv 1024:=by rw[wI];omega
 clear hh hf
 go_enter Tryz.func95,Tryz.ntmps95
 go_wp2_with (fail)
 go_ret
 exact⟨rfl,hB⟩
theorem ko (h:Nat->Int) (f:Int) (b:Nat) (w:World) (hg:af w b (cy (h,f)) 126):Calls Tryz.prog 94 #[.pointer (some ⟨b,0,none⟩)] w fun e w'=>e=.returned (.bool false)/\w=w':=by
 have hc:w.cell? ⟨b,5,none⟩=some (.bool true):=hg.cellIs rfl
 clear hg
 go_enter Tryz.func94,Tryz.ntmps94
 go_wp2_with (fail)
 go_ret
 exact⟨rfl,rfl⟩
theorem uP (h:Nat->Int) (f:Int) (b:Nat) (w:World) (hg:af w b (cy (h,f)) 126):Calls Tryz.prog 63 #[.pointer (some ⟨b,0,none⟩)] w fun e w'=>e=.returned (.int .i64 f)/\Below w.heap.size w w':=by
 have hB:Below w.heap.size w w:=Below.refl _ _
 have NN:=aa (fun w' (hb:Below w.heap.size w w')=>ko h f b w' (hg.below hb hg.lt))
 have hc:w.cell? ⟨b,4,none⟩=some (.int .i64 f):=hg.cellIs rfl
 clear hg
 go_enter Tryz.func63,Tryz.ntmps63
 go_wp2_with (first
  |(go_at_call 94;with_reducible refine(NN.out _ hB).mono ?_;rintro e w9 ⟨rfl,rfl⟩))
 go_ret
 exact⟨rfl,hB⟩
theorem nW (h:Nat->Int) (f:Int) (b:Nat) (w:World) (hg:af w b (cy (h,f)) 126):Calls Tryz.prog 62 #[.pointer (some ⟨b,0,none⟩)] w fun e w'=>e=.returned (.agg (aj h))/\Below w.heap.size w w':=by
 have NN:=aa (fun w' (hb:Below w.heap.size w w')=>ko h f b w' (hg.below hb hg.lt))
 go_enter Tryz.func62,Tryz.ntmps62
 go_upto_region 1 with(fail)
 simp only[dp]
 have r:af (w.alloc (.cells (aj fun _=>0) 22)) w.heap.size (aj fun _=>0) 22:=af.new _ _ _
 have hB:Below w.heap.size w (w.alloc (.cells (aj fun _=>0) 22)):=by go_grown
 generalize(w.alloc (.cells (aj fun _=>0) 22))=w0 at *
 have g:af w0 b (cy (h,f)) 126:=hg.below hB hg.lt
 have gl:=hg.lt
 clear hg
 go_upto_region 3 with(first
  |(refine ac ?hw _ _ rfl _ rfl _ _ _ _ r ya rfl ?hi ?_;(case hw=>exact rW);(case hi=>exact rI))
  |(go_at_call 94;with_reducible refine(NN.out _ hB).mono ?_;rintro e w9 ⟨rfl,rfl⟩))
 have ne_r_g:w.heap.size≠b:=oa
 have lt_r:=r.lt
 have lt_g:=g.lt
 have hW0:w.heap.size<=w0.heap.size:=by simpa using hB.size
 apply ay 7 [0,1,3,7,15,31,63] [5] [_,_,_,_,_,(fun p=>.pointer (some ⟨p 5,0,none⟩)),(fun _=>undef)] (fun p L w'=>w0.heap.size<=w'.heap.size/\Below w.heap.size w w'/\af w' w.heap.size (aj fun _=>0) 22/\af w' b (cy (h,f)) 126/\(L 5=true->w0.heap.size<=p 5/\af w' (p 5) (bif L 6 then(aj h)else(aj fun _=>0)) 22)) _ [(0,7),(1,8),(2,9),(3,10),(4,11),(5,3)] [0,1,2,3,4,5,6]
 case hn|hB|hds|hA=>exact rA
 case h0=>exact rH
 case hmore=>exact rM
 case hs=>
  intro more
  refine aH ?_
  refine aH ?_
  refine aH ?_
  refine aH ?_
  refine cm ?_ ?_
  ·rintro p L w1 ⟨hsz,hB,r,g,h_x⟩ hk
   exact aO _ _ rfl _ 0 rfl _ _ g (aj h) (D9 h f) _ ya rfl rI rfl
  refine aw.cons ?_ ?_
  ·refine aP 5 rfl (fun p=>rfl) rfl (aj fun _=>0) 22 (fun p=>rfl) ?_ ?_
   ·exact rZ
   rintro p L w1 ⟨hsz,hB,r,g,h_x⟩ hk
   have L6:L 6=false:=hk.2.2 6 rfl
   refine⟨nk hsz sd,hB.alloc (nk hW0 hsz) _,r.alloc _,g.alloc _,fun _=>⟨hsz,?_⟩⟩
   rw[show cD L 5 6=false from L6]
   exact af.new _ _ _
  refine aw.cons ?_ ?_
  ·refine aA 6 rfl (fun p=>rfl) (fun p=>rfl) _ _ _ rfl (fun p=>p 5) 0 (fun p=>rfl) (fun p=>(aj h)) (fun p=>rfl) (fun p=>(aj fun _=>0)) (fun p=>(aj h)) 22 (fun p=>dK _ _) (fun p=>by first|(rw[ak,ak];decide)|simp[ak,ak]) (fun p=>by rw[ak];kernel_rfl) (fun p=>bF _) ?_ ?_
   ·rintro p L w1 ⟨hsz,hB,r,g,h_x⟩ hk
    exact cg (h_x (hk.2.1 5 rfl)).2 hk.1
   ·rintro p L w1 ⟨hsz,hB,r,g,h_x⟩ hk
    have hp:=h_x (hk.2.1 5 rfl)
    refine⟨(by simpa using hsz),Below.setRow hB (nk hW0 hp.1) _,r.rowOther (nL lt_r hp.1) _,g.rowOther (nL lt_g hp.1) _,fun _=>⟨hp.1,?_⟩⟩
    rw[show cD L 6 6=true from rfl]
    exact hp.2.row _
  exact aw.nil
 case hV0=>exact rV
 case he=>
 clear hB r g
 rintro p w0r ⟨hsz,hB,r,g,h_x⟩
 obtain⟨le_x,x⟩:=h_x rfl
 clear h_x
 replace x:af w0r (p 5) (aj h) 22:=x
 have ne_r_x:w.heap.size≠p 5:=nN (nq lt_r le_x)
 have ne_g_x:b≠p 5:=nN (nq lt_g le_x)
 have ge_x:w.heap.size<=p 5:=nk hW0 le_x
 generalize p 5=x_b at *
 clear lt_r lt_g hsz hW0
 go_wp2_with (first
  |(refine ac ?hw _ _ rfl _ rfl _ _ _ _ x ya rfl ?hi ?_;(case hw=>exact rW);(case hi=>exact rI))
  |(refine ag rfl _ _ _ rfl _ rfl _ rfl _ _ r rI (by first|rfl|simp only[ak]) (by first|exact bF _|rfl) ?_))
 refine bodyPost_ret (results_cell_row rfl _ _ _ _ _ _ _ rfl (r.row (aj h)) ya rfl rI) rfl ?_
 refine⟨?_,Below.setRow hB oa _⟩
 rfl
theorem ux (h:Nat->Int) (f:Int) (b:Nat) (w:World) (hg:af w b (cy (h,f)) 126) (hI:SI h f):Calls Tryz.prog 74 #[.pointer (some ⟨b,0,none⟩)] w fun e w'=>e=.returned (.agg (ah (cZ h)))/\Below w.heap.size w w':=by
 have SP:=aa (fun w1 (hb:Below w.heap.size w w1)=>nW h f b w1 (hg.below hb hg.lt))
 clear hg
 have e0:IntKind.i64.wrap (h 0+h 3)=cZ h 0:=by have:=hI.b 0 oa;have:=hI.b 3 oa;rw[wI];unfold cZ;omega
 have e1:IntKind.i64.wrap (h 1+h 3)=cZ h 1:=by have:=hI.b 1 oa;have:=hI.b 3 oa;rw[wI];unfold cZ;omega
 have e2:IntKind.i64.wrap (h 2+h 3)=cZ h 2:=by have:=hI.b 2 oa;have:=hI.b 3 oa;rw[wI];unfold cZ;omega
 clear hI
 go_enter Tryz.func74,Tryz.ntmps74
 go_upto_region 1 with(fail)
 simp only[aQ]
 have r:af (w.alloc (.cells (ah fun _=>0) 25)) w.heap.size (ah fun _=>0) 25:=af.new _ _ _
 have hB:Below w.heap.size w (w.alloc (.cells (ah fun _=>0) 25)):=by go_grown
 generalize(w.alloc (.cells (ah fun _=>0) 25))=w0 at *
 have lt_r:=r.lt
 have hW0:w.heap.size<=w0.heap.size:=by simpa using hB.size
 apply ay 4 [0,1,3,7] [2] [_,_,(fun p=>.pointer (some ⟨p 2,0,none⟩)),(fun _=>undef)] (fun p L w'=>w0.heap.size<=w'.heap.size/\Below w.heap.size w w'/\af w' w.heap.size (ah fun _=>0) 25/\(L 2=true->w0.heap.size<=p 2/\af w' (p 2) (bif L 3 then(aj h)else(aj fun _=>0)) 22)) _ [(0,4),(1,5),(2,3)] [0,1,2,3]
 case hn|hB|hds|hA=>exact rA
 case h0=>exact rH
 case hmore=>exact rM
 case hs=>
  intro more
  refine aH ?_
  refine bS 1 rfl (fun p=>rfl) (fun _ _ _ h=>h) more ?_ ?_
  ·rintro p L w1 ⟨hsz,hB,r,h_x⟩ hk
   go_simp
   exact(SP.out _ hB).mono rC
  refine aw.cons ?_ ?_
  ·refine aP 2 rfl (fun p=>rfl) rfl (aj fun _=>0) 22 (fun p=>rfl) ?_ ?_
   ·exact rZ
   rintro p L w1 ⟨hsz,hB,r,h_x⟩ hk
   have L3:L 3=false:=hk.2.2 3 rfl
   refine⟨nk hsz sd,hB.alloc (nk hW0 hsz) _,r.alloc _,fun _=>⟨hsz,?_⟩⟩
   rw[show cD L 2 3=false from L3]
   exact af.new _ _ _
  refine aw.cons ?_ ?_
  ·refine aA 3 rfl (fun p=>rfl) (fun p=>rfl) _ _ _ rfl (fun p=>p 2) 0 (fun p=>rfl) (fun p=>(aj h)) (fun p=>rfl) (fun p=>(aj fun _=>0)) (fun p=>(aj h)) 22 (fun p=>dK _ _) (fun p=>by first|(rw[ak,ak];decide)|simp[ak,ak]) (fun p=>by rw[ak];kernel_rfl) (fun p=>bF _) ?_ ?_
   ·rintro p L w1 ⟨hsz,hB,r,h_x⟩ hk
    exact cg (h_x (hk.2.1 2 rfl)).2 hk.1
   ·rintro p L w1 ⟨hsz,hB,r,h_x⟩ hk
    have hp:=h_x (hk.2.1 2 rfl)
    refine⟨(by simpa using hsz),Below.setRow hB (nk hW0 hp.1) _,r.rowOther (nL lt_r hp.1) _,fun _=>⟨hp.1,?_⟩⟩
    rw[show cD L 3 3=true from rfl]
    exact hp.2.row _
  exact aw.nil
 case hV0=>exact rV
 case he=>
 clear hB r
 rintro p w0r ⟨hsz,hB,r,h_x⟩
 obtain⟨le_x,x⟩:=h_x rfl
 clear h_x
 replace x:af w0r (p 2) (aj h) 22:=x
 have ne_r_x:w.heap.size≠p 2:=nN (nq lt_r le_x)
 have ge_x:w.heap.size<=p 2:=nk hW0 le_x
 generalize p 2=x_b at *
 clear lt_r hsz hW0
 go_upto_region 2 with(fail)
 have lt_r:=r.lt
 have lt_x:=x.lt
 have hW0:w.heap.size<=w0r.heap.size:=by simpa using hB.size
 apply ay 17 [0,1,3,7,15,31,63,127,255,511,1023,2047,4095,8191,16383,32767,65535] [] [_,_,_,_,_,_,_,_,_,_,_,_,_,_,_,_,(fun _=>undef)] (fun p L w'=>w0r.heap.size<=w'.heap.size/\Below w.heap.size w w'/\af w' w.heap.size (bif L 16 then(ah (cZ h))else(ah fun _=>0)) 25/\af w' x_b (aj h) 22) _ [(0,6),(1,7),(2,8),(3,9),(4,10),(5,11),(6,12),(7,13),(8,14),(9,15),(10,16),(11,17),(12,18),(13,19),(14,20),(15,21)] [0,1,2,3,4,5,6,7,8,9,10,11,12,13,14,15,16]
 case hn|hB|hds|hA=>exact rA
 case h0=>exact rH
 case hmore=>exact rM
 case hs=>
  intro more
  refine aH ?_
  refine cm ?_ ?_
  ·rintro p L w1 ⟨hsz,hB,r,x⟩ hk
   have hc:w1.cell? ⟨x_b,0,none⟩=some (.int .i64 (h 0)):=x.cellIs (aD _ oa)
   go_simp
   exact⟨rfl,rfl⟩
  refine aH ?_
  refine cm ?_ ?_
  ·rintro p L w1 ⟨hsz,hB,r,x⟩ hk
   have hc:w1.cell? ⟨x_b,3,none⟩=some (.int .i64 (h 3)):=x.cellIs (aD _ oa)
   go_simp
   exact⟨rfl,rfl⟩
  refine aH ?_
  refine aH ?_
  refine cm ?_ ?_
  ·rintro p L w1 ⟨hsz,hB,r,x⟩ hk
   have hc:w1.cell? ⟨x_b,1,none⟩=some (.int .i64 (h 1)):=x.cellIs (aD _ oa)
   go_simp
   exact⟨rfl,rfl⟩
  refine aH ?_
  refine cm ?_ ?_
  ·rintro p L w1 ⟨hsz,hB,r,x⟩ hk
   have hc:w1.cell? ⟨x_b,3,none⟩=some (.int .i64 (h 3)):=x.cellIs (aD _ oa)
   go_simp
   exact⟨rfl,rfl⟩
  refine aH ?_
  refine aH ?_
  refine cm ?_ ?_
  ·rintro p L w1 ⟨hsz,hB,r,x⟩ hk
   have hc:w1.cell? ⟨x_b,2,none⟩=some (.int .i64 (h 2)):=x.cellIs (aD _ oa)
   go_simp
   exact⟨rfl,rfl⟩
  refine aH ?_
  refine cm ?_ ?_
  ·rintro p L w1 ⟨hsz,hB,r,x⟩ hk
   have hc:w1.cell? ⟨x_b,3,none⟩=some (.int .i64 (h 3)):=x.cellIs (aD _ oa)
   go_simp
   exact⟨rfl,rfl⟩
  refine aH ?_
  refine cm ?_ ?_
  ·intros;(try simp only[ah,aj]);go_simp;exact⟨rfl,rfl⟩
  refine aw.cons ?_ ?_
  ·refine aA 16 rfl (fun p=>rfl) (fun p=>rfl) _ _ _ rfl (fun _=>w.heap.size) 0 (fun p=>rfl) (fun p=>(ah (cZ h))) (fun p=>(congrArg Value.agg (sT (cZ h)))) (fun p=>(ah fun _=>0)) (fun p=>(ah (cZ h))) 25 (fun p=>dH _ _) (fun p=>by first|(rw[ad,ad];decide)|simp[ad,ad]) (fun p=>by rw[ad];kernel_rfl) (fun p=>aG _) ?_ ?_
   ·rintro p L w1 ⟨hsz,hB,r,x⟩ hk
    exact cg r hk.1
   ·rintro p L w1 ⟨hsz,hB,r,x⟩ hk
    refine⟨(by simpa using hsz),Below.setRow hB (by first|exact nk hW0 hp.1|exact ge_r|omega|(have:=hB.size;simp at this|-;omega)) _,?_,x.rowOther (Ne.symm ne_r_x) _⟩
    rw[show cD L 16 16=true from rfl]
    exact r.row _
  exact aw.nil
 case hV0=>exact fun p q=>aw.nil
 case he=>
 clear hB r x
 rintro p w0rr ⟨hsz,hB,r,x⟩
 replace r:af w0rr w.heap.size (ah (cZ h)) 25:=r
 clear lt_r lt_x hsz hW0
 go_wp2_with (fail)
 refine bodyPost_ret (results_cell_row rfl _ _ _ _ _ _ _ rfl r yc rfl rI) rfl ?_
 refine⟨?_,hB⟩
 rfl
theorem Ap (h:Nat->Int) (f:Int) (b:Nat) (c:Nat->Int) (w:World) (hg:af w b (cy (h,f)) 126) (hI:SI h f):Calls Tryz.prog 64 #[.pointer (some ⟨b,0,none⟩),.agg (aj c)] w fun e w'=>e=.returned (.int .i64 0)/\af w' b (cy (jD h f c,f)) 126/\co b b w w':=by
 have NN:=aa (fun w' (hb:Below w.heap.size w w')=>ko h f b w' (hg.below hb hg.lt))
 have HI:=aa hI.b
 clear hI
 go_enter Tryz.func64,Tryz.ntmps64
 go_upto_region 1 with(fail)
 have v:af (w.alloc (.cells (aj c) 22)) w.heap.size (aj c) 22:=af.new _ _ _
 have hB:Below w.heap.size w (w.alloc (.cells (aj c) 22)):=by go_grown
 generalize(w.alloc (.cells (aj c) 22))=w0 at *
 have g:af w0 b (cy (h,f)) 126:=hg.below hB hg.lt
 have gl:=hg.lt
 clear hg
 have ne_v_g:w.heap.size≠b:=oa
 go_upto_region 3 with(first
  |(refine ac ?hw _ _ rfl _ rfl _ _ _ _ v ya rfl ?hi ?_;(case hw=>exact rW);(case hi=>exact rI))
  |(go_at_call 94;with_reducible refine(NN.out _ hB).mono ?_;rintro e w9 ⟨rfl,rfl⟩))
 replace hB:co b b w w0:=co.of hB
 clear NN
 have lt_v:=v.lt
 have lt_g:=g.lt
 have hW0:w.heap.size<=w0.heap.size:=by simpa using hB.size
 apply ay 6 [0,1,3,7,15,31] [] [_,_,_,_,_,_] (fun p L w'=>w0.heap.size<=w'.heap.size/\co b b w w'/\af w' w.heap.size (aj c) 22/\af w' b (cy (h,f)) 126) _ [(0,9),(1,10),(2,11),(3,12),(4,13),(5,14)] [0,1,2,3,4,5]
 case hn|hB|hds|hA=>exact rA
 case h0=>exact rH
 case hmore=>exact fun p L w1 w2 ⟨hsz,hB,v,g⟩ hm=>⟨Nat.le_trans hsz hm.size,hB.trans (hm.mono (Nat.le_trans hW0 hsz)),v.below hm v.lt,g.below hm g.lt⟩
 case hs=>
  intro more
  refine aH ?_
  refine aH ?_
  refine aH ?_
  refine aH ?_
  refine cm ?_ ?_
  ·rintro p L w1 ⟨hsz,hB,v,g⟩ hk
   exact aO _ _ rfl _ 0 rfl _ _ g (aj h) (D9 h f) _ ya rfl rI rfl
  refine aH ?_
  exact aw.nil
 case hV0=>exact fun p q=>aw.nil
 case he=>
 clear hB v g
 rintro p w0r ⟨hsz,hB,v,g⟩
 clear lt_v lt_g hsz hW0
 rw[show cy (h,f)=cy (cV (jD h f c) h 0,f)from by rw[kD]]at g
 go_wp2_with (fail)
 go_loopg [14] 4 (fun g_ iv wr=>∃k:Nat,g_+k=4/\iv=.int .i64 k/\af wr w.heap.size (aj c) 22/\af wr b (cy (cV (jD h f c) h k,f)) 126/\co b b w wr)
 case atStart=>exact⟨0,rfl,rfl,v,g,hB⟩
 case round=>
  clear v g hB
  obtain⟨k,hk,rfl,v,g,hB⟩:=hrel
  by_cases hkn:k<4
  ·have hdk:decide ((k:Int)<4)=true:=dT oa
   have hdk':decide (k<4)=true:=dT oa
   have hk3:(k:Int)<4:=oa
   have hw3:IntKind.i64.wrap ((k:Int)+1)=((k+1:Nat):Int):=by rw[wI];omega
   have hix:Hid (∀w,(Instr.index 22 (.agg (aj h)) (.int .i64 k)).run Tryz.prog w=.ok (.int .i64 (h k)) w):=fun w=>EH h hkn w
   have H:=HI.out k hkn
   by_cases hf:(k:Int)=f
   ·have d6:((k:Int) !=f)=false:=by simp[hf]
    have ev:jD h f c k=h k:=by unfold jD;rw[if_pos hf]
    have hc4:wr.cell? ⟨b,4,none⟩=some (.int .i64 f):=g.cellIs rfl
    clear H hf
    go_wp2_with ((refine aZ ?hw _ _ _ rfl _ rfl k _ rfl rfl _ hix.out ?_;(case hw=>exact rW)))
    go_roundg (4-(k+1))
    case rel=>
     exact⟨k+1,oa,rfl,v,by rw[qR ev];exact g,hB⟩
    case measure=>omega
   ·have d6:((k:Int) !=f)=true:=by simp[hf]
    have hc4:wr.cell? ⟨b,4,none⟩=some (.int .i64 f):=g.cellIs rfl
    have hck:wr.cell? ⟨w.heap.size,k,none⟩=some (.int .i64 (c k)):=v.cellIs (aD c hkn)
    have H1:=zi (c k)
    have H2:=qj H
    have CL:=aa (fun w=>i4 (c k) (-1048576) 1048576 w)
    have FR:=aa (fun w=>uO (h k) w H)
    have CM:=aa (fun w=>i4 (h k+(aI (c k) (-1048576) 1048576-f9 (h k))) (-16777216) 16777216 w)
    have e1:IntKind.i64.wrap (aI (c k) (-1048576) 1048576-f9 (h k))=aI (c k) (-1048576) 1048576-f9 (h k):=by rw[wI];omega
    have e2:IntKind.i64.wrap (h k+(aI (c k) (-1048576) 1048576-f9 (h k)))=h k+(aI (c k) (-1048576) 1048576-f9 (h k)):=by rw[wI];omega
    have ev:aI (h k+(aI (c k) (-1048576) 1048576-f9 (h k))) (-16777216) 16777216=jD h f c k:=by unfold jD iE;rw[if_neg hf];congr 1;omega
    clear H H1 H2 hf
    go_upto_region 8 with(first
     |(go_at_call 72;with_reducible refine(CL.out _).mono ?_;rintro e wa ⟨rfl,rfl⟩)
     |(go_at_call 95;with_reducible refine(FR.out _).mono ?_;rintro e wb ⟨rfl,hb⟩;replace hB:=hB.trans (hb.mono hB.size);replace v:=v.below hb v.lt;replace g:=g.below hb g.lt;clear hb)
     |(refine aZ ?hw _ _ _ rfl _ rfl k _ rfl rfl _ hix.out ?_;(case hw=>exact rW)))
    clear CL FR hc4 hck hix e1 e2
    have lt_v:=v.lt
    have lt_g:=g.lt
    have hW0:w.heap.size<=wb.heap.size:=by simpa using hB.size
    apply a_ 9 [0,0,0,4,1,17,49,127,255] [] [_,_,_,_,_,_,_,_,(fun _=>undef)] (fun p L w'=>wb.heap.size<=w'.heap.size/\co b b w w'/\af w' w.heap.size (aj c) 22/\af w' b (bif L 8 then(cy (cV (jD h f c) h (k+1),f))else(cy (cV (jD h f c) h k,f))) 126) _ [(0,34),(1,35),(2,36),(3,37),(4,38),(5,39),(6,40),(7,41)] [0,1,2,3,4,5,6,7,8]
    case hn|hm|hB|hds|hA=>exact rA
    case h0=>exact rH
    case hmore=>exact fun p L w1 w2 ⟨hsz,hB,v,g⟩ hm=>⟨Nat.le_trans hsz hm.size,hB.trans (hm.mono (Nat.le_trans hW0 hsz)),v.below hm v.lt,g.below hm g.lt⟩
    case hs=>
     intro more
     refine aH ?_
     refine aH ?_
     refine aH ?_
     refine bS 3 rfl (fun p=>rfl) (fun _ _ _ h=>h) more ?_ ?_
     ·rintro p L w1 ⟨hsz,hB,v,g⟩ hk
      go_simp
      exact(CM.out _).mono rC
     refine aH ?_
     refine aH ?_
     refine aH ?_
     refine aH ?_
     refine aw.cons ?_ ?_
     ·refine fJ 8 rfl (fun p=>rfl) (fun p=>rfl) (fun _=>b) (k) (fun p=>.int .i64 (aI (h k+(aI (c k) (-1048576) 1048576-f9 (h k))) (-16777216) 16777216)) (fun p=>(cy (cV (jD h f c) h k,f))) (fun p=>(cy (cV (jD h f c) h (k+1),f))) 126 (fun p=>EB f hkn _ ev) ?_ ?_ ?_
      ·rintro p L w1 ⟨hsz,hB,v,g⟩ hk
       exact cg g hk.1
      ·intro p w1 hb
       have fz:w1.frozen? ⟨b,k,none⟩=false:=hb.free _
       have cz:∃u,w1.cell? ⟨b,k,none⟩=some u:=⟨_,hb.cellIs (Kn _ f hkn)⟩
       obtain⟨u,cz⟩:=cz
       go_simp
       try exact⟨_,rfl,by first|exact .inl rfl|exact .inr rfl⟩
      ·rintro p L w1 ⟨hsz,hB,v,g⟩ hk
       refine⟨(by simpa using hsz),hB.row (by first|exact .inr (nk hW0 hp.1)|exact .inr ge_g|exact .inl ⟨ns _,ns _⟩|omega|(have:=hB.size;simp at this|-;omega)) _,v.rowOther ne_v_g _,?_⟩
       rw[show cD L 8 8=true from rfl]
       exact g.row _
     exact aw.nil
    case hV0=>exact fun p q=>aw.nil
    case he=>
    clear hB v g
    rintro p wbr ⟨hsz,hB,v,g⟩
    replace g:af wbr b (cy (cV (jD h f c) h (k+1),f)) 126:=g
    clear lt_v lt_g hsz hW0
    go_wp2_with (fail)
    go_roundg (4-(k+1))
    case rel=>
     exact⟨k+1,oa,rfl,v,g,hB⟩
    case measure=>omega
  ·obtain rfl:k=4:=oa
   go_wp2_with (fail)
   go_ret
   exact⟨rfl,g,hB⟩
theorem co.toRow {b:Nat} {w w':World} {c0 c:Array Value} {t:TypeId} (h0:af w b c0 t) (hs:co b b w w') (h1:af w' b c t):Below w.heap.size (w.setRow b c) w':=
 ⟨hs.os,hs.tape,hs.output,by have:=hs.size;simpa using this,fun k hk=>by
   by_cases e:k=b
   ·subst e
    have:af (w.setRow k c) k c t:=h0.row c
    unfold af at this h1
    rw[this,h1]
   ·rw[setRow_other _ _ _ _ e]
    exact hs.block k hk oa⟩
theorem Ag (h:Nat->Int) (f:Int) (b:Nat) (c:Nat->Int) (w:World) (hg:af w b (cy (h,f)) 126) (hI:SI h f):Calls Tryz.prog 64 #[.pointer (some ⟨b,0,none⟩),.agg (aj c)] w fun e w'=>e=.returned (.int .i64 0)/\Below w.heap.size (w.setRow b (cy (jD h f c,f))) w':=
 (Ap h f b c w hg hI).mono fun e w' ⟨he,hb,hs⟩=>⟨he,hs.toRow hg hb⟩
end Go.Proofs.YtbhahonkhiiilaaGreat
