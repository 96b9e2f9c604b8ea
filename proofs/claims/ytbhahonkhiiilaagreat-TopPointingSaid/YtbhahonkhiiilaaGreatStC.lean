/-
  Controls: what is wanted (Rest, Point), and the axis across.
-/
import Derived.Test.YtbhahonkhiiilaaGreatStBG
set_option linter.unusedSimpArgs false
set_option linter.unusedVariables false
set_option maxHeartbeats 6000000
namespace Go.Proofs.YtbhahonkhiiilaaGreat
open Go.RowKit PM Dt
def wT (b:Nat):Array Value:=#[.pointer (some ⟨b,0,none⟩)]
def bH (Lf:Nat->Int):Nat->Int:=fun i=>(Lf (i+1)+16)/32
def aB (Lf:Nat->Int):Nat->Int:=ca (bH Lf) 4194304
set_option maxRecDepth 100000 in
theorem vW (X:dw) (Lf:Nat->Int) (b q l:Nat) (a:Bool) (w:World) (hg:af w b (d9 X) 89) (hq:af w q (wT b) 35) (hl:af w l (aj Lf) 23) (hL:∀i,i<4->-1099511627776<=Lf i/\Lf i<=1099511627776):Calls Tryz.prog 60 #[.bool a,.pointer (some ⟨q,0,none⟩),.pointer (some ⟨l,0,none⟩)] w fun e w'=>e=.returned (.agg (ah (aB Lf)))/\Below w.heap.size (w.setRow b (d9 ⟨X.D,fun _=>0,X.P,X.g⟩)) w':=by
 have ll:=hl.lt
 have ne_l_g:l≠b:=fun h=>by
  subst h
  unfold af at hg hl
  rw[hg]at hl
  have:=congrArg (fun o=>match o with|some (Obj.cells c _ _)=>c.size|_=>0) hl
  exact absurd this (by rw[show(match(some (Obj.cells (d9 X) 89 (0,0)))with|some (Obj.cells c _ _)=>c.size|_=>0)=12 from rfl];simp[ak])
 have LI:=aa (fun w=>wG (bH Lf) 4194304 w (fun i hi=>by have:=hL (i+1) oa;unfold bH;exact⟨oa,oa⟩) ⟨oa,oa⟩)
 rw[show ca (bH Lf) 4194304=aB Lf from rfl]at LI
 have a0:IntKind.i64.wrap (Lf 1+16)=Lf 1+16:=by have:=hL 1 oa;rw[wI];omega
 have b0:(Lf 1+16)>>>5=bH Lf 0:=Int.shiftRight_eq_div_pow _ _
 have c0:(Lf 1+16)/32=bH Lf 0:=rfl
 have d0:IntKind.i64.wrap (bH Lf 0)=bH Lf 0:=by have:=hL 1 oa;show IntKind.i64.wrap ((Lf 1+16)/32)=(Lf 1+16)/32;rw[wI];omega
 have a1:IntKind.i64.wrap (Lf 2+16)=Lf 2+16:=by have:=hL 2 oa;rw[wI];omega
 have b1:(Lf 2+16)>>>5=bH Lf 1:=Int.shiftRight_eq_div_pow _ _
 have c1:(Lf 2+16)/32=bH Lf 1:=rfl
 have d1:IntKind.i64.wrap (bH Lf 1)=bH Lf 1:=by have:=hL 2 oa;show IntKind.i64.wrap ((Lf 2+16)/32)=(Lf 2+16)/32;rw[wI];omega
 have a2:IntKind.i64.wrap (Lf 3+16)=Lf 3+16:=by have:=hL 3 oa;rw[wI];omega
 have b2:(Lf 3+16)>>>5=bH Lf 2:=Int.shiftRight_eq_div_pow _ _
 have c2:(Lf 3+16)/32=bH Lf 2:=rfl
 have d2:IntKind.i64.wrap (bH Lf 2)=bH Lf 2:=by have:=hL 3 oa;show IntKind.i64.wrap ((Lf 3+16)/32)=(Lf 3+16)/32;rw[wI];omega
 clear hL
 have gl:=hg.lt
 have ql:=hq.lt
 have ne_q_g:q≠b:=fun h=>by
  subst h
  have h1:=hg.cellIs (i:=0) (v:=.int .i64 (X.D 0)) rfl
  have h2:=hq.cellIs (i:=0) (v:=.pointer (some ⟨q,0,none⟩)) rfl
  rw[h1]at h2;cases h2
 go_enter Tryz.func60,Tryz.ntmps60
 go_upto_region 1 with(fail)
 simp only[aQ]
 have r:af (w.alloc (.cells (ah fun _=>0) 25)) w.heap.size (ah fun _=>0) 25:=af.new _ _ _
 have hB:Below w.heap.size w (w.alloc (.cells (ah fun _=>0) 25)):=by go_grown
 generalize(w.alloc (.cells (ah fun _=>0) 25))=w0 at *
 have g:af w0 b (d9 X) 89:=hg.below hB hg.lt
 have qb:af w0 q (wT b) 35:=hq.below hB hq.lt
 have lb:af w0 l (aj Lf) 23:=hl.below hB hl.lt
 have ne_r_g:w.heap.size≠b:=oa
 have ne_r_qb:w.heap.size≠q:=oa
 have ne_r_lb:w.heap.size≠l:=oa
 have ne_qb_g:q≠b:=ne_q_g
 have ne_lb_g:l≠b:=ne_l_g
 clear hq hl
 replace hB:co b b w w0:=co.of hB
 have lt_r:=r.lt
 have lt_g:=g.lt
 have lt_qb:=qb.lt
 have lt_lb:=lb.lt
 have hW0:w.heap.size<=w0.heap.size:=by simpa using hB.size
 apply ay 6 [0,1,3,7,15,31] [] [_,_,_,_,_,(fun _=>undef)] (fun p L w'=>w0.heap.size<=w'.heap.size/\co b b w w'/\af w' w.heap.size (ah fun _=>0) 25/\af w' b (bif L 5 then(d9 ⟨X.D,fun _=>0,X.P,X.g⟩)else(d9 X)) 89/\af w' q (wT b) 35/\af w' l (aj Lf) 23) _ [(0,7),(1,8),(2,9),(3,10),(4,11)] [0,1,2,3,4,5]
 case hn|hB|hds|hA=>exact rA
 case h0=>exact rH
 case hmore=>exact fun p L w1 w2 ⟨hsz,hB,r,g,qb,lb⟩ hm=>⟨Nat.le_trans hsz hm.size,hB.trans (hm.mono (Nat.le_trans hW0 hsz)),r.below hm r.lt,g.below hm g.lt,qb.below hm qb.lt,lb.below hm lb.lt⟩
 case hs=>
  intro more
  refine cm ?_ ?_
  ·rintro p L w1 ⟨hsz,hB,r,g,qb,lb⟩ hk
   have hc:w1.cell? ⟨q,0,none⟩=some (.pointer (some ⟨b,0,none⟩)):=qb.cellIs rfl
   go_simp
   exact⟨rfl,rfl⟩
  refine cm ?_ ?_
  ·intros;(try simp only[ah,aj]);go_simp;exact⟨rfl,rfl⟩
  iterate 3 (refine aH ?_)
  refine aw.cons ?_ ?_
  ·refine aA 5 rfl (fun p=>rfl) (fun p=>rfl) _ _ _ rfl (fun _=>b) 3 (fun p=>rfl) (fun p=>(ah (fun _=>0))) (fun p=>(congrArg Value.agg aQ)) (fun p=>(d9 X)) (fun p=>(d9 ⟨X.D,fun _=>0,X.P,X.g⟩)) 89 (fun p=>FB _ _ _ _ _) (fun p=>by first|(rw[ad,mi];decide)|simp[ad,mi]) (fun p=>by rw[ad];kernel_rfl) (fun p=>aG _) ?_ ?_
   ·rintro p L w1 ⟨hsz,hB,r,g,qb,lb⟩ hk
    exact cg g hk.1
   ·rintro p L w1 ⟨hsz,hB,r,g,qb,lb⟩ hk
    refine⟨(by simpa using hsz),hB.row (by first|exact .inr (nk hW0 hp.1)|exact .inr ge_g|exact .inl ⟨ns _,ns _⟩|omega|(have:=hB.size;simp at this|-;omega)) _,r.rowOther ne_r_g _,?_,qb.rowOther ne_qb_g _,lb.rowOther ne_lb_g _⟩
    rw[show cD L 5 5=true from rfl]
    exact g.row _
  exact aw.nil
 case hV0=>exact fun p q=>aw.nil
 case he=>
 clear hB r g qb lb
 rintro p w0r ⟨hsz,hB,r,g,qb,lb⟩
 replace g:af w0r b (d9 ⟨X.D,fun _=>0,X.P,X.g⟩) 89:=g
 clear lt_r lt_g lt_qb lt_lb hsz hW0
 go_upto_region 2 with(fail)
 have lt_r:=r.lt
 have lt_g:=g.lt
 have lt_qb:=qb.lt
 have lt_lb:=lb.lt
 have hW0:w.heap.size<=w0r.heap.size:=by simpa using hB.size
 apply ay 20 [0,1,3,7,15,31,63,127,255,511,1023,2047,4095,8191,16383,32767,65535,131071,262143,524287] [17] [_,_,_,_,_,_,_,_,_,_,_,_,_,_,_,_,_,(fun p=>.pointer (some ⟨p 17,0,none⟩)),(fun _=>undef),_] (fun p L w'=>w0r.heap.size<=w'.heap.size/\co b b w w'/\af w' w.heap.size (ah fun _=>0) 25/\af w' b (d9 ⟨X.D,fun _=>0,X.P,X.g⟩) 89/\af w' q (wT b) 35/\af w' l (aj Lf) 23/\(L 17=true->w0r.heap.size<=p 17/\af w' (p 17) (bif L 18 then(ah (aB Lf))else(ah fun _=>0)) 25)) _ [(0,13),(1,14),(2,15),(3,16),(4,17),(5,18),(6,19),(7,20),(8,21),(9,22),(10,23),(11,24),(12,25),(13,26),(14,12),(15,27),(16,28),(17,5),(19,6)] [0,1,2,3,4,5,6,7,8,9,10,11,12,13,14,15,16,17,18,19]
 case hn|hB|hds|hA=>exact rA
 case h0=>exact rH
 case hmore=>exact fun p L w1 w2 ⟨hsz,hB,r,g,qb,lb,h_x⟩ hm=>⟨Nat.le_trans hsz hm.size,hB.trans (hm.mono (Nat.le_trans hW0 hsz)),r.below hm r.lt,g.below hm g.lt,qb.below hm qb.lt,lb.below hm lb.lt,fun hl=>⟨(h_x hl).1,(h_x hl).2.below hm (h_x hl).2.lt⟩⟩
 case hs=>
  intro more
  refine aH ?_
  refine cm ?_ ?_
  ·rintro p L w1 ⟨hsz,hB,r,g,qb,lb,h_x⟩ hk
   have hc:w1.cell? ⟨l,1,none⟩=some (.int .i64 (Lf 1)):=lb.cellIs (aD _ oa)
   go_simp
   exact⟨rfl,rfl⟩
  iterate 3 (refine aH ?_)
  refine cm ?_ ?_
  ·rintro p L w1 ⟨hsz,hB,r,g,qb,lb,h_x⟩ hk
   have hc:w1.cell? ⟨l,2,none⟩=some (.int .i64 (Lf 2)):=lb.cellIs (aD _ oa)
   go_simp
   exact⟨rfl,rfl⟩
  iterate 3 (refine aH ?_)
  refine cm ?_ ?_
  ·rintro p L w1 ⟨hsz,hB,r,g,qb,lb,h_x⟩ hk
   have hc:w1.cell? ⟨l,3,none⟩=some (.int .i64 (Lf 3)):=lb.cellIs (aD _ oa)
   go_simp
   exact⟨rfl,rfl⟩
  iterate 2 (refine aH ?_)
  refine aw.cons ?_ ?_
  ·refine eK 12 rfl (fun p=>rfl) ?_ (fun _ _ _ h=>h)
   intros;go_simp;exact⟨congrArg Value.agg (sT (bH Lf)),rfl⟩
  refine bS 13 rfl (fun p=>rfl) (fun _ _ _ h=>h) more ?_ ?_
  ·rintro p L w1 ⟨hsz,hB,r,g,qb,lb,h_x⟩ hk
   go_simp
   exact(LI.out _).mono rC
  iterate 3 (refine aH ?_)
  refine aw.cons ?_ ?_
  ·refine aP 17 rfl (fun p=>rfl) rfl (ah fun _=>0) 25 (fun p=>rfl) ?_ ?_
   ·exact rZ
   rintro p L w1 ⟨hsz,hB,r,g,qb,lb,h_x⟩ hk
   have L18:L 18=false:=hk.2.2 18 rfl
   refine⟨nk hsz sd,hB.alloc (nk hW0 hsz) _,r.alloc _,g.alloc _,qb.alloc _,lb.alloc _,fun _=>⟨hsz,?_⟩⟩
   rw[show cD L 17 18=false from L18]
   exact af.new _ _ _
  refine aw.cons ?_ ?_
  ·refine aA 18 rfl (fun p=>rfl) (fun p=>rfl) _ _ _ rfl (fun p=>p 17) 0 (fun p=>rfl) (fun p=>(ah (aB Lf))) (fun p=>rfl) (fun p=>(ah fun _=>0)) (fun p=>(ah (aB Lf))) 25 (fun p=>dH _ _) (fun p=>by first|(rw[ad,ad];decide)|simp[ad,ad]) (fun p=>by rw[ad];kernel_rfl) (fun p=>aG _) ?_ ?_
   ·rintro p L w1 ⟨hsz,hB,r,g,qb,lb,h_x⟩ hk
    exact cg (h_x (hk.2.1 17 rfl)).2 hk.1
   ·rintro p L w1 ⟨hsz,hB,r,g,qb,lb,h_x⟩ hk
    have hp:=h_x (hk.2.1 17 rfl)
    refine⟨(by simpa using hsz),hB.row (by first|exact .inr (nk hW0 hp.1)|exact .inr ge_x|exact .inl ⟨ns _,ns _⟩|omega|(have:=hB.size;simp at this|-;omega)) _,r.rowOther (nL lt_r hp.1) _,g.rowOther (nL lt_g hp.1) _,qb.rowOther (nL lt_qb hp.1) _,lb.rowOther (nL lt_lb hp.1) _,fun _=>⟨hp.1,?_⟩⟩
    rw[show cD L 18 18=true from rfl]
    exact hp.2.row _
  refine aH ?_
  exact aw.nil
 case hV0=>exact rV
 case he=>
 clear hB r g qb lb
 rintro p w0rr ⟨hsz,hB,r,g,qb,lb,h_x⟩
 obtain⟨le_x,x⟩:=h_x rfl
 clear h_x
 replace x:af w0rr (p 17) (ah (aB Lf)) 25:=x
 have ne_r_x:w.heap.size≠p 17:=nN (nq lt_r le_x)
 have ne_g_x:b≠p 17:=nN (nq lt_g le_x)
 have ne_qb_x:q≠p 17:=nN (nq lt_qb le_x)
 have ne_lb_x:l≠p 17:=nN (nq lt_lb le_x)
 have ge_x:w.heap.size<=p 17:=nk hW0 le_x
 generalize p 17=x_b at *
 clear lt_r lt_g lt_qb lt_lb hsz hW0
 go_upto_region 3 with(fail)
 have lt_r:=r.lt
 have lt_g:=g.lt
 have lt_qb:=qb.lt
 have lt_lb:=lb.lt
 have lt_x:=x.lt
 have hW0:w.heap.size<=w0rr.heap.size:=by simpa using hB.size
 apply ay 2 [0,1] [] [_,(fun _=>undef)] (fun p L w'=>w0rr.heap.size<=w'.heap.size/\co b b w w'/\af w' w.heap.size (bif L 1 then(ah (aB Lf))else(ah fun _=>0)) 25/\af w' b (d9 ⟨X.D,fun _=>0,X.P,X.g⟩) 89/\af w' q (wT b) 35/\af w' l (aj Lf) 23/\af w' x_b (ah (aB Lf)) 25) _ [(0,29)] [0,1]
 case hn|hB|hds|hA=>exact rA
 case h0=>exact rH
 case hmore=>exact fun p L w1 w2 ⟨hsz,hB,r,g,qb,lb,x⟩ hm=>⟨Nat.le_trans hsz hm.size,hB.trans (hm.mono (Nat.le_trans hW0 hsz)),r.below hm r.lt,g.below hm g.lt,qb.below hm qb.lt,lb.below hm lb.lt,x.below hm x.lt⟩
 case hs=>
  intro more
  refine cm ?_ ?_
  ·rintro p L w1 ⟨hsz,hB,r,g,qb,lb,x⟩ hk
   first|exact br _ _ rfl _ rfl _ _ x _ yc rfl rI rfl|(have hc:=x.cellIs (az _ (show 0<3 by omega));go_simp;exact⟨rfl,rfl⟩)
  refine aw.cons ?_ ?_
  ·refine aA 1 rfl (fun p=>rfl) (fun p=>rfl) _ _ _ rfl (fun _=>w.heap.size) 0 (fun p=>rfl) (fun p=>(ah (aB Lf))) (fun p=>rfl) (fun p=>(ah fun _=>0)) (fun p=>(ah (aB Lf))) 25 (fun p=>dH _ _) (fun p=>by first|(rw[ad,ad];decide)|simp[ad,ad]) (fun p=>by rw[ad];kernel_rfl) (fun p=>aG _) ?_ ?_
   ·rintro p L w1 ⟨hsz,hB,r,g,qb,lb,x⟩ hk
    exact cg r hk.1
   ·rintro p L w1 ⟨hsz,hB,r,g,qb,lb,x⟩ hk
    refine⟨(by simpa using hsz),hB.row (by first|exact .inr (nk hW0 hp.1)|exact .inr ge_r|exact .inl ⟨ns _,ns _⟩|omega|(have:=hB.size;simp at this|-;omega)) _,?_,g.rowOther (Ne.symm ne_r_g) _,qb.rowOther (Ne.symm ne_r_qb) _,lb.rowOther (Ne.symm ne_r_lb) _,x.rowOther (Ne.symm ne_r_x) _⟩
    rw[show cD L 1 1=true from rfl]
    exact r.row _
  exact aw.nil
 case hV0=>exact fun p q=>aw.nil
 case he=>
 clear hB r g qb lb x
 rintro p w0rrr ⟨hsz,hB,r,g,qb,lb,x⟩
 replace r:af w0rrr w.heap.size (ah (aB Lf)) 25:=r
 clear lt_r lt_g lt_qb lt_lb lt_x hsz hW0
 go_wp2_with (fail)
 refine bodyPost_ret (results_cell_row rfl _ _ _ _ _ _ _ rfl r yc rfl rI) rfl ?_
 exact⟨rfl,hB.toRow hg g⟩
theorem JC {N:FuncId} {fn:Func} {c:Code} (h1:Tryz.prog.funcs[N]?=some fn) (h2:(fn.name=="runtime.NumGoroutine")=false) (hb:fn.body=some c):∀ar w1,Sem.run Tryz.prog (callFunc N ar) w1=.ok (.enter N ar) w1:=by
 intro ar w1
 have h3:fn.name≠"runtime.NumGoroutine":=by simpa using h2
 simp[callFunc,h1,h3,hb]
set_option maxRecDepth 100000 in
theorem Ar (X:dw) (V:n_) (q:Nat->Int) (b:Nat) (w:World) (hg:af w b (d9 X) 89) (ha:∀i,i<4->bu (V.att i)) (hq:∀i,i<4->bu (q i)) (hk:ce V=true) (hD:∀i,i<3->-4194304<=X.D i/\X.D i<=4194304) (hE:fF V.att q=0) (hL:∀i,i<4->-1099511627776<=am V.att q i/\am V.att q i<=1099511627776) (hT:∀i,i<3->-1099511627776<=aB (am V.att q) i/\aB (am V.att q) i<=1099511627776):Calls Tryz.prog 22 #[.pointer (some ⟨b,0,none⟩),.agg (jz V),.agg (aj q)] w fun e w'=>e=.returned (.tuple #[.agg (aj (ky X V (aB (am V.att q)))),.int .i64 0])/\af w' b (d9 (mo X V (fun _=>0) (aB (am V.att q)))) 89/\co b b w w':=by
 have BE:=aa (fun w=>gQ V.att q w ha hq)
 rw[hE]at BE
 clear hE ha hq
 have ST:=aa (fun w1 v0 l (g:af w1 b (d9 X) 89) (hv:af w1 v0 (wT b) 35) (hl:af w1 l (aj (am V.att q)) 23) (hne:v0≠b) (hnl:l≠b)=>u5 X V b 60 #[.pointer (some ⟨v0,0,none⟩),.pointer (some ⟨l,0,none⟩)] (fun _=>0) (aB (am V.att q)) w1 g hk hD hT (fun w2 hS hg2=>vW X (am V.att q) b v0 l (ee X V) w2 hg2 (hv.save hS oa) (hl.save hS oa) hL) (JC Tryz.func60 rfl rfl))
 clear hk hD hT hL
 generalize aB (am V.att q)=To at *
 generalize am V.att q=Bt at *
 go_enter Tryz.func22,Tryz.ntmps22
 go_upto_region 1 with(fail)
 simp only[show#[Value.pointer (some ⟨b,0,none⟩)]=wT b from rfl,dp]
 have pp:af ((((w.alloc (.cells (wT b) 35)).alloc (.cells (jz V) 67)).alloc (.cells (aj q) 23)).alloc (.cells (aj fun _=>0) 22)) w.heap.size (wT b) 35:=(((af.new _ _ _).alloc _).alloc _).alloc _
 have v:af ((((w.alloc (.cells (wT b) 35)).alloc (.cells (jz V) 67)).alloc (.cells (aj q) 23)).alloc (.cells (aj fun _=>0) 22)) (w.heap.size+1) (jz V) 67:=((af.new' sd).alloc _).alloc _
 have tq:af ((((w.alloc (.cells (wT b) 35)).alloc (.cells (jz V) 67)).alloc (.cells (aj q) 23)).alloc (.cells (aj fun _=>0) 22)) (w.heap.size+2) (aj q) 23:=(af.new' sd).alloc _
 have r:af ((((w.alloc (.cells (wT b) 35)).alloc (.cells (jz V) 67)).alloc (.cells (aj q) 23)).alloc (.cells (aj fun _=>0) 22)) (w.heap.size+3) (aj fun _=>0) 22:=af.new' sd
 have hB:Below w.heap.size w ((((w.alloc (.cells (wT b) 35)).alloc (.cells (jz V) 67)).alloc (.cells (aj q) 23)).alloc (.cells (aj fun _=>0) 22)):=by go_grown
 generalize((((w.alloc (.cells (wT b) 35)).alloc (.cells (jz V) 67)).alloc (.cells (aj q) 23)).alloc (.cells (aj fun _=>0) 22))=w0 at *
 have g:af w0 b (d9 X) 89:=hg.below hB hg.lt
 have gl:=hg.lt
 have ne_pp_g:w.heap.size≠b:=oa
 have ne_v_g:(w.heap.size+1)≠b:=oa
 have ne_tq_g:(w.heap.size+2)≠b:=oa
 have ne_r_g:(w.heap.size+3)≠b:=oa
 replace hB:co b b w w0:=co.of hB
 have cp:w0.cell? ⟨w.heap.size,0,none⟩=some (.pointer (some ⟨b,0,none⟩)):=pp.cellIs rfl
 have lt_pp:=pp.lt
 have lt_v:=v.lt
 have lt_tq:=tq.lt
 have lt_r:=r.lt
 have lt_g:=g.lt
 have hW0:w.heap.size<=w0.heap.size:=by simpa using hB.size
 apply ay 10 [0,1,3,7,15,31,63,127,255,511] [7] [_,_,_,_,_,_,_,(fun p=>.pointer (some ⟨p 7,0,none⟩)),(fun _=>undef),_] (fun p L w'=>w0.heap.size<=w'.heap.size/\co b b w w'/\af w' w.heap.size (wT b) 35/\af w' (w.heap.size+1) (jz V) 67/\af w' (w.heap.size+2) (aj q) 23/\af w' (w.heap.size+3) (aj fun _=>0) 22/\af w' b (d9 X) 89/\(L 7=true->w0.heap.size<=p 7/\af w' (p 7) (bif L 8 then(aj Bt)else(aj fun _=>0)) 23)) _ [(0,11),(1,12),(2,13),(3,14),(4,10),(5,15),(6,16),(7,8),(9,9)] [0,1,2,3,4,5,6,7,8,9]
 case hn|hB|hds|hA=>exact rA
 case h0=>exact rH
 case hmore=>exact fun p L w1 w2 ⟨hsz,hB,pp,v,tq,r,g,h_lf⟩ hm=>⟨Nat.le_trans hsz hm.size,hB.trans (hm.mono (Nat.le_trans hW0 hsz)),pp.below hm pp.lt,v.below hm v.lt,tq.below hm tq.lt,r.below hm r.lt,g.below hm g.lt,fun hl=>⟨(h_lf hl).1,(h_lf hl).2.below hm (h_lf hl).2.lt⟩⟩
 case hs=>
  intro more
  refine aH ?_
  refine cm ?_ ?_
  ·rintro p L w1 ⟨hsz,hB,pp,v,tq,r,g,h_lf⟩ hk
   exact aO _ _ rfl _ 11 rfl _ _ v (aj V.att) (K7 V) _ yb rfl rI rfl
  refine cm ?_ ?_
  ·rintro p L w1 ⟨hsz,hB,pp,v,tq,r,g,h_lf⟩ hk
   first|exact br _ _ rfl _ rfl _ _ tq _ yb rfl rI rfl|(have hc:=tq.cellIs (aD _ (show 0<4 by omega));go_simp;exact⟨rfl,rfl⟩)
  refine bS 3 rfl (fun p=>rfl) (fun _ _ _ h=>h) more ?_ ?_
  ·rintro p L w1 ⟨hsz,hB,pp,v,tq,r,g,h_lf⟩ hk
   go_simp
   exact(BE.out _).mono rC
  iterate 3 (refine aH ?_)
  refine aw.cons ?_ ?_
  ·refine aP 7 rfl (fun p=>rfl) rfl (aj fun _=>0) 23 (fun p=>rfl) ?_ ?_
   ·exact rZ
   rintro p L w1 ⟨hsz,hB,pp,v,tq,r,g,h_lf⟩ hk
   have L8:L 8=false:=hk.2.2 8 rfl
   refine⟨nk hsz sd,hB.alloc (nk hW0 hsz) _,pp.alloc _,v.alloc _,tq.alloc _,r.alloc _,g.alloc _,fun _=>⟨hsz,?_⟩⟩
   rw[show cD L 7 8=false from L8]
   exact af.new _ _ _
  refine aw.cons ?_ ?_
  ·refine aA 8 rfl (fun p=>rfl) (fun p=>rfl) _ _ _ rfl (fun p=>p 7) 0 (fun p=>rfl) (fun p=>(aj Bt)) (fun p=>rfl) (fun p=>(aj fun _=>0)) (fun p=>(aj Bt)) 23 (fun p=>dK _ _) (fun p=>by first|(rw[ak,ak];decide)|simp[ak,ak]) (fun p=>by rw[ak];kernel_rfl) (fun p=>bF _) ?_ ?_
   ·rintro p L w1 ⟨hsz,hB,pp,v,tq,r,g,h_lf⟩ hk
    exact cg (h_lf (hk.2.1 7 rfl)).2 hk.1
   ·rintro p L w1 ⟨hsz,hB,pp,v,tq,r,g,h_lf⟩ hk
    have hp:=h_lf (hk.2.1 7 rfl)
    refine⟨(by simpa using hsz),hB.row (by first|exact .inr (nk hW0 hp.1)|exact .inr ge_lf|exact .inl ⟨ns _,ns _⟩|omega|(have:=hB.size;simp at this|-;omega)) _,pp.rowOther (nL lt_pp hp.1) _,v.rowOther (nL lt_v hp.1) _,tq.rowOther (nL lt_tq hp.1) _,r.rowOther (nL lt_r hp.1) _,g.rowOther (nL lt_g hp.1) _,fun _=>⟨hp.1,?_⟩⟩
    rw[show cD L 8 8=true from rfl]
    exact hp.2.row _
  refine aH ?_
  exact aw.nil
 case hV0=>exact rV
 case he=>
 clear hB pp v tq r g
 rintro p w0r ⟨hsz,hB,pp,v,tq,r,g,h_lf⟩
 obtain⟨le_lf,lf⟩:=h_lf rfl
 clear h_lf
 replace lf:af w0r (p 7) (aj Bt) 23:=lf
 have ne_pp_lf:w.heap.size≠p 7:=nN (nq lt_pp le_lf)
 have ne_v_lf:(w.heap.size+1)≠p 7:=nN (nq lt_v le_lf)
 have ne_tq_lf:(w.heap.size+2)≠p 7:=nN (nq lt_tq le_lf)
 have ne_r_lf:(w.heap.size+3)≠p 7:=nN (nq lt_r le_lf)
 have ne_g_lf:b≠p 7:=nN (nq lt_g le_lf)
 have ge_lf:w.heap.size<=p 7:=nk hW0 le_lf
 generalize p 7=lf_b at *
 clear lt_pp lt_v lt_tq lt_r lt_g hsz hW0
 have cp2:w0r.cell? ⟨w.heap.size,0,none⟩=some (.pointer (some ⟨b,0,none⟩)):=pp.cellIs rfl
 have ge_lf2:w.heap.size<=lf_b:=ge_lf
 have ne_lf_g:lf_b≠b:=oa
 go_wp2_with (first|(refine ac ?hw _ _ rfl _ rfl _ _ _ _ v yi rfl ?hi ?_;(case hw=>exact rW);(case hi=>(first|kernel_rfl|(rw[DK];kernel_rfl))))|(go_at_call 59;with_reducible refine(ST.out _ _ _ g pp lf ne_pp_g ne_lf_g).mono ?_;rintro e wz ⟨rfl,g2,hS⟩;replace pp:=pp.save hS oa;replace v:=v.save hS oa;replace tq:=tq.save hS oa;replace r:=r.save hS oa;replace lf:=lf.save hS oa;replace hB:=hB.next hS;replace g:=g2;clear hS g2)|(refine ag rfl _ _ _ rfl _ rfl _ rfl _ _ r rI (by first|rfl|simp only[ak]) (by first|exact bF _|rfl) ?_))
 refine bodyPost_ret (aq rfl _ _ _ _ _ _ _ rfl (r.row (aj (ky X V To))) ya rfl rI) rfl ?_
 exact⟨rfl,g.rowOther (Ne.symm ne_r_g) _,hB.row (by first|exact .inr oa|(have:=hB.size;omega)) _⟩
end Go.Proofs.YtbhahonkhiiilaaGreat
